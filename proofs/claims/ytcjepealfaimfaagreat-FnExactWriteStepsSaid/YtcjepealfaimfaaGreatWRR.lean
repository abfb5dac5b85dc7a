/- FnExactWriteSteps returns true for every argument, and its arguments read behind the call as they read before. No condition. -/
import Derived.Test.YtcjepealfaimfaaGreatRows
import Derived.Test.YtcjepealfaimfaaGreatWRW3
import Derived.Test.YtcjepealfaimfaaGreatWRP
import Derived.Test.YtcjepealfaimfaaGreatWRTID
import Derived.WalkKit
import Derived.ProofKit
import Derived.OpenShut
import Derived.ShutString
import Derived.ChangeOld
import Derived.Below
import Derived.SizedLaws
namespace Go.Proofs.YtcjepealfaimfaaGreat.fnExactWriteSteps
open Go.ChangeShapes Go.WideShapes Go.ChangeAt Go.RowKit Go.TI
set_option linter.unusedVariables false
set_option linter.unusedSimpArgs false
def c32 (o : Bool) (x : Go.TI.Device) : List TV := [.sl o 176 3 (encs (c176 o) x.Flash.Blocks), .sl o 188 2 (encs c188 x.Store.Vols), .sl o 211 2 (encs (c211 o) x.Store.Arena.Knots), .int .i64 x.Store.Next, .int .i64 x.Seq, .int .i64 x.Tx, .int .i64 x.Base]
theorem k32 (o : Bool) : ∀ x, (c32 o x).length = 7 := fun _ => rfl
theorem sh32 : ∀ l, shares (encs (c32 true) l) = encs (c32 false) l := shares_encs (fun x => by simp only [c32, shares, share, sh176, sh188, sh211])
theorem ns32 : ∀ l, hasShareds (encs (c32 true) l) = false := ns_encs (fun x => by simp [c32, hasShareds, hasShared, ns176, ns188, ns211])
def c24 (o : Bool) (x : Go.TI.Flash) : List TV := [.sl o 176 3 (encs (c176 o) x.Blocks)]
theorem k24 (o : Bool) : ∀ x, (c24 o x).length = 1 := fun _ => rfl
theorem sh24 : ∀ l, shares (encs (c24 true) l) = encs (c24 false) l := shares_encs (fun x => by simp only [c24, shares, share, sh176])
theorem ns24 : ∀ l, hasShareds (encs (c24 true) l) = false := ns_encs (fun x => by simp [c24, hasShareds, hasShared, ns176])
def c30 (o : Bool) (x : Go.TI.Store) : List TV := [.sl o 188 2 (encs c188 x.Vols), .sl o 211 2 (encs (c211 o) x.Arena.Knots), .int .i64 x.Next]
theorem k30 (o : Bool) : ∀ x, (c30 o x).length = 3 := fun _ => rfl
theorem sh30 : ∀ l, shares (encs (c30 true) l) = encs (c30 false) l := shares_encs (fun x => by simp only [c30, shares, share, sh188, sh211])
theorem ns30 : ∀ l, hasShareds (encs (c30 true) l) = false := ns_encs (fun x => by simp [c30, hasShareds, hasShared, ns188, ns211])
def c28 (o : Bool) (x : Go.TI.Arena) : List TV := [.sl o 211 2 (encs (c211 o) x.Knots)]
theorem k28 (o : Bool) : ∀ x, (c28 o x).length = 1 := fun _ => rfl
theorem sh28 : ∀ l, shares (encs (c28 true) l) = encs (c28 false) l := shares_encs (fun x => by simp only [c28, shares, share, sh211])
theorem ns28 : ∀ l, hasShareds (encs (c28 true) l) = false := ns_encs (fun x => by simp [c28, hasShareds, hasShared, ns211])
theorem own : ownKnob Tryz.prog.godebug = none := by kernel_rfl
theorem laidOut : laidOutB Tryz.prog = true := by kernel_rfl
set_option maxRecDepth 100000 in
theorem op4 : Opens Tryz.prog 4 (fun b : Bool => [.bool b]) oB := opens_bool Tryz.underlying4
set_option maxRecDepth 100000 in
theorem op3 : Opens Tryz.prog 3 (fun n : Int => [.int .i64 n]) oI := opens_int Tryz.underlying3
set_option maxRecDepth 100000 in
theorem op9 : Opens Tryz.prog 9 (fun s : ByteArray => [.str s]) oS := opens_string Tryz.underlying9
set_option maxRecDepth 100000 in
theorem op247 : Opens Tryz.prog 247 c247 oLeaf := opens_struct (fun b => Go.TI.Leaf.mk b.1 b.2.1) Tryz.underlying247 rfl (opensF_cons rfl rfl op3 (opensF_cons rfl rfl op9 opensF_nil)) (fun b hb => ⟨⟨hb.1, hb.2.1⟩, rfl⟩)
set_option maxRecDepth 100000 in
theorem op174 : Opens Tryz.prog 174 (fun l : List Go.TI.Leaf => [.sl false 247 2 (encs c247 l)]) (ol oLeaf) := opens_slice Tryz.underlying174 rfl (by decide) k247 op247
set_option maxRecDepth 100000 in
theorem op176 : Opens Tryz.prog 176 (c176 false) oBlock := opens_struct (fun b => Go.TI.Block.mk b.1 b.2.1 b.2.2.1) Tryz.underlying176 rfl (opensF_cons rfl rfl op4 (opensF_cons rfl rfl op3 (opensF_cons rfl rfl op174 opensF_nil))) (fun b hb => ⟨⟨hb.1, hb.2.1, hb.2.2.1⟩, rfl⟩)
set_option maxRecDepth 100000 in
theorem op22 : Opens Tryz.prog 22 (fun l : List Go.TI.Block => [.sl false 176 3 (encs (c176 false) l)]) (ol oBlock) := opens_slice Tryz.underlying22 rfl (by decide) (k176 false) op176
set_option maxRecDepth 100000 in
theorem op24 : Opens Tryz.prog 24 (c24 false) oFlash := opens_struct (fun b => Go.TI.Flash.mk b.1) Tryz.underlying24 rfl (opensF_cons rfl rfl op22 opensF_nil) (fun b hb => ⟨hb.1, rfl⟩)
set_option maxRecDepth 100000 in
theorem op188 : Opens Tryz.prog 188 c188 oVol := opens_struct (fun b => Go.TI.Vol.mk b.1 b.2.1) Tryz.underlying188 rfl (opensF_cons rfl rfl op3 (opensF_cons rfl rfl op3 opensF_nil)) (fun b hb => ⟨⟨hb.1, hb.2.1⟩, rfl⟩)
set_option maxRecDepth 100000 in
theorem op25 : Opens Tryz.prog 25 (fun l : List Go.TI.Vol => [.sl false 188 2 (encs c188 l)]) (ol oVol) := opens_slice Tryz.underlying25 rfl (by decide) k188 op188
set_option maxRecDepth 100000 in
theorem op66 : Opens Tryz.prog 66 (fun l : List Int => [.sl false 3 1 (encs c3 l)]) (ol oI) := opens_slice Tryz.underlying66 rfl (by decide) k3 op3
set_option maxRecDepth 100000 in
theorem op211 : Opens Tryz.prog 211 (c211 false) oKnot := opens_struct (fun b => Go.TI.Knot.mk b.1 b.2.1) Tryz.underlying211 rfl (opensF_cons rfl rfl op4 (opensF_cons rfl rfl op66 opensF_nil)) (fun b hb => ⟨⟨hb.1, hb.2.1⟩, rfl⟩)
set_option maxRecDepth 100000 in
theorem op26 : Opens Tryz.prog 26 (fun l : List Go.TI.Knot => [.sl false 211 2 (encs (c211 false) l)]) (ol oKnot) := opens_slice Tryz.underlying26 rfl (by decide) (k211 false) op211
set_option maxRecDepth 100000 in
theorem op28 : Opens Tryz.prog 28 (c28 false) oArena := opens_struct (fun b => Go.TI.Arena.mk b.1) Tryz.underlying28 rfl (opensF_cons rfl rfl op26 opensF_nil) (fun b hb => ⟨hb.1, rfl⟩)
set_option maxRecDepth 100000 in
theorem op30 : Opens Tryz.prog 30 (c30 false) oStore := opens_struct (fun b => Go.TI.Store.mk b.1 b.2.1 b.2.2.1) Tryz.underlying30 rfl (opensF_cons rfl rfl op25 (opensF_cons rfl rfl op28 (opensF_cons rfl rfl op3 opensF_nil))) (fun b hb => ⟨⟨hb.1, hb.2.1, hb.2.2.1⟩, rfl⟩)
set_option maxRecDepth 100000 in
theorem op32 : Opens Tryz.prog 32 (c32 false) oDevice := opens_struct (fun b => Go.TI.Device.mk b.1 b.2.1 b.2.2.1 b.2.2.2.1 b.2.2.2.2.1) Tryz.underlying32 rfl (opensF_cons rfl rfl op24 (opensF_cons rfl rfl op30 (opensF_cons rfl rfl op3 (opensF_cons rfl rfl op3 (opensF_cons rfl rfl op3 opensF_nil))))) (fun b hb => ⟨⟨hb.1, hb.2.1, hb.2.2.1, hb.2.2.2.1, hb.2.2.2.2.1⟩, rfl⟩)
set_option maxRecDepth 100000 in
theorem op92 : Opens Tryz.prog 92 c92 oRec := opens_struct (fun b => Go.TI.Rec.mk b.1 b.2.1 b.2.2.1 b.2.2.2.1) Tryz.underlying92 rfl (opensF_cons rfl rfl op3 (opensF_cons rfl rfl op3 (opensF_cons rfl rfl op3 (opensF_cons rfl rfl op3 opensF_nil)))) (fun b hb => ⟨⟨hb.1, hb.2.1, hb.2.2.1, hb.2.2.2.1⟩, rfl⟩)
set_option maxRecDepth 100000 in
theorem op33 : Opens Tryz.prog 33 (fun l : List Go.TI.Rec => [.sl false 92 4 (encs c92 l)]) (ol oRec) := opens_slice Tryz.underlying33 rfl (by decide) k92 op92
set_option maxRecDepth 100000 in
theorem lifted (os : Os) (started : os.Started) (H : Type) (enc : TypeId × Value → H) :
    ReturnsInHanded {} Tryz.checked os 3 .any (Rows.fnExactWriteStepsSpec.pre6 enc Tryz.prog Tryz.f3 Rows.fnExactWriteStepsRow.domain false) (Rows.fnExactWriteStepsSpec.post enc Tryz.prog Tryz.f3 false true false false) := by
  refine returnsInHanded_of_change_sized (C := Tryz.checked) own started (by kernel_rfl) Tryz.func3
    (ChangeSpec.witness6 (enc := enc) (C := Tryz.checked) false ⟨#[], #[.agg #[.slice none 0 0, .slice none 0 0, .slice none 0 0, .int .i64 0, .int .i64 0, .int .i64 0, .int .i64 0], .slice none 0 0, .string ByteArray.empty], []⟩ 8 (by kernel_rfl) (by kernel_rfl) (by kernel_rfl) (by kernel_rfl)) ?_
  intro W base args ds gs before hval0 hW hcnd hsz0 _
  have hval : ∀ (j : Nat) t v, Tryz.f3.params[j]? = some t → args[j]? = some v → Value.okWide Tryz.prog W .any base t v := hval0
  have hW' := hW
  obtain ⟨p, q, hA0, hV, rfl, hfz, hnd⟩ := hW
  have hA : DataW.TrodAll enc Tryz.prog W 0 (fun _ => true) true Tryz.f3.params.toList args.toList ds p := hA0
  rw [Tryz.params3] at hA hval
  obtain ⟨v0, vs0, d0, ds0, p0, q0, hargs, rfl, rfl, h0, r0⟩ := trodAll_cons hA
  obtain ⟨v1, vs1, d1, ds1, p1, q1, rfl, rfl, rfl, h1, r1⟩ := trodAll_cons r0
  obtain ⟨v2, vs2, d2, ds2, p2, q2, rfl, rfl, rfl, h2, r2⟩ := trodAll_cons r1
  obtain ⟨rfl, rfl, rfl⟩ := trodAll_nil r2
  obtain rfl : args = #[v0, v1, v2] := by cases args; simp_all
  obtain ⟨rfl, rfl⟩ := trodVars_none hV
  have lt0 : ∀ x ∈ p0, x.block < W.heap.size := by obtain ⟨m, hm⟩ := h0; exact DataW.trod_lt m _ _ _ hm
  obtain ⟨xs0, hxs0⟩ : ∃ xs, v0 = Value.agg xs := by have := hval 0 32 v0 rfl rfl; unfold Value.okWide at this; simp only [Tryz.underlying32] at this; exact ⟨_, this.choose_spec.1⟩
  obtain ⟨a0, U0, o0, s0, b0⟩ := arg_agg op32 hxs0 h0
  have lt1 : ∀ x ∈ p1, x.block < W.heap.size := by obtain ⟨m, hm⟩ := h1; exact DataW.trod_lt m _ _ _ hm
  have c1 : v1.cells = #[v1] := one_cell (t := 33) (hval 1 33 v1 rfl rfl) (by simp only [Tryz.underlying33]; exact fun _ => by simp) (by simp only [Tryz.underlying33]; exact fun _ _ => by simp)
  obtain ⟨a1, U1, o1, s1, b1⟩ := arg_one op33 c1 h1
  have lt2 : ∀ x ∈ p2, x.block < W.heap.size := by obtain ⟨m, hm⟩ := h2; exact DataW.trod_lt m _ _ _ hm
  have c2 : v2.cells = #[v2] := one_cell (t := 9) (hval 2 9 v2 rfl rfl) (by simp only [Tryz.underlying9]; exact fun _ => by simp) (by simp only [Tryz.underlying9]; exact fun _ _ => by simp)
  obtain ⟨a2, U2, o2, s2, b2⟩ := arg_one op9 c2 h2
  have hargsR : argsR W [.sv (.agg [.sl false 176 3 (encs (c176 false) a0.Flash.Blocks), .sl false 188 2 (encs c188 a0.Store.Vols), .sl false 211 2 (encs (c211 false) a0.Store.Arena.Knots), .int .i64 a0.Store.Next, .int .i64 a0.Seq, .int .i64 a0.Tx, .int .i64 a0.Base]), .sv (.one (.sl false 92 4 (encs c92 a1))), .sv (Y a2)] [v0, v1, v2] [] (U0 ++ (U1 ++ (U2 ++ []))) := ⟨_, _, [], [], U0, (U1 ++ (U2 ++ [])), rfl, rfl, rfl, s0, ⟨_, _, [], [], U1, (U2 ++ []), rfl, rfl, rfl, s1, ⟨_, _, [], [], U2, [], rfl, rfl, rfl, s2, ⟨rfl, rfl, rfl⟩⟩⟩⟩
  refine (w_FnExactWriteSteps_t a0 a1 a2 true (Go.TI.writeSteps_true a0 a1 a2 o0 o1 o2) W _ [] _ hargsR List.nodup_nil (by simp) (by
    intro b hb
    simp only [List.nil_append, List.append_nil, List.mem_append] at hb
    rcases hb with hb | hb | hb
    · exact b0 b hb
    · exact b1 b hb
    · exact b2 b hb)).mono fun e' W' ⟨v, F, U, G, V, he, hl⟩ => ?_
  have bel : Below W.heap.size W W' := ⟨hl.os, hl.tape, hl.output, hl.size, fun k hk => hl.keep k hk (by simp)⟩
  have hv : v = .bool true := by
    have := hl.res
    simp only [svR, rep] at this
    exact this.1.1
  subst hv
  subst he
  exact ⟨_, rfl, _, _, _, [], _, [], hW', trodAll_mk1 (shut_bool Tryz.underlying4 _), (trodAll_cons_mk (Below.trod laidOut (by kernel_rfl) (of_decide_eq_true (by kernel_rfl)) h0 bel lt0) (trodAll_cons_mk (Below.trod laidOut (by kernel_rfl) (of_decide_eq_true (by kernel_rfl)) h1 bel lt1) (trodAll_cons_mk (Below.trod laidOut (by kernel_rfl) (of_decide_eq_true (by kernel_rfl)) h2 bel lt2) trodAll_mk0))), rfl, bel.frame _, fun h => by cases h⟩

theorem over : Rows.fnExactWriteStepsRow.holds Tryz.pinned (OpenSpec.ofChange Rows.fnExactWriteStepsSpec) :=
  OpenClaim.holds_of_wide 3 Tryz.f3 rfl rfl rfl rfl rfl rfl rfl ⟨rfl, rfl, rfl, rfl, rfl⟩ rfl rfl rfl rfl rfl (by kernel_rfl) Tryz.func3 (by kernel_rfl)
    (of_decide_eq_true (by kernel_rfl)) (by unfold Func.isWrapper; first | (rw [if_pos (by decide +kernel)]; kernel_rfl) | (rw [if_neg (by decide +kernel)]; exact ⟨rfl, rfl⟩))
    (fun os started H enc _ => lifted os started H enc)
theorem proved : Rows.FnExactWriteStepsSaid := over
#print axioms proved
end Go.Proofs.YtcjepealfaimfaaGreat.fnExactWriteSteps
namespace Go.Proofs.YtcjepealfaimfaaGreat
theorem fnExactWriteSteps_holds : Rows.FnExactWriteStepsSaid := fnExactWriteSteps.proved
end Go.Proofs.YtcjepealfaimfaaGreat
