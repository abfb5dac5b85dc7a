/- FnExactPlanOf returns true for every argument, and its arguments read behind the call as they read before. No condition. -/
import Derived.Test.YtcjepealfaimfaaGreatRows
import Derived.Test.YtcjepealfaimfaaGreatPOW4
import Derived.Test.YtcjepealfaimfaaGreatPOP
import Derived.Test.YtcjepealfaimfaaGreatPOTID
import Derived.WalkKit
import Derived.ProofKit
import Derived.OpenShut
import Derived.ShutString
import Derived.ChangeOld
import Derived.Below
import Derived.SizedLaws
namespace Go.Proofs.YtcjepealfaimfaaGreat.fnExactPlanOf
open Go.ChangeShapes Go.WideShapes Go.ChangeAt Go.RowKit Go.TI
set_option linter.unusedVariables false
set_option linter.unusedSimpArgs false
def c32 (o : Bool) (x : Go.TI.Device) : List TV := [.sl o 176 3 (encs (c176 o) x.Flash.Blocks), .sl o 188 2 (encs c188 x.Store.Vols), .sl o 211 2 (encs (c211 o) x.Store.Arena.Knots), .int .i64 x.Store.Next, .int .i64 x.Seq, .int .i64 x.Tx, .int .i64 x.Base]
theorem k32 (o : Bool) : ∀ x, (c32 o x).length = 7 := fun _ => rfl
theorem sh32 : ∀ l, shares (encs (c32 true) l) = encs (c32 false) l := shares_encs (fun x => by simp only [c32, shares, share, sh176, sh188, sh211])
theorem ns32 : ∀ l, hasShareds (encs (c32 true) l) = false := ns_encs (fun x => by simp [c32, hasShareds, hasShared, ns176, ns188, ns211])
def c24 (o : Bool) (x : Go.TI.Flash) : List TV := [.sl o 176 3 (encs (c176 o) x.Blocks)]
theorem k24 (o : Bool) : ∀ x, (c24 o x).length = 1 := fun _ => rfl
theorem sh24 : ∀ l, shares (encs (c24 true) l) = encs (c24 false) l := shares_encs (fun x => by simp only [c24, shares, share, sh176])
theorem ns24 : ∀ l, hasShareds (encs (c24 true) l) = false := ns_encs (fun x => by simp [c24, hasShareds, hasShared, ns176])
def c30 (o : Bool) (x : Go.TI.Store) : List TV := [.sl o 188 2 (encs c188 x.Vols), .sl o 211 2 (encs (c211 o) x.Arena.Knots), .int .i64 x.Next]
theorem k30 (o : Bool) : ∀ x, (c30 o x).length = 3 := fun _ => rfl
theorem sh30 : ∀ l, shares (encs (c30 true) l) = encs (c30 false) l := shares_encs (fun x => by simp only [c30, shares, share, sh188, sh211])
theorem ns30 : ∀ l, hasShareds (encs (c30 true) l) = false := ns_encs (fun x => by simp [c30, hasShareds, hasShared, ns188, ns211])
def c28 (o : Bool) (x : Go.TI.Arena) : List TV := [.sl o 211 2 (encs (c211 o) x.Knots)]
theorem k28 (o : Bool) : ∀ x, (c28 o x).length = 1 := fun _ => rfl
theorem sh28 : ∀ l, shares (encs (c28 true) l) = encs (c28 false) l := shares_encs (fun x => by simp only [c28, shares, share, sh211])
theorem ns28 : ∀ l, hasShareds (encs (c28 true) l) = false := ns_encs (fun x => by simp [c28, hasShareds, hasShared, ns211])
def c71 (x : Go.TI.Ask) : List TV := [.int .i64 x.Kind, .int .i64 x.Vol, .int .i64 x.Sector, .int .i64 x.Of, .str x.Text]
theorem k71 : ∀ x, (c71 x).length = 5 := fun _ => rfl
theorem sh71 : ∀ l, shares (encs c71 l) = encs c71 l := shares_encs (fun _ => rfl)
theorem ns71 : ∀ l, hasShareds (encs c71 l) = false := ns_encs (fun _ => rfl)
theorem own : ownKnob Tryz.prog.godebug = none := by kernel_rfl
theorem laidOut : laidOutB Tryz.prog = true := by kernel_rfl
set_option maxRecDepth 100000 in
theorem op4 : Opens Tryz.prog 4 (fun b : Bool => [.bool b]) oB := opens_bool Tryz.underlying4
set_option maxRecDepth 100000 in
theorem op3 : Opens Tryz.prog 3 (fun n : Int => [.int .i64 n]) oI := opens_int Tryz.underlying3
set_option maxRecDepth 100000 in
theorem op9 : Opens Tryz.prog 9 (fun s : ByteArray => [.str s]) oS := opens_string Tryz.underlying9
set_option maxRecDepth 100000 in
theorem op247 : Opens Tryz.prog 247 c247 oLeaf := opens_struct (fun b => Go.TI.Leaf.mk b.1 b.2.1) Tryz.underlying247 rfl (opensF_cons rfl rfl op3 (opensF_cons rfl rfl op9 opensF_nil)) (fun b hb => ⟨⟨hb.1, hb.2.1⟩, rfl⟩)
set_option maxRecDepth 100000 in
theorem op174 : Opens Tryz.prog 174 (fun l : List Go.TI.Leaf => [.sl false 247 2 (encs c247 l)]) (ol oLeaf) := opens_slice Tryz.underlying174 rfl (by decide) k247 op247
set_option maxRecDepth 100000 in
theorem op176 : Opens Tryz.prog 176 (c176 false) oBlock := opens_struct (fun b => Go.TI.Block.mk b.1 b.2.1 b.2.2.1) Tryz.underlying176 rfl (opensF_cons rfl rfl op4 (opensF_cons rfl rfl op3 (opensF_cons rfl rfl op174 opensF_nil))) (fun b hb => ⟨⟨hb.1, hb.2.1, hb.2.2.1⟩, rfl⟩)
set_option maxRecDepth 100000 in
theorem op22 : Opens Tryz.prog 22 (fun l : List Go.TI.Block => [.sl false 176 3 (encs (c176 false) l)]) (ol oBlock) := opens_slice Tryz.underlying22 rfl (by decide) (k176 false) op176
set_option maxRecDepth 100000 in
theorem op24 : Opens Tryz.prog 24 (c24 false) oFlash := opens_struct (fun b => Go.TI.Flash.mk b.1) Tryz.underlying24 rfl (opensF_cons rfl rfl op22 opensF_nil) (fun b hb => ⟨hb.1, rfl⟩)
set_option maxRecDepth 100000 in
theorem op188 : Opens Tryz.prog 188 c188 oVol := opens_struct (fun b => Go.TI.Vol.mk b.1 b.2.1) Tryz.underlying188 rfl (opensF_cons rfl rfl op3 (opensF_cons rfl rfl op3 opensF_nil)) (fun b hb => ⟨⟨hb.1, hb.2.1⟩, rfl⟩)
set_option maxRecDepth 100000 in
theorem op25 : Opens Tryz.prog 25 (fun l : List Go.TI.Vol => [.sl false 188 2 (encs c188 l)]) (ol oVol) := opens_slice Tryz.underlying25 rfl (by decide) k188 op188
set_option maxRecDepth 100000 in
theorem op66 : Opens Tryz.prog 66 (fun l : List Int => [.sl false 3 1 (encs c3 l)]) (ol oI) := opens_slice Tryz.underlying66 rfl (by decide) k3 op3
set_option maxRecDepth 100000 in
theorem op211 : Opens Tryz.prog 211 (c211 false) oKnot := opens_struct (fun b => Go.TI.Knot.mk b.1 b.2.1) Tryz.underlying211 rfl (opensF_cons rfl rfl op4 (opensF_cons rfl rfl op66 opensF_nil)) (fun b hb => ⟨⟨hb.1, hb.2.1⟩, rfl⟩)
set_option maxRecDepth 100000 in
theorem op26 : Opens Tryz.prog 26 (fun l : List Go.TI.Knot => [.sl false 211 2 (encs (c211 false) l)]) (ol oKnot) := opens_slice Tryz.underlying26 rfl (by decide) (k211 false) op211
set_option maxRecDepth 100000 in
theorem op28 : Opens Tryz.prog 28 (c28 false) oArena := opens_struct (fun b => Go.TI.Arena.mk b.1) Tryz.underlying28 rfl (opensF_cons rfl rfl op26 opensF_nil) (fun b hb => ⟨hb.1, rfl⟩)
set_option maxRecDepth 100000 in
theorem op30 : Opens Tryz.prog 30 (c30 false) oStore := opens_struct (fun b => Go.TI.Store.mk b.1 b.2.1 b.2.2.1) Tryz.underlying30 rfl (opensF_cons rfl rfl op25 (opensF_cons rfl rfl op28 (opensF_cons rfl rfl op3 opensF_nil))) (fun b hb => ⟨⟨hb.1, hb.2.1, hb.2.2.1⟩, rfl⟩)
set_option maxRecDepth 100000 in
theorem op32 : Opens Tryz.prog 32 (c32 false) oDevice := opens_struct (fun b => Go.TI.Device.mk b.1 b.2.1 b.2.2.1 b.2.2.2.1 b.2.2.2.2.1) Tryz.underlying32 rfl (opensF_cons rfl rfl op24 (opensF_cons rfl rfl op30 (opensF_cons rfl rfl op3 (opensF_cons rfl rfl op3 (opensF_cons rfl rfl op3 opensF_nil))))) (fun b hb => ⟨⟨hb.1, hb.2.1, hb.2.2.1, hb.2.2.2.1, hb.2.2.2.2.1⟩, rfl⟩)
set_option maxRecDepth 100000 in
theorem op71 : Opens Tryz.prog 71 c71 oAsk := opens_struct (fun b => Go.TI.Ask.mk b.1 b.2.1 b.2.2.1 b.2.2.2.1 b.2.2.2.2.1) Tryz.underlying71 rfl (opensF_cons rfl rfl op3 (opensF_cons rfl rfl op3 (opensF_cons rfl rfl op3 (opensF_cons rfl rfl op3 (opensF_cons rfl rfl op9 opensF_nil))))) (fun b hb => ⟨⟨hb.1, hb.2.1, hb.2.2.1, hb.2.2.2.1, hb.2.2.2.2.1⟩, rfl⟩)
set_option maxRecDepth 100000 in
theorem lifted (os : Os) (started : os.Started) (H : Type) (enc : TypeId × Value → H) :
    ReturnsInHanded {} Tryz.checked os 7 .any (Rows.fnExactPlanOfSpec.pre6 enc Tryz.prog Tryz.f7 Rows.fnExactPlanOfRow.domain false) (Rows.fnExactPlanOfSpec.post enc Tryz.prog Tryz.f7 false true false false) := by
  refine returnsInHanded_of_change_sized (C := Tryz.checked) own started (by kernel_rfl) Tryz.func7
    (ChangeSpec.witness6 (enc := enc) (C := Tryz.checked) false ⟨#[], #[.agg #[.slice none 0 0, .slice none 0 0, .slice none 0 0, .int .i64 0, .int .i64 0, .int .i64 0, .int .i64 0], .agg #[.int .i64 0, .int .i64 0, .int .i64 0, .int .i64 0, .string ByteArray.empty]], []⟩ 8 (by kernel_rfl) (by kernel_rfl) (by kernel_rfl) (by kernel_rfl)) ?_
  intro W base args ds gs before hval0 hW hcnd hsz0 _
  have hval : ∀ (j : Nat) t v, Tryz.f7.params[j]? = some t → args[j]? = some v → Value.okWide Tryz.prog W .any base t v := hval0
  have hW' := hW
  obtain ⟨p, q, hA0, hV, rfl, hfz, hnd⟩ := hW
  have hA : DataW.TrodAll enc Tryz.prog W 0 (fun _ => true) true Tryz.f7.params.toList args.toList ds p := hA0
  rw [Tryz.params7] at hA hval
  obtain ⟨v0, vs0, d0, ds0, p0, q0, hargs, rfl, rfl, h0, r0⟩ := trodAll_cons hA
  obtain ⟨v1, vs1, d1, ds1, p1, q1, rfl, rfl, rfl, h1, r1⟩ := trodAll_cons r0
  obtain ⟨rfl, rfl, rfl⟩ := trodAll_nil r1
  obtain rfl : args = #[v0, v1] := by cases args; simp_all
  obtain ⟨rfl, rfl⟩ := trodVars_none hV
  have lt0 : ∀ x ∈ p0, x.block < W.heap.size := by obtain ⟨m, hm⟩ := h0; exact DataW.trod_lt m _ _ _ hm
  obtain ⟨xs0, hxs0⟩ : ∃ xs, v0 = Value.agg xs := by have := hval 0 32 v0 rfl rfl; unfold Value.okWide at this; simp only [Tryz.underlying32] at this; exact ⟨_, this.choose_spec.1⟩
  obtain ⟨a0, U0, o0, s0, b0⟩ := arg_agg op32 hxs0 h0
  have lt1 : ∀ x ∈ p1, x.block < W.heap.size := by obtain ⟨m, hm⟩ := h1; exact DataW.trod_lt m _ _ _ hm
  obtain ⟨xs1, hxs1⟩ : ∃ xs, v1 = Value.agg xs := by have := hval 1 71 v1 rfl rfl; unfold Value.okWide at this; simp only [Tryz.underlying71] at this; exact ⟨_, this.choose_spec.1⟩
  obtain ⟨a1, U1, o1, s1, b1⟩ := arg_agg op71 hxs1 h1
  have hargsR : argsR W [.sv (.agg [.sl false 176 3 (encs (c176 false) a0.Flash.Blocks), .sl false 188 2 (encs c188 a0.Store.Vols), .sl false 211 2 (encs (c211 false) a0.Store.Arena.Knots), .int .i64 a0.Store.Next, .int .i64 a0.Seq, .int .i64 a0.Tx, .int .i64 a0.Base]), .sv (.agg [.int .i64 a1.Kind, .int .i64 a1.Vol, .int .i64 a1.Sector, .int .i64 a1.Of, .str a1.Text])] [v0, v1] [] (U0 ++ (U1 ++ [])) := ⟨_, _, [], [], U0, (U1 ++ []), rfl, rfl, rfl, s0, ⟨_, _, [], [], U1, [], rfl, rfl, rfl, s1, ⟨rfl, rfl, rfl⟩⟩⟩
  refine (w_FnExactPlanOf_t a0 a1 true (Go.TI.planOf_true a0 a1 o0 o1) W _ [] _ hargsR List.nodup_nil (by simp) (by
    intro b hb
    simp only [List.nil_append, List.append_nil, List.mem_append] at hb
    rcases hb with hb | hb
    · exact b0 b hb
    · exact b1 b hb)).mono fun e' W' ⟨v, F, U, G, V, he, hl⟩ => ?_
  have bel : Below W.heap.size W W' := ⟨hl.os, hl.tape, hl.output, hl.size, fun k hk => hl.keep k hk (by simp)⟩
  have hv : v = .bool true := by
    have := hl.res
    simp only [svR, rep] at this
    exact this.1.1
  subst hv
  subst he
  exact ⟨_, rfl, _, _, _, [], _, [], hW', trodAll_mk1 (shut_bool Tryz.underlying4 _), (trodAll_cons_mk (Below.trod laidOut (by kernel_rfl) (of_decide_eq_true (by kernel_rfl)) h0 bel lt0) (trodAll_cons_mk (Below.trod laidOut (by kernel_rfl) (of_decide_eq_true (by kernel_rfl)) h1 bel lt1) trodAll_mk0)), rfl, bel.frame _, fun h => by cases h⟩
theorem over : Rows.fnExactPlanOfRow.holds Tryz.pinned (OpenSpec.ofChange Rows.fnExactPlanOfSpec) :=
  OpenClaim.holds_of_wide 7 Tryz.f7 rfl rfl rfl rfl rfl rfl rfl ⟨rfl, rfl, rfl, rfl, rfl⟩ rfl rfl rfl rfl rfl (by kernel_rfl) Tryz.func7 (by kernel_rfl)
    (of_decide_eq_true (by kernel_rfl)) (by unfold Func.isWrapper; first | (rw [if_pos (by decide +kernel)]; kernel_rfl) | (rw [if_neg (by decide +kernel)]; exact ⟨rfl, rfl⟩))
    (fun os started H enc _ => lifted os started H enc)
theorem proved : Rows.FnExactPlanOfSaid := over
#print axioms proved
end Go.Proofs.YtcjepealfaimfaaGreat.fnExactPlanOf
namespace Go.Proofs.YtcjepealfaimfaaGreat
theorem fnExactPlanOf_holds : Rows.FnExactPlanOfSaid := fnExactPlanOf.proved
end Go.Proofs.YtcjepealfaimfaaGreat
