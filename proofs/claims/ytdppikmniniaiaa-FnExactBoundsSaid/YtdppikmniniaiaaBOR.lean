/- FnExactBounds returns true for every argument, and its arguments read behind the call as they read before. No condition. -/
import Derived.Test.YtdppikmniniaiaaRows
import Derived.Test.YtdppikmniniaiaaBOW1
import Derived.Test.YtdppikmniniaiaaBOP
import Derived.Test.YtdppikmniniaiaaTID
import Derived.WalkKit
import Derived.ProofKit
import Derived.OpenShut
import Derived.ShutString
import Derived.ChangeOld
import Derived.Below
import Derived.SizedLaws
namespace Go.Proofs.Ytdppikmniniaiaa.fnExactBounds
open Go.ChangeShapes Go.WideShapes Go.ChangeAt Go.RowKit Go.TI
set_option linter.unusedVariables false
set_option linter.unusedSimpArgs false
def c40 (o : Bool) (x : Go.TI.Device) : List TV := [.sl o 78 3 (encs (c78 o) x.Flash.Blocks), .sl o 116 2 (encs c116 x.Store.Vols), .sl o 141 2 (encs (c141 o) x.Store.Arena.Knots), .int .i64 x.Store.Next, .int .i64 x.Seq, .int .i64 x.Tx, .int .i64 x.Base]
theorem k40 (o : Bool) : ∀ x, (c40 o x).length = 7 := fun _ => rfl
theorem sh40 : ∀ l, shares (encs (c40 true) l) = encs (c40 false) l := shares_encs (fun x => by simp only [c40, shares, share, sh116, sh141, sh78])
theorem ns40 : ∀ l, hasShareds (encs (c40 true) l) = false := ns_encs (fun x => by simp [c40, hasShareds, hasShared, ns116, ns141, ns78])
def c24 (o : Bool) (x : Go.TI.Flash) : List TV := [.sl o 78 3 (encs (c78 o) x.Blocks)]
theorem k24 (o : Bool) : ∀ x, (c24 o x).length = 1 := fun _ => rfl
theorem sh24 : ∀ l, shares (encs (c24 true) l) = encs (c24 false) l := shares_encs (fun x => by simp only [c24, shares, share, sh78])
theorem ns24 : ∀ l, hasShareds (encs (c24 true) l) = false := ns_encs (fun x => by simp [c24, hasShareds, hasShared, ns78])
def c38 (o : Bool) (x : Go.TI.Store) : List TV := [.sl o 116 2 (encs c116 x.Vols), .sl o 141 2 (encs (c141 o) x.Arena.Knots), .int .i64 x.Next]
theorem k38 (o : Bool) : ∀ x, (c38 o x).length = 3 := fun _ => rfl
theorem sh38 : ∀ l, shares (encs (c38 true) l) = encs (c38 false) l := shares_encs (fun x => by simp only [c38, shares, share, sh116, sh141])
theorem ns38 : ∀ l, hasShareds (encs (c38 true) l) = false := ns_encs (fun x => by simp [c38, hasShareds, hasShared, ns116, ns141])
def c36 (o : Bool) (x : Go.TI.Arena) : List TV := [.sl o 141 2 (encs (c141 o) x.Knots)]
theorem k36 (o : Bool) : ∀ x, (c36 o x).length = 1 := fun _ => rfl
theorem sh36 : ∀ l, shares (encs (c36 true) l) = encs (c36 false) l := shares_encs (fun x => by simp only [c36, shares, share, sh141])
theorem ns36 : ∀ l, hasShareds (encs (c36 true) l) = false := ns_encs (fun x => by simp [c36, hasShareds, hasShared, ns141])
theorem own : ownKnob Try.prog.godebug = none := by kernel_rfl
theorem laidOut : laidOutB Try.prog = true := by kernel_rfl
set_option maxRecDepth 100000 in
theorem op4 : Opens Try.prog 4 (fun b : Bool => [.bool b]) oB := opens_bool Try.underlying4
set_option maxRecDepth 100000 in
theorem op3 : Opens Try.prog 3 (fun n : Int => [.int .i64 n]) oI := opens_int Try.underlying3
set_option maxRecDepth 100000 in
theorem op9 : Opens Try.prog 9 (fun s : ByteArray => [.str s]) oS := opens_string Try.underlying9
set_option maxRecDepth 100000 in
theorem op132 : Opens Try.prog 132 c132 oLeaf := opens_struct (fun b => Go.TI.Leaf.mk b.1 b.2.1) Try.underlying132 rfl (opensF_cons rfl rfl op3 (opensF_cons rfl rfl op9 opensF_nil)) (fun b hb => ⟨⟨hb.1, hb.2.1⟩, rfl⟩)
set_option maxRecDepth 100000 in
theorem op76 : Opens Try.prog 76 (fun l : List Go.TI.Leaf => [.sl false 132 2 (encs c132 l)]) (ol oLeaf) := opens_slice Try.underlying76 rfl (by decide) k132 op132
set_option maxRecDepth 100000 in
theorem op78 : Opens Try.prog 78 (c78 false) oBlock := opens_struct (fun b => Go.TI.Block.mk b.1 b.2.1 b.2.2.1) Try.underlying78 rfl (opensF_cons rfl rfl op4 (opensF_cons rfl rfl op3 (opensF_cons rfl rfl op76 opensF_nil))) (fun b hb => ⟨⟨hb.1, hb.2.1, hb.2.2.1⟩, rfl⟩)
set_option maxRecDepth 100000 in
theorem op22 : Opens Try.prog 22 (fun l : List Go.TI.Block => [.sl false 78 3 (encs (c78 false) l)]) (ol oBlock) := opens_slice Try.underlying22 rfl (by decide) (k78 false) op78
set_option maxRecDepth 100000 in
theorem op24 : Opens Try.prog 24 (c24 false) oFlash := opens_struct (fun b => Go.TI.Flash.mk b.1) Try.underlying24 rfl (opensF_cons rfl rfl op22 opensF_nil) (fun b hb => ⟨hb.1, rfl⟩)
set_option maxRecDepth 100000 in
theorem op116 : Opens Try.prog 116 c116 oVol := opens_struct (fun b => Go.TI.Vol.mk b.1 b.2.1) Try.underlying116 rfl (opensF_cons rfl rfl op3 (opensF_cons rfl rfl op3 opensF_nil)) (fun b hb => ⟨⟨hb.1, hb.2.1⟩, rfl⟩)
set_option maxRecDepth 100000 in
theorem op33 : Opens Try.prog 33 (fun l : List Go.TI.Vol => [.sl false 116 2 (encs c116 l)]) (ol oVol) := opens_slice Try.underlying33 rfl (by decide) k116 op116
set_option maxRecDepth 100000 in
theorem op139 : Opens Try.prog 139 (fun l : List Int => [.sl false 3 1 (encs c3 l)]) (ol oI) := opens_slice Try.underlying139 rfl (by decide) k3 op3
set_option maxRecDepth 100000 in
theorem op141 : Opens Try.prog 141 (c141 false) oKnot := opens_struct (fun b => Go.TI.Knot.mk b.1 b.2.1) Try.underlying141 rfl (opensF_cons rfl rfl op4 (opensF_cons rfl rfl op139 opensF_nil)) (fun b hb => ⟨⟨hb.1, hb.2.1⟩, rfl⟩)
set_option maxRecDepth 100000 in
theorem op34 : Opens Try.prog 34 (fun l : List Go.TI.Knot => [.sl false 141 2 (encs (c141 false) l)]) (ol oKnot) := opens_slice Try.underlying34 rfl (by decide) (k141 false) op141
set_option maxRecDepth 100000 in
theorem op36 : Opens Try.prog 36 (c36 false) oArena := opens_struct (fun b => Go.TI.Arena.mk b.1) Try.underlying36 rfl (opensF_cons rfl rfl op34 opensF_nil) (fun b hb => ⟨hb.1, rfl⟩)
set_option maxRecDepth 100000 in
theorem op38 : Opens Try.prog 38 (c38 false) oStore := opens_struct (fun b => Go.TI.Store.mk b.1 b.2.1 b.2.2.1) Try.underlying38 rfl (opensF_cons rfl rfl op33 (opensF_cons rfl rfl op36 (opensF_cons rfl rfl op3 opensF_nil))) (fun b hb => ⟨⟨hb.1, hb.2.1, hb.2.2.1⟩, rfl⟩)
set_option maxRecDepth 100000 in
theorem op40 : Opens Try.prog 40 (c40 false) oDevice := opens_struct (fun b => Go.TI.Device.mk b.1 b.2.1 b.2.2.1 b.2.2.2.1 b.2.2.2.2.1) Try.underlying40 rfl (opensF_cons rfl rfl op24 (opensF_cons rfl rfl op38 (opensF_cons rfl rfl op3 (opensF_cons rfl rfl op3 (opensF_cons rfl rfl op3 opensF_nil))))) (fun b hb => ⟨⟨hb.1, hb.2.1, hb.2.2.1, hb.2.2.2.1, hb.2.2.2.2.1⟩, rfl⟩)
set_option maxRecDepth 100000 in
theorem lifted (os : Os) (started : os.Started) (H : Type) (enc : TypeId × Value → H) :
    ReturnsInHanded {} Try.checked os 4 .any (Rows.fnExactBoundsSpec.pre6 enc Try.prog Try.f4 Rows.fnExactBoundsRow.domain false) (Rows.fnExactBoundsSpec.post enc Try.prog Try.f4 false true false false) := by
  refine returnsInHanded_of_change_sized (C := Try.checked) own started (by kernel_rfl) Try.func4
    (ChangeSpec.witness6 (enc := enc) (C := Try.checked) false ⟨#[], #[.agg #[.slice none 0 0, .slice none 0 0, .slice none 0 0, .int .i64 0, .int .i64 0, .int .i64 0, .int .i64 0]], []⟩ 8 (by kernel_rfl) (by kernel_rfl) (by kernel_rfl) (by kernel_rfl)) ?_
  intro W base args ds gs before hval0 hW hcnd hsz0 _
  have hval : ∀ (j : Nat) t v, Try.f4.params[j]? = some t → args[j]? = some v → Value.okWide Try.prog W .any base t v := hval0
  have hW' := hW
  obtain ⟨p, q, hA0, hV, rfl, hfz, hnd⟩ := hW
  have hA : DataW.TrodAll enc Try.prog W 0 (fun _ => true) true Try.f4.params.toList args.toList ds p := hA0
  rw [Try.params4] at hA hval
  obtain ⟨v0, vs0, d0, ds0, p0, q0, hargs, rfl, rfl, h0, r0⟩ := trodAll_cons hA
  obtain ⟨rfl, rfl, rfl⟩ := trodAll_nil r0
  obtain rfl : args = #[v0] := by cases args; simp_all
  obtain ⟨rfl, rfl⟩ := trodVars_none hV
  have lt0 : ∀ x ∈ p0, x.block < W.heap.size := by obtain ⟨m, hm⟩ := h0; exact DataW.trod_lt m _ _ _ hm
  obtain ⟨xs0, hxs0⟩ : ∃ xs, v0 = Value.agg xs := by have := hval 0 40 v0 rfl rfl; unfold Value.okWide at this; simp only [Try.underlying40] at this; exact ⟨_, this.choose_spec.1⟩
  obtain ⟨a0, U0, o0, s0, b0⟩ := arg_agg op40 hxs0 h0
  have hargsR : argsR W [.sv (.agg [.sl false 78 3 (encs (c78 false) a0.Flash.Blocks), .sl false 116 2 (encs c116 a0.Store.Vols), .sl false 141 2 (encs (c141 false) a0.Store.Arena.Knots), .int .i64 a0.Store.Next, .int .i64 a0.Seq, .int .i64 a0.Tx, .int .i64 a0.Base])] [v0] [] (U0 ++ []) := ⟨_, _, [], [], U0, [], rfl, rfl, rfl, s0, ⟨rfl, rfl, rfl⟩⟩
  refine (w_FnExactBounds_t a0 true (Go.TI.bounds_true a0 o0) W _ [] _ hargsR List.nodup_nil (by simp) (by
    intro b hb
    simp only [List.nil_append, List.append_nil, List.mem_append] at hb
    exact b0 b hb)).mono fun e' W' ⟨v, F, U, G, V, he, hl⟩ => ?_
  have bel : Below W.heap.size W W' := ⟨hl.os, hl.tape, hl.output, hl.size, fun k hk => hl.keep k hk (by simp)⟩
  have hv : v = .bool true := by
    have := hl.res
    simp only [svR, rep] at this
    exact this.1.1
  subst hv
  subst he
  exact ⟨_, rfl, _, _, _, [], _, [], hW', trodAll_mk1 (shut_bool Try.underlying4 _), (trodAll_cons_mk (Below.trod laidOut (by kernel_rfl) (of_decide_eq_true (by kernel_rfl)) h0 bel lt0) trodAll_mk0), rfl, bel.frame _, fun h => by cases h⟩

theorem over : Rows.fnExactBoundsRow.holds Try.pinned (OpenSpec.ofChange Rows.fnExactBoundsSpec) :=
  OpenClaim.holds_of_wide 4 Try.f4 rfl rfl rfl rfl rfl rfl rfl ⟨rfl, rfl, rfl, rfl, rfl⟩ rfl rfl rfl rfl rfl (by kernel_rfl) Try.func4 (by kernel_rfl)
    (of_decide_eq_true (by kernel_rfl)) (by unfold Func.isWrapper; first | (rw [if_pos (by decide +kernel)]; kernel_rfl) | (rw [if_neg (by decide +kernel)]; exact ⟨rfl, rfl⟩))
    (fun os started H enc _ => lifted os started H enc)
theorem proved : Rows.FnExactBoundsSaid := over
#print axioms proved
end Go.Proofs.Ytdppikmniniaiaa.fnExactBounds
namespace Go.Proofs.Ytdppikmniniaiaa
theorem fnExactBounds_holds : Rows.FnExactBoundsSaid := fnExactBounds.proved
end Go.Proofs.Ytdppikmniniaiaa
