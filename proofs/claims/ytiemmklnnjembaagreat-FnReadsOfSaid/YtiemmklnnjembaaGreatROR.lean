/- FnReadsOf returns true for every argument, and its arguments read behind the call as they read before. No condition. -/
import Derived.Test.YtiemmklnnjembaaGreatRows
import Derived.Test.YtiemmklnnjembaaGreatROW3
import Derived.WalkKit
import Derived.ProofKit
import Derived.OpenShut
import Derived.ShutString
import Derived.ChangeOld
import Derived.Below
import Derived.SizedLaws
namespace Go.Proofs.YtiemmklnnjembaaGreat.fnReadsOf
open Go.ChangeShapes Go.WideShapes Go.ChangeAt Go.RowKit Go.TI
set_option linter.unusedVariables false
set_option linter.unusedSimpArgs false
theorem own : ownKnob Tryz.prog.godebug = none := by kernel_rfl
theorem laidOut : laidOutB Tryz.prog = true := by kernel_rfl
set_option maxRecDepth 100000 in
theorem op5 : Zx Tryz.prog 5 (fun n : Int => [.int .u8 n]) (oK .u8) := sM Tryz.underlying5
set_option maxRecDepth 100000 in
theorem op22 : Zx Tryz.prog 22 (fun l : List Int => [.sl false 5 1 (Ah c5 l)]) (ol (oK .u8)) := jA Tryz.underlying22 rfl (by decide) k5 op5
set_option maxRecDepth 100000 in
theorem lifted (os : Os) (started : os.Started) (H : Type) (enc : TypeId × Value → H) :
    ReturnsInHanded {} Tryz.checked os 3 .any (Rows.fnReadsOfSpec.pre6 enc Tryz.prog Tryz.f3 Rows.fnReadsOfRow.domain false) (Rows.fnReadsOfSpec.post enc Tryz.prog Tryz.f3 false true false false) := by
  refine returnsInHanded_of_change_sized (C := Tryz.checked) own started (by kernel_rfl) Tryz.func3
    (ChangeSpec.witness6 (enc := enc) (C := Tryz.checked) false ⟨#[], #[.slice none 0 0], []⟩ 8 (by kernel_rfl) (by kernel_rfl) (by kernel_rfl) (by kernel_rfl)) ?_
  intro W base args ds gs before hval0 hW hcnd hsz0 _
  have hval : ∀ (j : Nat) t v, Tryz.f3.params[j]? = some t → args[j]? = some v → Value.okWide Tryz.prog W .any base t v := hval0
  have hW' := hW
  obtain ⟨p, q, hA0, hV, rfl, hfz, hnd⟩ := hW
  have hA : DataW.TrodAll enc Tryz.prog W 0 (fun _ => true) true Tryz.f3.params.toList args.toList ds p := hA0
  rw [Tryz.params3] at hA hval
  obtain ⟨v0, vs0, d0, ds0, p0, q0, hargs, rfl, rfl, h0, r0⟩ := trodAll_cons hA
  obtain ⟨rfl, rfl, rfl⟩ := trodAll_nil r0
  obtain rfl : args = #[v0] := by cases args; simp_all
  obtain ⟨rfl, rfl⟩ := trodVars_none hV
  have lt0 : ∀ x ∈ p0, x.block < W.heap.size := by obtain ⟨m, hm⟩ := h0; exact DataW.trod_lt m _ _ _ hm
  have c0 : v0.cells = #[v0] := vU (t := 22) (hval 0 22 v0 rfl rfl) (by simp only [Tryz.underlying22]; exact fun _ => by simp) (by simp only [Tryz.underlying22]; exact fun _ _ => by simp)
  obtain ⟨a0, U0, o0, s0, b0⟩ := AAA op22 c0 h0
  have hargsR : Ir W [.sv (.one (.sl false 5 1 (Ah c5 a0)))] [v0] [] (U0 ++ []) := ⟨_, _, [], [], U0, [], rfl, rfl, rfl, s0, ⟨rfl, rfl, rfl⟩⟩
  refine (WL a0 true (Go.TI.fnReadsOf_true a0 o0) W _ [] _ hargsR Da (by simp) (by
    intro b hb
    simp only [A6, Aw, Al] at hb
    exact b0 b hb)).mono fun e' W' ⟨v, F, U, G, V, he, hl⟩ => ?_
  have bel : Below W.heap.size W W' := ⟨hl.os, hl.tape, hl.output, hl.size, fun k hk => hl.keep k hk (by simp)⟩
  have hv : v = .bool true := by
    have := hl.res
    simp only [PX, C9] at this
    exact this.1.1
  subst hv
  subst he
  exact ⟨_, rfl, _, _, _, [], _, [], hW', trodAll_mk1 (shut_bool Tryz.underlying4 _), (trodAll_cons_mk (Below.trod laidOut (by kernel_rfl) (IY (by kernel_rfl)) h0 bel lt0) trodAll_mk0), rfl, bel.frame _, fun h => by cases h⟩

theorem over : Rows.fnReadsOfRow.holds Tryz.pinned (OpenSpec.ofChange Rows.fnReadsOfSpec) :=
  OpenClaim.holds_of_wide 3 Tryz.f3 rfl rfl rfl rfl rfl rfl rfl ⟨rfl, rfl, rfl, rfl, rfl⟩ rfl rfl rfl rfl rfl (by kernel_rfl) Tryz.func3 (by kernel_rfl)
    (IY (by kernel_rfl)) (by unfold Func.isWrapper; first | (rw [Az (by decide +kernel)]; kernel_rfl) | (rw [A5 (by decide +kernel)]; exact ⟨rfl, rfl⟩))
    (fun os started H enc _ => lifted os started H enc)
theorem proved : Rows.FnReadsOfSaid := over
#print axioms proved
end Go.Proofs.YtiemmklnnjembaaGreat.fnReadsOf
namespace Go.Proofs.YtiemmklnnjembaaGreat
theorem fnReadsOf_holds : Rows.FnReadsOfSaid := fnReadsOf.proved
end Go.Proofs.YtiemmklnnjembaaGreat
