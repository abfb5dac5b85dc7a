/- FnChunks returns true for every argument, and its arguments read behind the call as they read before. No condition. -/
import Derived.Test.YtiemmklnnjembaaGreatRows
import Derived.Test.YtiemmklnnjembaaGreatCHW2
import Derived.WalkKit
import Derived.ProofKit
import Derived.OpenShut
import Derived.ShutString
import Derived.ChangeOld
import Derived.Below
import Derived.SizedLaws
namespace Go.Proofs.YtiemmklnnjembaaGreat.fnChunks
open Go.ChangeShapes Go.WideShapes Go.ChangeAt Go.RowKit Go.TI
set_option linter.unusedVariables false
set_option linter.unusedSimpArgs false
theorem own : ownKnob Tryz.prog.godebug = none := by kernel_rfl
theorem laidOut : laidOutB Tryz.prog = true := by kernel_rfl
set_option maxRecDepth 100000 in
theorem op5 : aZ Tryz.prog 5 (fun n : Int => [.int .u8 n]) (oK .u8) := vC Tryz.underlying5
set_option maxRecDepth 100000 in
theorem op22 : aZ Tryz.prog 22 (fun l : List Int => [.sl false 5 1 (AN c5 l)]) (ol (oK .u8)) := lL Tryz.underlying22 rfl (by decide) k5 op5
set_option maxRecDepth 100000 in
theorem lifted (os : Os) (started : os.Started) (H : Type) (enc : TypeId × Value → H) :
    ReturnsInHanded {} Tryz.checked os 5 .any (Rows.fnChunksSpec.pre6 enc Tryz.prog Tryz.f5 Rows.fnChunksRow.domain false) (Rows.fnChunksSpec.post enc Tryz.prog Tryz.f5 false true false false) := by
  refine returnsInHanded_of_change_sized (C := Tryz.checked) own started (by kernel_rfl) Tryz.func5
    (ChangeSpec.witness6 (enc := enc) (C := Tryz.checked) false ⟨#[], #[.slice none 0 0], []⟩ 8 (by kernel_rfl) (by kernel_rfl) (by kernel_rfl) (by kernel_rfl)) ?_
  intro W base args ds gs before hval0 hW hcnd hsz0 _
  have hval : ∀ (j : Nat) t v, Tryz.f5.params[j]? = some t → args[j]? = some v → Value.okWide Tryz.prog W .any base t v := hval0
  have hW' := hW
  obtain ⟨p, q, hA0, hV, rfl, hfz, hnd⟩ := hW
  have hA : DataW.TrodAll enc Tryz.prog W 0 (fun _ => true) true Tryz.f5.params.toList args.toList ds p := hA0
  rw [Tryz.params5] at hA hval
  obtain ⟨v0, vs0, d0, ds0, p0, q0, hargs, rfl, rfl, h0, r0⟩ := trodAll_cons hA
  obtain ⟨rfl, rfl, rfl⟩ := trodAll_nil r0
  obtain rfl : args = #[v0] := by cases args; simp_all
  obtain ⟨rfl, rfl⟩ := trodVars_none hV
  have lt0 : ∀ x ∈ p0, x.block < W.heap.size := by obtain ⟨m, hm⟩ := h0; exact DataW.trod_lt m _ _ _ hm
  have c0 : v0.cells = #[v0] := zE (t := 22) (hval 0 22 v0 rfl rfl) (by simp only [Tryz.underlying22]; exact fun _ => by simp) (by simp only [Tryz.underlying22]; exact fun _ _ => by simp)
  obtain ⟨a0, U0, o0, s0, b0⟩ := ABN op22 c0 h0
  have hargsR : Ic W [.sv (.one (PX a0))] [v0] [] (U0 ++ []) := ⟨_, _, [], [], U0, [], rfl, rfl, rfl, s0, ⟨rfl, rfl, rfl⟩⟩
  refine (bE a0 true (Go.TI.fnChunks_true a0 o0) W _ [] _ hargsR CJ (by simp) (by
    intro b hb
    simp only [A7, As, Aj] at hb
    exact b0 b hb)).mono fun e' W' ⟨v, F, U, G, V, he, hl⟩ => ?_
  have bel : Below W.heap.size W W' := ⟨hl.os, hl.tape, hl.output, hl.size, fun k hk => hl.keep k hk (by simp)⟩
  have hv : v = .bool true := by
    have := hl.res
    simp only [Qn, C7] at this
    exact this.1.1
  subst hv
  subst he
  exact ⟨_, rfl, _, _, _, [], _, [], hW', trodAll_mk1 (shut_bool Tryz.underlying4 _), (trodAll_cons_mk (Below.trod laidOut (by kernel_rfl) (IT (by kernel_rfl)) h0 bel lt0) trodAll_mk0), rfl, bel.frame _, fun h => by cases h⟩

theorem over : Rows.fnChunksRow.holds Tryz.pinned (OpenSpec.ofChange Rows.fnChunksSpec) :=
  OpenClaim.holds_of_wide 5 Tryz.f5 rfl rfl rfl rfl rfl rfl rfl ⟨rfl, rfl, rfl, rfl, rfl⟩ rfl rfl rfl rfl rfl (by kernel_rfl) Tryz.func5 (by kernel_rfl)
    (IT (by kernel_rfl)) (by unfold Func.isWrapper; first | (rw [Ay (by decide +kernel)]; kernel_rfl) | (rw [A0 (by decide +kernel)]; exact ⟨rfl, rfl⟩))
    (fun os started H enc _ => lifted os started H enc)
theorem proved : Rows.FnChunksSaid := over
#print axioms proved
end Go.Proofs.YtiemmklnnjembaaGreat.fnChunks
namespace Go.Proofs.YtiemmklnnjembaaGreat
theorem fnChunks_holds : Rows.FnChunksSaid := fnChunks.proved
end Go.Proofs.YtiemmklnnjembaaGreat
