/- FnExactLawful returns true for every argument, and its arguments read behind the call as they read before. No condition. -/
import Derived.Test.YtngfcadblnecpaaRows
import Derived.Test.YtngfcadblnecpaaLWW0
import Derived.Test.YtngfcadblnecpaaLWR1PC
import Derived.Test.YtngfcadblnecpaaTID
import Derived.WalkKit
import Derived.ProofKit
import Derived.OpenShut
import Derived.ShutString
import Derived.ChangeOld
import Derived.Below
import Derived.SizedLaws
namespace Go.Proofs.Ytngfcadblnecpaa.fnExactLawful
open Go.ChangeShapes Go.WideShapes Go.ChangeAt Go.RowKit Go.TI
set_option linter.unusedVariables false
set_option linter.unusedSimpArgs false
theorem own : ownKnob Try.prog.godebug = none := by kernel_rfl
theorem laidOut : laidOutB Try.prog = true := by kernel_rfl
set_option maxRecDepth 100000 in
theorem op3 : Opens Try.prog 3 (fun n : Int => [.int .i64 n]) oI := opens_int Try.underlying3
set_option maxRecDepth 100000 in
theorem op9 : Opens Try.prog 9 (fun s : ByteArray => [.str s]) oS := opens_string Try.underlying9
set_option maxRecDepth 100000 in
theorem op64 : Opens Try.prog 64 c64 oStep := opens_struct (fun b => Step.mk b.1 b.2.1 b.2.2.1 b.2.2.2.1) Try.underlying64 rfl (opensF_cons rfl rfl op3 (opensF_cons rfl rfl op3 (opensF_cons rfl rfl op3 (opensF_cons rfl rfl op9 opensF_nil)))) (fun b hb => ⟨⟨hb.1, hb.2.1, hb.2.2.1, hb.2.2.2.1⟩, rfl⟩)
set_option maxRecDepth 100000 in
theorem op41 : Opens Try.prog 41 (fun l : List Step => [.sl false 64 4 (encs c64 l)]) (ol oStep) := opens_slice Try.underlying41 rfl (by decide) k64 op64
set_option maxRecDepth 100000 in
theorem lifted (os : Os) (started : os.Started) (H : Type) (enc : TypeId × Value → H) :
    ReturnsInHanded {} Try.checked os 6 .any (Rows.fnExactLawfulSpec.pre6 enc Try.prog Try.f6 Rows.fnExactLawfulRow.domain false) (Rows.fnExactLawfulSpec.post enc Try.prog Try.f6 false true false false) := by
  refine returnsInHanded_of_change_sized (C := Try.checked) own started (by kernel_rfl) Try.func6
    (ChangeSpec.witness6 (enc := enc) (C := Try.checked) false ⟨#[], #[.int .i64 0, .slice none 0 0], []⟩ 8 (by kernel_rfl) (by kernel_rfl) (by kernel_rfl) (by kernel_rfl)) ?_
  intro W base args ds gs before hval0 hW hcnd hsz0 _
  have hval : ∀ (j : Nat) t v, Try.f6.params[j]? = some t → args[j]? = some v → Value.okWide Try.prog W .any base t v := hval0
  have hW' := hW
  obtain ⟨p, q, hA0, hV, rfl, hfz, hnd⟩ := hW
  have hA : DataW.TrodAll enc Try.prog W 0 (fun _ => true) true Try.f6.params.toList args.toList ds p := hA0
  rw [Try.params6] at hA hval
  obtain ⟨v0, vs0, d0, ds0, p0, q0, hargs, rfl, rfl, h0, r0⟩ := trodAll_cons hA
  obtain ⟨v1, vs1, d1, ds1, p1, q1, rfl, rfl, rfl, h1, r1⟩ := trodAll_cons r0
  obtain ⟨rfl, rfl, rfl⟩ := trodAll_nil r1
  obtain rfl : args = #[v0, v1] := by cases args; simp_all
  obtain ⟨rfl, rfl⟩ := trodVars_none hV
  have lt0 : ∀ x ∈ p0, x.block < W.heap.size := by obtain ⟨m, hm⟩ := h0; exact DataW.trod_lt m _ _ _ hm
  have c0 : v0.cells = #[v0] := one_cell (t := 3) (hval 0 3 v0 rfl rfl) (by simp only [Try.underlying3]; exact fun _ => by simp) (by simp only [Try.underlying3]; exact fun _ _ => by simp)
  obtain ⟨a0, U0, o0, s0, b0⟩ := arg_one op3 c0 h0
  have lt1 : ∀ x ∈ p1, x.block < W.heap.size := by obtain ⟨m, hm⟩ := h1; exact DataW.trod_lt m _ _ _ hm
  have c1 : v1.cells = #[v1] := one_cell (t := 41) (hval 1 41 v1 rfl rfl) (by simp only [Try.underlying41]; exact fun _ => by simp) (by simp only [Try.underlying41]; exact fun _ _ => by simp)
  obtain ⟨a1, U1, o1, s1, b1⟩ := arg_one op41 c1 h1
  have hargsR : argsR W [.sv (I a0), .sv (.one (.sl false 64 4 (encs c64 a1)))] [v0, v1] [] (U0 ++ (U1 ++ [])) := ⟨_, _, [], [], U0, (U1 ++ []), rfl, rfl, rfl, s0, ⟨_, _, [], [], U1, [], rfl, rfl, rfl, s1, ⟨rfl, rfl, rfl⟩⟩⟩
  refine (w_FnExactLawful_t a0 a1 true (Go.TI.lawful_true a0 a1 o0 o1) W _ [] _ hargsR List.nodup_nil (by simp) (by
    intro b hb
    simp only [List.nil_append, List.append_nil, List.mem_append] at hb
    rcases hb with hb | hb
    · exact b0 b hb
    · exact b1 b hb)).mono fun e' W' ⟨v, F, U, G, V, he, hl⟩ => ?_
  have bel : Below W.heap.size W W' := ⟨hl.os, hl.tape, hl.output, hl.size, fun k hk => hl.keep k hk (by simp)⟩
  have hv : v = .bool true := by
    have := hl.res
    simp only [svR, rep] at this
    exact this.1.1
  subst hv
  subst he
  exact ⟨_, rfl, _, _, _, [], _, [], hW', trodAll_mk1 (shut_bool Try.underlying4 _), (trodAll_cons_mk (Below.trod laidOut (by kernel_rfl) (of_decide_eq_true (by kernel_rfl)) h0 bel lt0) (trodAll_cons_mk (Below.trod laidOut (by kernel_rfl) (of_decide_eq_true (by kernel_rfl)) h1 bel lt1) trodAll_mk0)), rfl, bel.frame _, fun h => by cases h⟩

theorem over : Rows.fnExactLawfulRow.holds Try.pinned (OpenSpec.ofChange Rows.fnExactLawfulSpec) :=
  OpenClaim.holds_of_wide 6 Try.f6 rfl rfl rfl rfl rfl rfl rfl ⟨rfl, rfl, rfl, rfl, rfl⟩ rfl rfl rfl rfl rfl (by kernel_rfl) Try.func6 (by kernel_rfl)
    (of_decide_eq_true (by kernel_rfl)) (by unfold Func.isWrapper; first | (rw [if_pos (by decide +kernel)]; kernel_rfl) | (rw [if_neg (by decide +kernel)]; exact ⟨rfl, rfl⟩))
    (fun os started H enc _ => lifted os started H enc)
theorem proved : Rows.FnExactLawfulSaid := over
#print axioms proved
end Go.Proofs.Ytngfcadblnecpaa.fnExactLawful
namespace Go.Proofs.Ytngfcadblnecpaa
theorem fnExactLawful_holds : Rows.FnExactLawfulSaid := fnExactLawful.proved
end Go.Proofs.Ytngfcadblnecpaa
