/- FnExactEventOk returns true for every argument, and its argument reads behind the call as it read before. No condition. -/
import Derived.Test.YtngfcadblnecpaaRows
import Derived.Test.YtngfcadblnecpaaEventOkPure
import Derived.WalkKit
import Derived.ProofKit
import Derived.OpenShut
import Derived.ShutString
import Derived.ChangeOld
import Derived.Below
import Derived.SizedLaws
namespace Go.Proofs.Ytngfcadblnecpaa.fnExactEventOk
open Go.ChangeShapes Go.WideShapes Go.ChangeAt Go.RowKit Go.TI
open Go.ChangeMaps (open_string shut_string)
set_option linter.unusedVariables false
theorem own : ownKnob Try.prog.godebug = none := by kernel_rfl
theorem laidOut : laidOutB Try.prog = true := by kernel_rfl

section
variable {P : Program} {w : World} {r : Reach} {base : Nat} {t : TypeId} {v : Value}
theorem cell_int {k : IntKind} (ht : P.underlying t = some (.int k)) (h : Cell.okWide P w r base t v) : ∃ n, v = .int k n :=
  okWide_int ht (by unfold Value.okWide; simp only [ht]; exact h)
theorem cell_bool (ht : P.underlying t = some .bool) (h : Cell.okWide P w r base t v) : ∃ b, v = .bool b :=
  okWide_bool ht (by unfold Value.okWide; simp only [ht]; exact h)
theorem cell_string (ht : P.underlying t = some .string) (h : Cell.okWide P w r base t v) : ∃ s, v = .string s :=
  okWide_string ht (by unfold Value.okWide; simp only [ht]; exact h)
end

theorem reps_sc {w : World} {t : TV} {v : Value} {ts : List TV} {vs : List Value} {F U : List Nat} (h : rep w t v [] []) (k : reps w ts vs F U) : reps w (t :: ts) (v :: vs) F U := by
  simp only [reps]
  exact ⟨v, vs, [], F, [], U, rfl, rfl, rfl, h, k⟩
theorem event_form {W : World} {base : Nat} {v : Value} (h : Value.okWide Try.prog W .any base 25 v) : ∃ (a b c d : Int) (s : ByteArray) (e : Bool) (f : Int) (g : Bool), v = .agg #[.int .i64 a, .int .i64 b, .int .i64 c, .int .i64 d, .string s, .bool e, .int .i64 f, .bool g] := by
  unfold Value.okWide at h
  simp only [Try.underlying25] at h
  obtain ⟨cs, rfl, hsz, ts, hts, _, hc⟩ := h
  have hts' : Try.prog.cellTypes Try.prog.depth 25 = some [3, 3, 3, 3, 9, 4, 3, 4] := by kernel_rfl
  rw [hts'] at hts
  injection hts with hts
  subst hts
  have hn : cs.size = 8 := hsz
  have at_ : ∀ i (hi : i < 8), ∃ u, ([3, 3, 3, 3, 9, 4, 3, 4] : List TypeId)[i]? = some u ∧ Cell.okWide Try.prog W .any base u (cs[i]'(by omega)) := by
    intro i hi
    have := hc i _ (Array.getElem?_eq_getElem (by omega))
    rwa [show ([3, 3, 3, 3, 9, 4, 3, 4] : List TypeId).length = 8 from rfl, Nat.mod_eq_of_lt hi] at this
  obtain ⟨u0, e0, k0⟩ := at_ 0 (by omega)
  obtain ⟨u1, e1, k1⟩ := at_ 1 (by omega)
  obtain ⟨u2, e2, k2⟩ := at_ 2 (by omega)
  obtain ⟨u3, e3, k3⟩ := at_ 3 (by omega)
  obtain ⟨u4, e4, k4⟩ := at_ 4 (by omega)
  obtain ⟨u5, e5, k5⟩ := at_ 5 (by omega)
  obtain ⟨u6, e6, k6⟩ := at_ 6 (by omega)
  obtain ⟨u7, e7, k7⟩ := at_ 7 (by omega)
  obtain rfl := Option.some.inj e0
  obtain rfl := Option.some.inj e1
  obtain rfl := Option.some.inj e2
  obtain rfl := Option.some.inj e3
  obtain rfl := Option.some.inj e4
  obtain rfl := Option.some.inj e5
  obtain rfl := Option.some.inj e6
  obtain rfl := Option.some.inj e7
  obtain ⟨a, k0⟩ := cell_int Try.underlying3 k0
  obtain ⟨b, k1⟩ := cell_int Try.underlying3 k1
  obtain ⟨c, k2⟩ := cell_int Try.underlying3 k2
  obtain ⟨d, k3⟩ := cell_int Try.underlying3 k3
  obtain ⟨s, k4⟩ := cell_string Try.underlying9 k4
  obtain ⟨e, k5⟩ := cell_bool Try.underlying4 k5
  obtain ⟨f, k6⟩ := cell_int Try.underlying3 k6
  obtain ⟨g, k7⟩ := cell_bool Try.underlying4 k7
  refine ⟨a, b, c, d, s, e, f, g, congrArg Value.agg (Array.ext (by simpa using hn) fun i h1 h2 => ?_)⟩
  match i, h2 with
  | 0, _ => exact k0
  | 1, _ => exact k1
  | 2, _ => exact k2
  | 3, _ => exact k3
  | 4, _ => exact k4
  | 5, _ => exact k5
  | 6, _ => exact k6
  | 7, _ => exact k7

set_option maxRecDepth 100000 in
theorem lifted (os : Os) (started : os.Started) (H : Type) (enc : TypeId × Value → H) :
    ReturnsInHanded {} Try.checked os 3 .any (Rows.fnExactEventOkSpec.pre6 enc Try.prog Try.f3 Rows.fnExactEventOkRow.domain false) (Rows.fnExactEventOkSpec.post enc Try.prog Try.f3 false true false false) := by
  refine returnsInHanded_of_change_sized (C := Try.checked) own started (by kernel_rfl) Try.func3
    (ChangeSpec.witness6 (enc := enc) (C := Try.checked) false ⟨#[], #[.agg #[.int .i64 0, .int .i64 0, .int .i64 0, .int .i64 0, .string ByteArray.empty, .bool false, .int .i64 0, .bool false]], []⟩ 8 (by kernel_rfl) (by kernel_rfl) (by kernel_rfl) (by kernel_rfl)) ?_
  intro W base args ds gs before hval0 hW hcnd hsz0 _
  have hval : ∀ (j : Nat) t v, Try.f3.params[j]? = some t → args[j]? = some v → Value.okWide Try.prog W .any base t v := hval0
  have hW' := hW
  obtain ⟨p, q, hA0, hV, rfl, hfz, hnd⟩ := hW
  have hA : DataW.TrodAll enc Try.prog W 0 (fun _ => true) true Try.f3.params.toList args.toList ds p := hA0
  rw [Try.params3] at hA hval
  obtain ⟨v0, vs0, d0, ds0, p0, q0, hargs, rfl, rfl, h0, r0⟩ := trodAll_cons hA
  obtain ⟨rfl, rfl, rfl⟩ := trodAll_nil r0
  obtain rfl : args = #[v0] := by cases args; simp_all
  obtain ⟨rfl, rfl⟩ := trodVars_none hV
  have lt0 : ∀ x ∈ p0, x.block < W.heap.size := by obtain ⟨m, hm⟩ := h0; exact DataW.trod_lt m _ _ _ hm
  have k0 := h0
  obtain ⟨a, b, c, d, s, e, f, g, rfl⟩ := event_form (hval 0 25 v0 rfl rfl)
  have hargsR : argsR W [.sv (.agg [.int .i64 a, .int .i64 b, .int .i64 c, .int .i64 d, .str s, .bool e, .int .i64 f, .bool g])] [.agg #[.int .i64 a, .int .i64 b, .int .i64 c, .int .i64 d, .string s, .bool e, .int .i64 f, .bool g]] [] [] := by
    simp only [argsR]
    refine ⟨_, _, [], [], [], [], rfl, rfl, rfl, ?_, rfl, rfl, rfl⟩
    simp only [avR, svR]
    refine ⟨[.int .i64 a, .int .i64 b, .int .i64 c, .int .i64 d, .string s, .bool e, .int .i64 f, .bool g], rfl, ?_⟩
    repeat (first | exact ⟨rfl, rfl, rfl⟩ | refine reps_sc (by simp [rep]) ?_)
  refine (t3 a b c d s e f g W _ [] [] hargsR List.nodup_nil (by simp) (by simp)).mono fun e' W' ⟨v, F, U, G, V, he, hl⟩ => ?_
  have bel : Below W.heap.size W W' := ⟨hl.os, hl.tape, hl.output, hl.size, fun k hk => hl.keep k hk (by simp)⟩
  have hv : v = .bool true := by
    have := hl.res
    simp only [svR, rep] at this
    rw [this.1.1, event_true]
  subst hv
  subst he
  exact ⟨_, rfl, _, _, _, [], _, [], hW', trodAll_mk1 (shut_bool Try.underlying4 _), (trodAll_cons_mk (Below.trod laidOut (by kernel_rfl) (of_decide_eq_true (by kernel_rfl)) k0 bel lt0) trodAll_mk0), rfl, bel.frame _, fun h => by cases h⟩

theorem over : Rows.fnExactEventOkRow.holds Try.pinned (OpenSpec.ofChange Rows.fnExactEventOkSpec) :=
  OpenClaim.holds_of_wide 3 Try.f3 rfl rfl rfl rfl rfl rfl rfl ⟨rfl, rfl, rfl, rfl, rfl⟩ rfl rfl rfl rfl rfl (by kernel_rfl) Try.func3 (by kernel_rfl)
    (of_decide_eq_true (by kernel_rfl)) (by unfold Func.isWrapper; first | (rw [if_pos (by decide +kernel)]; kernel_rfl) | (rw [if_neg (by decide +kernel)]; exact ⟨rfl, rfl⟩))
    (fun os started H enc _ => lifted os started H enc)
theorem proved : Rows.FnExactEventOkSaid := over
#print axioms proved
end Go.Proofs.Ytngfcadblnecpaa.fnExactEventOk
namespace Go.Proofs.Ytngfcadblnecpaa
theorem fnExactEventOk_holds : Rows.FnExactEventOkSaid := fnExactEventOk.proved
end Go.Proofs.Ytngfcadblnecpaa
