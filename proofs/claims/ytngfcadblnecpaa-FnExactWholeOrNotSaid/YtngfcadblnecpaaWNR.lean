/- FnExactWholeOrNot returns true for every argument, and its arguments read behind the call as they read before. No condition. -/
import Derived.Test.YtngfcadblnecpaaRows
import Derived.Test.YtngfcadblnecpaaWNW0
import Derived.Test.YtngfcadblnecpaaWNR1PB
import Derived.Test.YtngfcadblnecpaaTID
import Derived.WalkKit
import Derived.ProofKit
import Derived.OpenShut
import Derived.ShutString
import Derived.ChangeOld
import Derived.Below
import Derived.SizedLaws
namespace Go.Proofs.Ytngfcadblnecpaa.fnExactWholeOrNot
open Go.ChangeShapes Go.WideShapes Go.ChangeAt Go.RowKit Go.TI
set_option linter.unusedVariables false
set_option linter.unusedSimpArgs false
theorem own : ownKnob Try.prog.godebug = none := by kernel_rfl
theorem laidOut : laidOutB Try.prog = true := by kernel_rfl
set_option maxRecDepth 100000 in
theorem op3 : Opens Try.prog 3 (fun n : Int => [.int .i64 n]) oI := opens_int Try.underlying3
set_option maxRecDepth 100000 in
theorem op9 : Opens Try.prog 9 (fun s : ByteArray => [.str s]) oS := opens_string Try.underlying9
set_option maxRecDepth 100000 in
theorem op55 : Opens Try.prog 55 (fun l : List ByteArray => [.sl false 9 1 (encs c9 l)]) (ol oS) := opens_slice Try.underlying55 rfl (by decide) k9 op9
set_option maxRecDepth 100000 in
theorem op57 : Opens Try.prog 57 (c57 false) oShelf := opens_struct (fun b => Shelf.mk b.1 b.2.1) Try.underlying57 rfl (opensF_cons rfl rfl op3 (opensF_cons rfl rfl op55 opensF_nil)) (fun b hb => ⟨⟨hb.1, hb.2.1⟩, rfl⟩)
set_option maxRecDepth 100000 in
theorem op33 : Opens Try.prog 33 (fun l : List Shelf => [.sl false 57 2 (encs (c57 false) l)]) (ol oShelf) := opens_slice Try.underlying33 rfl (by decide) (k57 false) op57
set_option maxRecDepth 100000 in
theorem lifted (os : Os) (started : os.Started) (H : Type) (enc : TypeId × Value → H) :
    ReturnsInHanded {} Try.checked os 5 .any (Rows.fnExactWholeOrNotSpec.pre6 enc Try.prog Try.f5 Rows.fnExactWholeOrNotRow.domain false) (Rows.fnExactWholeOrNotSpec.post enc Try.prog Try.f5 false true false false) := by
  refine returnsInHanded_of_change_sized (C := Try.checked) own started (by kernel_rfl) Try.func5
    (ChangeSpec.witness6 (enc := enc) (C := Try.checked) false ⟨#[], #[.slice none 0 0, .slice none 0 0, .slice none 0 0], []⟩ 8 (by kernel_rfl) (by kernel_rfl) (by kernel_rfl) (by kernel_rfl)) ?_
  intro W base args ds gs before hval0 hW hcnd hsz0 _
  have hval : ∀ (j : Nat) t v, Try.f5.params[j]? = some t → args[j]? = some v → Value.okWide Try.prog W .any base t v := hval0
  have hW' := hW
  obtain ⟨p, q, hA0, hV, rfl, hfz, hnd⟩ := hW
  have hA : DataW.TrodAll enc Try.prog W 0 (fun _ => true) true Try.f5.params.toList args.toList ds p := hA0
  rw [Try.params5] at hA hval
  obtain ⟨v0, vs0, d0, ds0, p0, q0, hargs, rfl, rfl, h0, r0⟩ := trodAll_cons hA
  obtain ⟨v1, vs1, d1, ds1, p1, q1, rfl, rfl, rfl, h1, r1⟩ := trodAll_cons r0
  obtain ⟨v2, vs2, d2, ds2, p2, q2, rfl, rfl, rfl, h2, r2⟩ := trodAll_cons r1
  obtain ⟨rfl, rfl, rfl⟩ := trodAll_nil r2
  obtain rfl : args = #[v0, v1, v2] := by cases args; simp_all
  obtain ⟨rfl, rfl⟩ := trodVars_none hV
  have lt0 : ∀ x ∈ p0, x.block < W.heap.size := by obtain ⟨m, hm⟩ := h0; exact DataW.trod_lt m _ _ _ hm
  have c0 : v0.cells = #[v0] := one_cell (t := 33) (hval 0 33 v0 rfl rfl) (by simp only [Try.underlying33]; exact fun _ => by simp) (by simp only [Try.underlying33]; exact fun _ _ => by simp)
  obtain ⟨a0, U0, o0, s0, b0⟩ := arg_one op33 c0 h0
  have lt1 : ∀ x ∈ p1, x.block < W.heap.size := by obtain ⟨m, hm⟩ := h1; exact DataW.trod_lt m _ _ _ hm
  have c1 : v1.cells = #[v1] := one_cell (t := 33) (hval 1 33 v1 rfl rfl) (by simp only [Try.underlying33]; exact fun _ => by simp) (by simp only [Try.underlying33]; exact fun _ _ => by simp)
  obtain ⟨a1, U1, o1, s1, b1⟩ := arg_one op33 c1 h1
  have lt2 : ∀ x ∈ p2, x.block < W.heap.size := by obtain ⟨m, hm⟩ := h2; exact DataW.trod_lt m _ _ _ hm
  have c2 : v2.cells = #[v2] := one_cell (t := 33) (hval 2 33 v2 rfl rfl) (by simp only [Try.underlying33]; exact fun _ => by simp) (by simp only [Try.underlying33]; exact fun _ _ => by simp)
  obtain ⟨a2, U2, o2, s2, b2⟩ := arg_one op33 c2 h2
  have hargsR : argsR W [.sv (.one (.sl false 57 2 (encs (c57 false) a0))), .sv (.one (.sl false 57 2 (encs (c57 false) a1))), .sv (.one (.sl false 57 2 (encs (c57 false) a2)))] [v0, v1, v2] [] (U0 ++ (U1 ++ (U2 ++ []))) := ⟨_, _, [], [], U0, (U1 ++ (U2 ++ [])), rfl, rfl, rfl, s0, ⟨_, _, [], [], U1, (U2 ++ []), rfl, rfl, rfl, s1, ⟨_, _, [], [], U2, [], rfl, rfl, rfl, s2, ⟨rfl, rfl, rfl⟩⟩⟩⟩
  refine (w_FnExactWholeOrNot_t a0 a1 a2 true (Go.TI.wholeOrNot_true a0 a1 a2 o0 o1 o2) W _ [] _ hargsR List.nodup_nil (by simp) (by
    intro b hb
    simp only [List.nil_append, List.append_nil, List.mem_append] at hb
    rcases hb with hb | hb | hb
    · exact b0 b hb
    · exact b1 b hb
    · exact b2 b hb)).mono fun e' W' ⟨v, F, U, G, V, he, hl⟩ => ?_
  have bel : Below W.heap.size W W' := ⟨hl.os, hl.tape, hl.output, hl.size, fun k hk => hl.keep k hk (by simp)⟩
  have hv : v = .bool true := by
    have := hl.res
    simp only [svR, rep] at this
    exact this.1.1
  subst hv
  subst he
  exact ⟨_, rfl, _, _, _, [], _, [], hW', trodAll_mk1 (shut_bool Try.underlying4 _), (trodAll_cons_mk (Below.trod laidOut (by kernel_rfl) (of_decide_eq_true (by kernel_rfl)) h0 bel lt0) (trodAll_cons_mk (Below.trod laidOut (by kernel_rfl) (of_decide_eq_true (by kernel_rfl)) h1 bel lt1) (trodAll_cons_mk (Below.trod laidOut (by kernel_rfl) (of_decide_eq_true (by kernel_rfl)) h2 bel lt2) trodAll_mk0))), rfl, bel.frame _, fun h => by cases h⟩

theorem over : Rows.fnExactWholeOrNotRow.holds Try.pinned (OpenSpec.ofChange Rows.fnExactWholeOrNotSpec) :=
  OpenClaim.holds_of_wide 5 Try.f5 rfl rfl rfl rfl rfl rfl rfl ⟨rfl, rfl, rfl, rfl, rfl⟩ rfl rfl rfl rfl rfl (by kernel_rfl) Try.func5 (by kernel_rfl)
    (of_decide_eq_true (by kernel_rfl)) (by unfold Func.isWrapper; first | (rw [if_pos (by decide +kernel)]; kernel_rfl) | (rw [if_neg (by decide +kernel)]; exact ⟨rfl, rfl⟩))
    (fun os started H enc _ => lifted os started H enc)
theorem proved : Rows.FnExactWholeOrNotSaid := over
#print axioms proved
end Go.Proofs.Ytngfcadblnecpaa.fnExactWholeOrNot
namespace Go.Proofs.Ytngfcadblnecpaa
theorem fnExactWholeOrNot_holds : Rows.FnExactWholeOrNotSaid := fnExactWholeOrNot.proved
end Go.Proofs.Ytngfcadblnecpaa
