/- FnReadBack returns true for every argument, and its arguments read behind the call as they read before. No condition. -/
import Derived.Test.YtacibgiakaoomaaGreatRows
import Derived.Test.YtacibgiakaoomaaGreatRBW1
import Derived.WalkKit
import Derived.ProofKit
import Derived.OpenShut
import Derived.ShutString
import Derived.ChangeOld
import Derived.Below
import Derived.SizedLaws
namespace Go.Proofs.YtacibgiakaoomaaGreat.fnReadBack
open Go.ChangeShapes Go.WideShapes Go.ChangeAt Go.RowKit Go.TI
set_option linter.unusedVariables false
set_option linter.unusedSimpArgs false
theorem own : ownKnob Tryz.prog.godebug = none := by kernel_rfl
theorem laidOut : laidOutB Tryz.prog = true := by kernel_rfl
set_option maxRecDepth 100000 in
theorem op5 : dW Tryz.prog 5 (fun n : Int => [.int .u8 n]) (oK .u8) := tE Tryz.underlying5
set_option maxRecDepth 100000 in
theorem op22 : dW Tryz.prog 22 (fun l : List Int => [.sl false 5 1 (Az c5 l)]) (ol (oK .u8)) := jO Tryz.underlying22 rfl (by decide) k5 op5
set_option maxRecDepth 100000 in
theorem lifted (os : Os) (started : os.Started) (H : Type) (enc : TypeId × Value → H) :
    ReturnsInHanded {} Tryz.checked os 4 .any (Rows.fnReadBackSpec.pre6 enc Tryz.prog Tryz.f4 Rows.fnReadBackRow.domain false) (Rows.fnReadBackSpec.post enc Tryz.prog Tryz.f4 false true false false) := by
  refine returnsInHanded_of_change_sized (C := Tryz.checked) own started (by kernel_rfl) Tryz.func4
    (ChangeSpec.witness6 (enc := enc) (C := Tryz.checked) false ⟨#[], #[.slice none 0 0], []⟩ 8 (by kernel_rfl) (by kernel_rfl) (by kernel_rfl) (by kernel_rfl)) ?_
  intro W base args ds gs before hval0 hW hcnd hsz0 _
  have hval : ∀ (j : Nat) t v, Tryz.f4.params[j]? = some t → args[j]? = some v → Value.okWide Tryz.prog W .any base t v := hval0
  have hW' := hW
  obtain ⟨p, q, hA0, hV, rfl, hfz, hnd⟩ := hW
  have hA : DataW.TrodAll enc Tryz.prog W 0 (fun _ => true) true Tryz.f4.params.toList args.toList ds p := hA0
  rw [Tryz.params4] at hA hval
  obtain ⟨v0, vs0, d0, ds0, p0, q0, hargs, rfl, rfl, h0, r0⟩ := trodAll_cons hA
  obtain ⟨rfl, rfl, rfl⟩ := trodAll_nil r0
  obtain rfl : args = #[v0] := by cases args; simp_all
  obtain ⟨rfl, rfl⟩ := trodVars_none hV
  have lt0 : ∀ x ∈ p0, x.block < W.heap.size := by obtain ⟨m, hm⟩ := h0; exact DataW.trod_lt m _ _ _ hm
  have c0 : v0.cells = #[v0] := wS (t := 22) (hval 0 22 v0 rfl rfl) (by simp only [Tryz.underlying22]; exact fun _ => by simp) (by simp only [Tryz.underlying22]; exact fun _ _ => by simp)
  obtain ⟨a0, U0, o0, s0, b0⟩ := ABt op22 c0 h0
  have hargsR : Ke W [.sv (.one (qY a0))] [v0] [] (U0 ++ []) := ⟨_, _, [], [], U0, [], rfl, rfl, rfl, s0, ⟨rfl, rfl, rfl⟩⟩
  refine (X2 a0 true (Go.TI.fnReadBack_true a0 o0) W _ [] _ hargsR CR (by simp) (by
    intro b hb
    simp only [Av, AJ, Ay] at hb
    exact b0 b hb)).mono fun e' W' ⟨v, F, U, G, V, he, hl⟩ => ?_
  have bel : Below W.heap.size W W' := ⟨hl.os, hl.tape, hl.output, hl.size, fun k hk => hl.keep k hk (by simp)⟩
  have hv : v = .bool true := by
    have := hl.res
    simp only [iE, CL] at this
    exact this.1.1
  subst hv
  subst he
  exact ⟨_, rfl, _, _, _, [], _, [], hW', trodAll_mk1 (shut_bool Tryz.underlying4 _), (trodAll_cons_mk (Below.trod laidOut (by kernel_rfl) (of_decide_eq_true (by kernel_rfl)) h0 bel lt0) trodAll_mk0), rfl, bel.frame _, fun h => by cases h⟩

theorem jf0 : (Rows.fnReadBackRow.wf (OpenSpec.ofChange Rows.fnReadBackSpec)) = true := by kernel_rfl
theorem jf1 : (laidOutB Tryz.prog) = true := by kernel_rfl
theorem jf2 : (mapsRowed Tryz.prog) = true := by kernel_rfl
theorem jf3 : (Tryz.f4.params.all (Tryz.prog.readableRec ·)) = true := by kernel_rfl
theorem jf4 : (namedTie Tryz.prog Rows.fnReadBackRow.named Rows.fnReadBackSpec.vars) = true := by kernel_rfl
theorem jf5 : ((Rows.fnReadBackRow.stops == [])) = true := by kernel_rfl
theorem jf6 : ((Tryz.prog.stops == [])) = true := by kernel_rfl
theorem jf7 : ((Rows.fnReadBackRow.knobs == [])) = true := by kernel_rfl
theorem jf8 : ((Tryz.prog.stopKnobs == [])) = true := by kernel_rfl
theorem jf9 : ((Rows.fnReadBackRow.inPlace == Tryz.prog.inPlace 4)) = true := by kernel_rfl
theorem jf10 : ((Rows.fnReadBackRow.unfollowed == Tryz.prog.unfollowed 4)) = true := by kernel_rfl
theorem jf11 : ((Rows.fnReadBackRow.recurses == Tryz.prog.recurses 4)) = true := by kernel_rfl
theorem jf12 : ((Rows.fnReadBackRow.named == Tryz.prog.varsNamed 4)) = true := by kernel_rfl
theorem jf13 : ((Rows.fnReadBackRow.maps == (Tryz.f4.params.toList ++ Rows.fnReadBackSpec.plain.varTypes Tryz.prog).any (Tryz.prog.mapsRec ·))) = true := by kernel_rfl
theorem jf14 : ((Rows.fnReadBackRow.ifaces == (Tryz.f4.params.toList ++ Rows.fnReadBackSpec.plain.varTypes Tryz.prog).any (Tryz.prog.ifacesRec ·))) = true := by kernel_rfl
theorem jf15 : ((Rows.fnReadBackRow.mapsOut == Tryz.prog.mapsAmong Tryz.f4.resultTypes.toList)) = true := by kernel_rfl
theorem jf16 : ((Rows.fnReadBackRow.loops == (Tryz.f4.params.toList ++ Rows.fnReadBackSpec.plain.varTypes Tryz.prog).any (Tryz.prog.loopsFrom ·))) = true := by kernel_rfl
theorem jf17 : ((Rows.fnReadBackRow.wideKeys == (Tryz.f4.params.toList ++ Rows.fnReadBackSpec.plain.varTypes Tryz.prog ++ Tryz.f4.resultTypes.toList).any (Tryz.prog.wideKeysFrom ·))) = true := by kernel_rfl
theorem jf18 : (Rows.fnReadBackSpec.vars.all (Tryz.prog.varReadable ·)) = true := by kernel_rfl
theorem jf19 : (Tryz.f4.resultTypes.all (fun t => Tryz.prog.readableRec t && decide (t < Tryz.prog.types.size))) = true := by kernel_rfl
theorem jf20 : ((Rows.fnReadBackRow.ifacesOut == Tryz.f4.resultTypes.toList.any (Tryz.prog.ifacesRec ·))) = true := by kernel_rfl
theorem jf21 : ((Rows.fnReadBackRow.loopsOut == Tryz.f4.resultTypes.toList.any (Tryz.prog.loopsFrom ·))) = true := by kernel_rfl
theorem jf22 : ((Rows.fnReadBackRow.plainKeys == Tryz.prog.plainKeys)) = true := by kernel_rfl
theorem jf23 : (Rows.fnReadBackRow.shortTexts.isNone) = true := by kernel_rfl
theorem jf24 : (Tryz.prog.stopsHeard) = true := by kernel_rfl
theorem jf25 : (Tryz.prog.mayEnter) = true := by kernel_rfl
theorem jf26 : ((Rows.fnReadBackRow.lifted == Tryz.prog.liftsFinal)) = true := by kernel_rfl
theorem jf27 : ((Tryz.prog.make == some Rows.fnReadBackRow.make)) = true := by kernel_rfl
theorem jf28 : ((Rows.fnReadBackRow.kinds == (if Rows.fnReadBackRow.domain.isEmpty then [] else Tryz.f4.params.toList.map fun t => match Tryz.prog.underlying t with | some (.int k) => some k | _ => none))) = true := by kernel_rfl
theorem jf29 : ((Rows.fnReadBackRow.pinned == Rows.fnReadBackRow.pinnedBy)) = true := by kernel_rfl
theorem jf30 : ((Rows.fnReadBackRow.veiled == (Tryz.f4.params.toList ++ Rows.fnReadBackSpec.plain.varTypes Tryz.prog ++ Tryz.f4.resultTypes.toList).any (Tryz.prog.veiledRec ·))) = true := by kernel_rfl
theorem jf31 : (Rows.fnReadBackRow.veiledFits Tryz.prog Tryz.f4.params.toList (Tryz.f4.params.toList ++ Rows.fnReadBackSpec.plain.varTypes Tryz.prog ++ Tryz.f4.resultTypes.toList)) = true := by kernel_rfl
theorem and2 {a b : Bool} (h : a = true) (k : b = true) : (a && b) = true := by rw [h, k]; rfl
set_option maxRecDepth 100000 in
theorem jf : joinedFacts Tryz.prog 4 Tryz.f4 Rows.fnReadBackSpec Rows.fnReadBackRow = true := (and2 (and2 (and2 (and2 (and2 (and2 (and2 (and2 (and2 (and2 (and2 (and2 (and2 (and2 (and2 (and2 (and2 (and2 (and2 (and2 (and2 (and2 (and2 (and2 (and2 (and2 (and2 (and2 (and2 (and2 (and2 jf0 jf1) jf2) jf3) jf4) jf5) jf6) jf7) jf8) jf9) jf10) jf11) jf12) jf13) jf14) jf15) jf16) jf17) jf18) jf19) jf20) jf21) jf22) jf23) jf24) jf25) jf26) jf27) jf28) jf29) jf30) jf31)
theorem ov1 : Tryz.prog.funcNamed Rows.fnReadBackRow.func = some 4 := by kernel_rfl
theorem over : Rows.fnReadBackRow.holds Tryz.pinned (OpenSpec.ofChange Rows.fnReadBackSpec) :=
  OpenClaim.holds_of_wide 4 Tryz.f4 rfl rfl rfl rfl rfl rfl rfl ⟨rfl, rfl, rfl, rfl, rfl⟩ rfl rfl rfl rfl rfl ov1 Tryz.func4 jf
    (of_decide_eq_true (by kernel_rfl)) (by unfold Func.isWrapper; first | (rw [Bv (by decide +kernel)]; kernel_rfl) | (rw [AT (by decide +kernel)]; exact ⟨rfl, rfl⟩))
    (fun os started H enc _ => lifted os started H enc)
theorem proved : Rows.FnReadBackSaid := over
#print axioms proved
end Go.Proofs.YtacibgiakaoomaaGreat.fnReadBack
namespace Go.Proofs.YtacibgiakaoomaaGreat
theorem fnReadBack_holds : Rows.FnReadBackSaid := fnReadBack.proved
end Go.Proofs.YtacibgiakaoomaaGreat
