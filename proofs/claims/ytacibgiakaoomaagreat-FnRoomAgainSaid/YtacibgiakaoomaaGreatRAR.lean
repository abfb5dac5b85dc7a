/- FnRoomAgain returns true for every argument, and its arguments read behind the call as they read before. No condition. -/
import Derived.Test.YtacibgiakaoomaaGreatRows
import Derived.Test.YtacibgiakaoomaaGreatRAW1
import Derived.WalkKit
import Derived.ProofKit
import Derived.OpenShut
import Derived.ShutString
import Derived.ChangeOld
import Derived.Below
import Derived.SizedLaws
namespace Go.Proofs.YtacibgiakaoomaaGreat.fnRoomAgain
open Go.ChangeShapes Go.WideShapes Go.ChangeAt Go.RowKit Go.TI
set_option linter.unusedVariables false
set_option linter.unusedSimpArgs false
theorem own : ownKnob Tryz.prog.godebug = none := by kernel_rfl
theorem laidOut : laidOutB Tryz.prog = true := by kernel_rfl
set_option maxRecDepth 100000 in
theorem op5 : eP Tryz.prog 5 (fun n : Int => [.int .u8 n]) (oK .u8) := uI Tryz.underlying5
set_option maxRecDepth 100000 in
theorem op22 : eP Tryz.prog 22 (fun l : List Int => [.sl false 5 1 (A8 c5 l)]) (ol (oK .u8)) := kW Tryz.underlying22 rfl (by decide) k5 op5
set_option maxRecDepth 100000 in
theorem lifted (os : Os) (started : os.Started) (H : Type) (enc : TypeId × Value → H) :
    ReturnsInHanded {} Tryz.checked os 6 .any (Rows.fnRoomAgainSpec.pre6 enc Tryz.prog Tryz.f6 Rows.fnRoomAgainRow.domain false) (Rows.fnRoomAgainSpec.post enc Tryz.prog Tryz.f6 false true false false) := by
  refine returnsInHanded_of_change_sized (C := Tryz.checked) own started (by kernel_rfl) Tryz.func6
    (ChangeSpec.witness6 (enc := enc) (C := Tryz.checked) false ⟨#[], #[.slice none 0 0], []⟩ 8 (by kernel_rfl) (by kernel_rfl) (by kernel_rfl) (by kernel_rfl)) ?_
  intro W base args ds gs before hval0 hW hcnd hsz0 _
  have hval : ∀ (j : Nat) t v, Tryz.f6.params[j]? = some t → args[j]? = some v → Value.okWide Tryz.prog W .any base t v := hval0
  have hW' := hW
  obtain ⟨p, q, hA0, hV, rfl, hfz, hnd⟩ := hW
  have hA : DataW.TrodAll enc Tryz.prog W 0 (fun _ => true) true Tryz.f6.params.toList args.toList ds p := hA0
  rw [Tryz.params6] at hA hval
  obtain ⟨v0, vs0, d0, ds0, p0, q0, hargs, rfl, rfl, h0, r0⟩ := trodAll_cons hA
  obtain ⟨rfl, rfl, rfl⟩ := trodAll_nil r0
  obtain rfl : args = #[v0] := by cases args; simp_all
  obtain ⟨rfl, rfl⟩ := trodVars_none hV
  have lt0 : ∀ x ∈ p0, x.block < W.heap.size := by obtain ⟨m, hm⟩ := h0; exact DataW.trod_lt m _ _ _ hm
  have c0 : v0.cells = #[v0] := yK (t := 22) (hval 0 22 v0 rfl rfl) (by simp only [Tryz.underlying22]; exact fun _ => by simp) (by simp only [Tryz.underlying22]; exact fun _ _ => by simp)
  obtain ⟨a0, U0, o0, s0, b0⟩ := ABG op22 c0 h0
  have hargsR : KA W [.sv (.one (Sd a0))] [v0] [] (U0 ++ []) := ⟨_, _, [], [], U0, [], rfl, rfl, rfl, s0, ⟨rfl, rfl, rfl⟩⟩
  refine (WZ a0 true (Go.TI.fnRoomAgain_true a0 o0) W _ [] _ hargsR Ds (by simp) (by
    intro b hb
    simp only [A5, AO, Az] at hb
    exact b0 b hb)).mono fun e' W' ⟨v, F, U, G, V, he, hl⟩ => ?_
  have bel : Below W.heap.size W W' := ⟨hl.os, hl.tape, hl.output, hl.size, fun k hk => hl.keep k hk (by simp)⟩
  have hv : v = .bool true := by
    have := hl.res
    simp only [i8, Dl] at this
    exact this.1.1
  subst hv
  subst he
  exact ⟨_, rfl, _, _, _, [], _, [], hW', trodAll_mk1 (shut_bool Tryz.underlying4 _), (trodAll_cons_mk (Below.trod laidOut (by kernel_rfl) (of_decide_eq_true (by kernel_rfl)) h0 bel lt0) trodAll_mk0), rfl, bel.frame _, fun h => by cases h⟩

theorem jf0 : (Rows.fnRoomAgainRow.wf (OpenSpec.ofChange Rows.fnRoomAgainSpec)) = true := by kernel_rfl
theorem jf1 : (laidOutB Tryz.prog) = true := by kernel_rfl
theorem jf2 : (mapsRowed Tryz.prog) = true := by kernel_rfl
theorem jf3 : (Tryz.f6.params.all (Tryz.prog.readableRec ·)) = true := by kernel_rfl
theorem jf4 : (namedTie Tryz.prog Rows.fnRoomAgainRow.named Rows.fnRoomAgainSpec.vars) = true := by kernel_rfl
theorem jf5 : ((Rows.fnRoomAgainRow.stops == [])) = true := by kernel_rfl
theorem jf6 : ((Tryz.prog.stops == [])) = true := by kernel_rfl
theorem jf7 : ((Rows.fnRoomAgainRow.knobs == [])) = true := by kernel_rfl
theorem jf8 : ((Tryz.prog.stopKnobs == [])) = true := by kernel_rfl
theorem jf9 : ((Rows.fnRoomAgainRow.inPlace == Tryz.prog.inPlace 6)) = true := by kernel_rfl
theorem jf10 : ((Rows.fnRoomAgainRow.unfollowed == Tryz.prog.unfollowed 6)) = true := by kernel_rfl
theorem jf11 : ((Rows.fnRoomAgainRow.recurses == Tryz.prog.recurses 6)) = true := by kernel_rfl
theorem jf12 : ((Rows.fnRoomAgainRow.named == Tryz.prog.varsNamed 6)) = true := by kernel_rfl
theorem jf13 : ((Rows.fnRoomAgainRow.maps == (Tryz.f6.params.toList ++ Rows.fnRoomAgainSpec.plain.varTypes Tryz.prog).any (Tryz.prog.mapsRec ·))) = true := by kernel_rfl
theorem jf14 : ((Rows.fnRoomAgainRow.ifaces == (Tryz.f6.params.toList ++ Rows.fnRoomAgainSpec.plain.varTypes Tryz.prog).any (Tryz.prog.ifacesRec ·))) = true := by kernel_rfl
theorem jf15 : ((Rows.fnRoomAgainRow.mapsOut == Tryz.prog.mapsAmong Tryz.f6.resultTypes.toList)) = true := by kernel_rfl
theorem jf16 : ((Rows.fnRoomAgainRow.loops == (Tryz.f6.params.toList ++ Rows.fnRoomAgainSpec.plain.varTypes Tryz.prog).any (Tryz.prog.loopsFrom ·))) = true := by kernel_rfl
theorem jf17 : ((Rows.fnRoomAgainRow.wideKeys == (Tryz.f6.params.toList ++ Rows.fnRoomAgainSpec.plain.varTypes Tryz.prog ++ Tryz.f6.resultTypes.toList).any (Tryz.prog.wideKeysFrom ·))) = true := by kernel_rfl
theorem jf18 : (Rows.fnRoomAgainSpec.vars.all (Tryz.prog.varReadable ·)) = true := by kernel_rfl
theorem jf19 : (Tryz.f6.resultTypes.all (fun t => Tryz.prog.readableRec t && decide (t < Tryz.prog.types.size))) = true := by kernel_rfl
theorem jf20 : ((Rows.fnRoomAgainRow.ifacesOut == Tryz.f6.resultTypes.toList.any (Tryz.prog.ifacesRec ·))) = true := by kernel_rfl
theorem jf21 : ((Rows.fnRoomAgainRow.loopsOut == Tryz.f6.resultTypes.toList.any (Tryz.prog.loopsFrom ·))) = true := by kernel_rfl
theorem jf22 : ((Rows.fnRoomAgainRow.plainKeys == Tryz.prog.plainKeys)) = true := by kernel_rfl
theorem jf23 : (Rows.fnRoomAgainRow.shortTexts.isNone) = true := by kernel_rfl
theorem jf24 : (Tryz.prog.stopsHeard) = true := by kernel_rfl
theorem jf25 : (Tryz.prog.mayEnter) = true := by kernel_rfl
theorem jf26 : ((Rows.fnRoomAgainRow.lifted == Tryz.prog.liftsFinal)) = true := by kernel_rfl
theorem jf27 : ((Tryz.prog.make == some Rows.fnRoomAgainRow.make)) = true := by kernel_rfl
theorem jf28 : ((Rows.fnRoomAgainRow.kinds == (if Rows.fnRoomAgainRow.domain.isEmpty then [] else Tryz.f6.params.toList.map fun t => match Tryz.prog.underlying t with | some (.int k) => some k | _ => none))) = true := by kernel_rfl
theorem jf29 : ((Rows.fnRoomAgainRow.pinned == Rows.fnRoomAgainRow.pinnedBy)) = true := by kernel_rfl
theorem jf30 : ((Rows.fnRoomAgainRow.veiled == (Tryz.f6.params.toList ++ Rows.fnRoomAgainSpec.plain.varTypes Tryz.prog ++ Tryz.f6.resultTypes.toList).any (Tryz.prog.veiledRec ·))) = true := by kernel_rfl
theorem jf31 : (Rows.fnRoomAgainRow.veiledFits Tryz.prog Tryz.f6.params.toList (Tryz.f6.params.toList ++ Rows.fnRoomAgainSpec.plain.varTypes Tryz.prog ++ Tryz.f6.resultTypes.toList)) = true := by kernel_rfl
theorem and2 {a b : Bool} (h : a = true) (k : b = true) : (a && b) = true := by rw [h, k]; rfl
set_option maxRecDepth 100000 in
theorem jf : joinedFacts Tryz.prog 6 Tryz.f6 Rows.fnRoomAgainSpec Rows.fnRoomAgainRow = true := (and2 (and2 (and2 (and2 (and2 (and2 (and2 (and2 (and2 (and2 (and2 (and2 (and2 (and2 (and2 (and2 (and2 (and2 (and2 (and2 (and2 (and2 (and2 (and2 (and2 (and2 (and2 (and2 (and2 (and2 (and2 jf0 jf1) jf2) jf3) jf4) jf5) jf6) jf7) jf8) jf9) jf10) jf11) jf12) jf13) jf14) jf15) jf16) jf17) jf18) jf19) jf20) jf21) jf22) jf23) jf24) jf25) jf26) jf27) jf28) jf29) jf30) jf31)
theorem ov1 : Tryz.prog.funcNamed Rows.fnRoomAgainRow.func = some 6 := by kernel_rfl
theorem over : Rows.fnRoomAgainRow.holds Tryz.pinned (OpenSpec.ofChange Rows.fnRoomAgainSpec) :=
  OpenClaim.holds_of_wide 6 Tryz.f6 rfl rfl rfl rfl rfl rfl rfl ⟨rfl, rfl, rfl, rfl, rfl⟩ rfl rfl rfl rfl rfl ov1 Tryz.func6 jf
    (of_decide_eq_true (by kernel_rfl)) (by unfold Func.isWrapper; first | (rw [BE (by decide +kernel)]; kernel_rfl) | (rw [Bi (by decide +kernel)]; exact ⟨rfl, rfl⟩))
    (fun os started H enc _ => lifted os started H enc)
theorem proved : Rows.FnRoomAgainSaid := over
#print axioms proved
end Go.Proofs.YtacibgiakaoomaaGreat.fnRoomAgain
namespace Go.Proofs.YtacibgiakaoomaaGreat
theorem fnRoomAgain_holds : Rows.FnRoomAgainSaid := fnRoomAgain.proved
end Go.Proofs.YtacibgiakaoomaaGreat
