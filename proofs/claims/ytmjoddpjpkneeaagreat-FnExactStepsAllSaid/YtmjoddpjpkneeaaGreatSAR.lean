/- FnExactStepsAll returns true for every argument, and its arguments read behind the call as they read before. No condition. -/
import Derived.Test.YtmjoddpjpkneeaaGreatRows
import Derived.Test.YtmjoddpjpkneeaaGreatSAW1
import Derived.WalkKit
import Derived.ProofKit
import Derived.OpenShut
import Derived.ShutString
import Derived.ChangeOld
import Derived.Below
import Derived.SizedLaws
namespace Go.Proofs.YtmjoddpjpkneeaaGreat.fnExactStepsAll
open Go.ChangeShapes Go.WideShapes Go.ChangeAt Go.RowKit Go.TI
set_option linter.unusedVariables false
set_option linter.unusedSimpArgs false
theorem own : ownKnob Tryz.prog.godebug = none := by kernel_rfl
theorem laidOut : laidOutB Tryz.prog = true := by kernel_rfl
set_option maxRecDepth 100000 in
theorem op4 : DW Tryz.prog 4 (fun b : Bool => [.bool b]) oB := ZO Tryz.underlying4
set_option maxRecDepth 100000 in
theorem op3 : DW Tryz.prog 3 (fun n : Int => [.int .i64 n]) oI := eQ Tryz.underlying3
set_option maxRecDepth 100000 in
theorem op9 : DW Tryz.prog 9 (fun s : ByteArray => [.str s]) oS := VZ Tryz.underlying9
set_option maxRecDepth 100000 in
theorem op193 : DW Tryz.prog 193 aW XT := CU (fun b => Go.TI.Leaf.mk b.1 b.2.1) Tryz.underlying193 rfl (Bo rfl rfl op3 (Bo rfl rfl op9 Eo)) (fun b hb => ⟨⟨hb.1, hb.2.1⟩, rfl⟩)
set_option maxRecDepth 100000 in
theorem op109 : DW Tryz.prog 109 (fun l : List Go.TI.Leaf => [.sl false 193 2 (Ai aW l)]) (ol XT) := GB Tryz.underlying109 rfl (by decide) Wk op193
set_option maxRecDepth 100000 in
theorem op111 : DW Tryz.prog 111 (YB false) S9 := CU (fun b => Go.TI.Block.mk b.1 b.2.1 b.2.2.1) Tryz.underlying111 rfl (Bo rfl rfl op4 (Bo rfl rfl op3 (Bo rfl rfl op109 Eo))) (fun b hb => ⟨⟨hb.1, hb.2.1, hb.2.2.1⟩, rfl⟩)
set_option maxRecDepth 100000 in
theorem op22 : DW Tryz.prog 22 (fun l : List Go.TI.Block => [.sl false 111 3 (Ai (YB false) l)]) (ol S9) := GB Tryz.underlying22 rfl (by decide) (Wm false) op111
set_option maxRecDepth 100000 in
theorem op24 : DW Tryz.prog 24 (s7 false) ZT := CU (fun b => Go.TI.Flash.mk b.1) Tryz.underlying24 rfl (Bo rfl rfl op22 Eo) (fun b hb => ⟨hb.1, rfl⟩)
set_option maxRecDepth 100000 in
theorem op137 : DW Tryz.prog 137 Ul oY := CU (fun b => Go.TI.Vol.mk b.1 b.2.1) Tryz.underlying137 rfl (Bo rfl rfl op3 (Bo rfl rfl op3 Eo)) (fun b hb => ⟨⟨hb.1, hb.2.1⟩, rfl⟩)
set_option maxRecDepth 100000 in
theorem op25 : DW Tryz.prog 25 (fun l : List Go.TI.Vol => [.sl false 137 2 (Ai Ul l)]) (ol oY) := GB Tryz.underlying25 rfl (by decide) eX op137
set_option maxRecDepth 100000 in
theorem op128 : DW Tryz.prog 128 (fun l : List Int => [.sl false 3 1 (Ai c3 l)]) (ol oI) := GB Tryz.underlying128 rfl (by decide) k3 op3
set_option maxRecDepth 100000 in
theorem op152 : DW Tryz.prog 152 (Ng false) XU := CU (fun b => Go.TI.Knot.mk b.1 b.2.1) Tryz.underlying152 rfl (Bo rfl rfl op4 (Bo rfl rfl op128 Eo)) (fun b hb => ⟨⟨hb.1, hb.2.1⟩, rfl⟩)
set_option maxRecDepth 100000 in
theorem op26 : DW Tryz.prog 26 (fun l : List Go.TI.Knot => [.sl false 152 2 (Ai (Ng false) l)]) (ol XU) := GB Tryz.underlying26 rfl (by decide) (Wl false) op152
set_option maxRecDepth 100000 in
theorem op28 : DW Tryz.prog 28 (s6 false) ZU := CU (fun b => Go.TI.Arena.mk b.1) Tryz.underlying28 rfl (Bo rfl rfl op26 Eo) (fun b hb => ⟨hb.1, rfl⟩)
set_option maxRecDepth 100000 in
theorem op30 : DW Tryz.prog 30 (s5 false) ZS := CU (fun b => Go.TI.Store.mk b.1 b.2.1 b.2.2.1) Tryz.underlying30 rfl (Bo rfl rfl op25 (Bo rfl rfl op28 (Bo rfl rfl op3 Eo))) (fun b hb => ⟨⟨hb.1, hb.2.1, hb.2.2.1⟩, rfl⟩)
set_option maxRecDepth 100000 in
theorem op32 : DW Tryz.prog 32 (sZ false) Wc := CU (fun b => Go.TI.Device.mk b.1 b.2.1 b.2.2.1 b.2.2.2.1 b.2.2.2.2.1) Tryz.underlying32 rfl (Bo rfl rfl op24 (Bo rfl rfl op30 (Bo rfl rfl op3 (Bo rfl rfl op3 (Bo rfl rfl op3 Eo))))) (fun b hb => ⟨⟨hb.1, hb.2.1, hb.2.2.1, hb.2.2.2.1, hb.2.2.2.2.1⟩, rfl⟩)
set_option maxRecDepth 100000 in
theorem op60 : DW Tryz.prog 60 pS XS := CU (fun b => Go.TI.Step.mk b.1 b.2.1 b.2.2.1 b.2.2.2.1) Tryz.underlying60 rfl (Bo rfl rfl op3 (Bo rfl rfl op3 (Bo rfl rfl op3 (Bo rfl rfl op9 Eo)))) (fun b hb => ⟨⟨hb.1, hb.2.1, hb.2.2.1, hb.2.2.2.1⟩, rfl⟩)
set_option maxRecDepth 100000 in
theorem op33 : DW Tryz.prog 33 (fun l : List Go.TI.Step => [.sl false 60 4 (Ai pS l)]) (ol XS) := GB Tryz.underlying33 rfl (by decide) lM op60
set_option maxRecDepth 100000 in
theorem lifted (os : Os) (started : os.Started) (H : Type) (enc : TypeId × Value → H) :
    ReturnsInHanded {} Tryz.checked os 3 .any (Rows.fnExactStepsAllSpec.pre6 enc Tryz.prog Tryz.f3 Rows.fnExactStepsAllRow.domain false) (Rows.fnExactStepsAllSpec.post enc Tryz.prog Tryz.f3 false true false false) := by
  refine returnsInHanded_of_change_sized (C := Tryz.checked) own started (by kernel_rfl) Tryz.func3
    (ChangeSpec.witness6 (enc := enc) (C := Tryz.checked) false ⟨#[], #[.agg #[.slice none 0 0, .slice none 0 0, .slice none 0 0, .int .i64 0, .int .i64 0, .int .i64 0, .int .i64 0], .slice none 0 0], []⟩ 8 (by kernel_rfl) (by kernel_rfl) (by kernel_rfl) (by kernel_rfl)) ?_
  intro W base args ds gs before hval0 hW hcnd hsz0 _
  have hval : ∀ (j : Nat) t v, Tryz.f3.params[j]? = some t → args[j]? = some v → Value.okWide Tryz.prog W .any base t v := hval0
  have hW' := hW
  obtain ⟨p, q, hA0, hV, rfl, hfz, hnd⟩ := hW
  have hA : DataW.TrodAll enc Tryz.prog W 0 (fun _ => true) true Tryz.f3.params.toList args.toList ds p := hA0
  rw [Tryz.params3] at hA hval
  obtain ⟨v0, vs0, d0, ds0, p0, q0, hargs, rfl, rfl, h0, r0⟩ := trodAll_cons hA
  obtain ⟨v1, vs1, d1, ds1, p1, q1, rfl, rfl, rfl, h1, r1⟩ := trodAll_cons r0
  obtain ⟨rfl, rfl, rfl⟩ := trodAll_nil r1
  obtain rfl : args = #[v0, v1] := by cases args; simp_all
  obtain ⟨rfl, rfl⟩ := trodVars_none hV
  have lt0 : ∀ x ∈ p0, x.block < W.heap.size := by obtain ⟨m, hm⟩ := h0; exact DataW.trod_lt m _ _ _ hm
  obtain ⟨xs0, hxs0⟩ : ∃ xs, v0 = Value.agg xs := by have := hval 0 32 v0 rfl rfl; unfold Value.okWide at this; simp only [Tryz.underlying32] at this; exact ⟨_, this.choose_spec.1⟩
  obtain ⟨a0, U0, o0, s0, b0⟩ := mU op32 hxs0 h0
  have lt1 : ∀ x ∈ p1, x.block < W.heap.size := by obtain ⟨m, hm⟩ := h1; exact DataW.trod_lt m _ _ _ hm
  have c1 : v1.cells = #[v1] := iA (t := 33) (hval 1 33 v1 rfl rfl) (by simp only [Tryz.underlying33]; exact fun _ => by simp) (by simp only [Tryz.underlying33]; exact fun _ _ => by simp)
  obtain ⟨a1, U1, o1, s1, b1⟩ := mT op33 c1 h1
  have hargsR : Gk W [.sv (.agg [Hw a0.Flash.Blocks, Ip a0.Store.Vols, Hv a0.Store.Arena.Knots, i6 a0.Store.Next, i6 a0.Seq, i6 a0.Tx, i6 a0.Base]), .sv (.one (MH a1))] [v0, v1] [] (U0 ++ (U1 ++ [])) := ⟨_, _, [], [], U0, (U1 ++ []), rfl, rfl, rfl, s0, ⟨_, _, [], [], U1, [], rfl, rfl, rfl, s1, ⟨rfl, rfl, rfl⟩⟩⟩
  refine (NM a0 a1 true (Go.TI.stepsAll_true a0 a1 o0 o1) W _ [] _ hargsR BN (by simp) (by
    intro b hb
    simp only [Ar, A6, Au] at hb
    rcases hb with hb | hb
    · exact b0 b hb
    · exact b1 b hb)).mono fun e' W' ⟨v, F, U, G, V, he, hl⟩ => ?_
  have bel : Below W.heap.size W W' := ⟨hl.os, hl.tape, hl.output, hl.size, fun k hk => hl.keep k hk (by simp)⟩
  have hv : v = .bool true := by
    have := hl.res
    simp only [QW, BU] at this
    exact this.1.1
  subst hv
  subst he
  exact ⟨_, rfl, _, _, _, [], _, [], hW', trodAll_mk1 (shut_bool Tryz.underlying4 _), (trodAll_cons_mk (Below.trod laidOut (by kernel_rfl) (of_decide_eq_true (by kernel_rfl)) h0 bel lt0) (trodAll_cons_mk (Below.trod laidOut (by kernel_rfl) (of_decide_eq_true (by kernel_rfl)) h1 bel lt1) trodAll_mk0)), rfl, bel.frame _, fun h => by cases h⟩

theorem jf0 : (Rows.fnExactStepsAllRow.wf (OpenSpec.ofChange Rows.fnExactStepsAllSpec)) = true := by kernel_rfl
theorem jf1 : (laidOutB Tryz.prog) = true := by kernel_rfl
theorem jf2 : (mapsRowed Tryz.prog) = true := by kernel_rfl
theorem jf3 : (Tryz.f3.params.all (Tryz.prog.readableRec ·)) = true := by kernel_rfl
theorem jf4 : (namedTie Tryz.prog Rows.fnExactStepsAllRow.named Rows.fnExactStepsAllSpec.vars) = true := by kernel_rfl
theorem jf5 : ((Rows.fnExactStepsAllRow.stops == [])) = true := by kernel_rfl
theorem jf6 : ((Tryz.prog.stops == [])) = true := by kernel_rfl
theorem jf7 : ((Rows.fnExactStepsAllRow.knobs == [])) = true := by kernel_rfl
theorem jf8 : ((Tryz.prog.stopKnobs == [])) = true := by kernel_rfl
theorem jf9 : ((Rows.fnExactStepsAllRow.inPlace == Tryz.prog.inPlace 3)) = true := by kernel_rfl
theorem jf10 : ((Rows.fnExactStepsAllRow.unfollowed == Tryz.prog.unfollowed 3)) = true := by kernel_rfl
theorem jf11 : ((Rows.fnExactStepsAllRow.recurses == Tryz.prog.recurses 3)) = true := by kernel_rfl
theorem jf12 : ((Rows.fnExactStepsAllRow.named == Tryz.prog.varsNamed 3)) = true := by kernel_rfl
theorem jf13 : ((Rows.fnExactStepsAllRow.maps == (Tryz.f3.params.toList ++ Rows.fnExactStepsAllSpec.plain.varTypes Tryz.prog).any (Tryz.prog.mapsRec ·))) = true := by kernel_rfl
theorem jf14 : ((Rows.fnExactStepsAllRow.ifaces == (Tryz.f3.params.toList ++ Rows.fnExactStepsAllSpec.plain.varTypes Tryz.prog).any (Tryz.prog.ifacesRec ·))) = true := by kernel_rfl
theorem jf15 : ((Rows.fnExactStepsAllRow.mapsOut == Tryz.prog.mapsAmong Tryz.f3.resultTypes.toList)) = true := by kernel_rfl
theorem jf16 : ((Rows.fnExactStepsAllRow.loops == (Tryz.f3.params.toList ++ Rows.fnExactStepsAllSpec.plain.varTypes Tryz.prog).any (Tryz.prog.loopsFrom ·))) = true := by kernel_rfl
theorem jf17 : ((Rows.fnExactStepsAllRow.wideKeys == (Tryz.f3.params.toList ++ Rows.fnExactStepsAllSpec.plain.varTypes Tryz.prog ++ Tryz.f3.resultTypes.toList).any (Tryz.prog.wideKeysFrom ·))) = true := by kernel_rfl
theorem jf18 : (Rows.fnExactStepsAllSpec.vars.all (Tryz.prog.varReadable ·)) = true := by kernel_rfl
theorem jf19 : (Tryz.f3.resultTypes.all (fun t => Tryz.prog.readableRec t && decide (t < Tryz.prog.types.size))) = true := by kernel_rfl
theorem jf20 : ((Rows.fnExactStepsAllRow.ifacesOut == Tryz.f3.resultTypes.toList.any (Tryz.prog.ifacesRec ·))) = true := by kernel_rfl
theorem jf21 : ((Rows.fnExactStepsAllRow.loopsOut == Tryz.f3.resultTypes.toList.any (Tryz.prog.loopsFrom ·))) = true := by kernel_rfl
theorem jf22 : ((Rows.fnExactStepsAllRow.plainKeys == Tryz.prog.plainKeys)) = true := by kernel_rfl
theorem jf23 : (Rows.fnExactStepsAllRow.shortTexts.isNone) = true := by kernel_rfl
theorem jf24 : (Tryz.prog.stopsHeard) = true := by kernel_rfl
theorem jf25 : (Tryz.prog.mayEnter) = true := by kernel_rfl
theorem jf26 : ((Rows.fnExactStepsAllRow.lifted == Tryz.prog.liftsFinal)) = true := by kernel_rfl
theorem jf27 : ((Tryz.prog.make == some Rows.fnExactStepsAllRow.make)) = true := by kernel_rfl
theorem jf28 : ((Rows.fnExactStepsAllRow.kinds == (if Rows.fnExactStepsAllRow.domain.isEmpty then [] else Tryz.f3.params.toList.map fun t => match Tryz.prog.underlying t with | some (.int k) => some k | _ => none))) = true := by kernel_rfl
theorem jf29 : ((Rows.fnExactStepsAllRow.pinned == Rows.fnExactStepsAllRow.pinnedBy)) = true := by kernel_rfl
theorem jf30 : ((Rows.fnExactStepsAllRow.veiled == (Tryz.f3.params.toList ++ Rows.fnExactStepsAllSpec.plain.varTypes Tryz.prog ++ Tryz.f3.resultTypes.toList).any (Tryz.prog.veiledRec ·))) = true := by kernel_rfl
theorem jf31 : (Rows.fnExactStepsAllRow.veiledFits Tryz.prog Tryz.f3.params.toList (Tryz.f3.params.toList ++ Rows.fnExactStepsAllSpec.plain.varTypes Tryz.prog ++ Tryz.f3.resultTypes.toList)) = true := by kernel_rfl
theorem and2 {a b : Bool} (h : a = true) (k : b = true) : (a && b) = true := by rw [h, k]; rfl
set_option maxRecDepth 100000 in
theorem jf : joinedFacts Tryz.prog 3 Tryz.f3 Rows.fnExactStepsAllSpec Rows.fnExactStepsAllRow = true := (and2 (and2 (and2 (and2 (and2 (and2 (and2 (and2 (and2 (and2 (and2 (and2 (and2 (and2 (and2 (and2 (and2 (and2 (and2 (and2 (and2 (and2 (and2 (and2 (and2 (and2 (and2 (and2 (and2 (and2 (and2 jf0 jf1) jf2) jf3) jf4) jf5) jf6) jf7) jf8) jf9) jf10) jf11) jf12) jf13) jf14) jf15) jf16) jf17) jf18) jf19) jf20) jf21) jf22) jf23) jf24) jf25) jf26) jf27) jf28) jf29) jf30) jf31)
theorem ov1 : Tryz.prog.funcNamed Rows.fnExactStepsAllRow.func = some 3 := by kernel_rfl
theorem over : Rows.fnExactStepsAllRow.holds Tryz.pinned (OpenSpec.ofChange Rows.fnExactStepsAllSpec) :=
  OpenClaim.holds_of_wide 3 Tryz.f3 rfl rfl rfl rfl rfl rfl rfl ⟨rfl, rfl, rfl, rfl, rfl⟩ rfl rfl rfl rfl rfl ov1 Tryz.func3 jf
    (of_decide_eq_true (by kernel_rfl)) (by unfold Func.isWrapper; first | (rw [Bw (by decide +kernel)]; kernel_rfl) | (rw [Bm (by decide +kernel)]; exact ⟨rfl, rfl⟩))
    (fun os started H enc _ => lifted os started H enc)
theorem proved : Rows.FnExactStepsAllSaid := over
#print axioms proved
end Go.Proofs.YtmjoddpjpkneeaaGreat.fnExactStepsAll
namespace Go.Proofs.YtmjoddpjpkneeaaGreat
theorem fnExactStepsAll_holds : Rows.FnExactStepsAllSaid := fnExactStepsAll.proved
end Go.Proofs.YtmjoddpjpkneeaaGreat
