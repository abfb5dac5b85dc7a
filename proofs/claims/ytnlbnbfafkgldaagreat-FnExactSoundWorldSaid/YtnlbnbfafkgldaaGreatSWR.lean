/- FnExactSoundWorld returns true for every argument, and its arguments read behind the call as they read before. No condition. -/
import Derived.Test.YtnlbnbfafkgldaaGreatRows
import Derived.Test.YtnlbnbfafkgldaaGreatSWW1
import Derived.WalkKit
import Derived.ProofKit
import Derived.OpenShut
import Derived.ShutString
import Derived.ChangeOld
import Derived.Below
import Derived.SizedLaws
namespace Go.Proofs.YtnlbnbfafkgldaaGreat.fnExactSoundWorld
open Go.ChangeShapes Go.WideShapes Go.ChangeAt Go.RowKit Go.TI
set_option linter.unusedVariables false
set_option linter.unusedSimpArgs false
theorem own : ownKnob Tryz.prog.godebug = none := by kernel_rfl
theorem laidOut : laidOutB Tryz.prog = true := by kernel_rfl
set_option maxRecDepth 100000 in
theorem op4 : Es Tryz.prog 4 (fun b : Bool => [.bool b]) oB := dH Tryz.underlying4
set_option maxRecDepth 100000 in
theorem op3 : Es Tryz.prog 3 (fun n : Int => [.int .i64 n]) oI := i9 Tryz.underlying3
set_option maxRecDepth 100000 in
theorem op9 : Es Tryz.prog 9 (fun s : ByteArray => [.str s]) oS := XH Tryz.underlying9
set_option maxRecDepth 100000 in
theorem op232 : Es Tryz.prog 232 eT ZJ := Dp (fun b => Go.TI.Leaf.mk b.1 b.2.1) Tryz.underlying232 rfl (Bv rfl rfl op3 (Bv rfl rfl op9 Ei)) (fun b hb => ⟨⟨hb.1, hb.2.1⟩, rfl⟩)
set_option maxRecDepth 100000 in
theorem op156 : Es Tryz.prog 156 (fun l : List Go.TI.Leaf => [.sl false 232 2 (AB eT l)]) (ol ZJ) := F9 Tryz.underlying156 rfl (by decide) XQ op232
set_option maxRecDepth 100000 in
theorem op158 : Es Tryz.prog 158 (Yt false) Uy := Dp (fun b => Go.TI.Block.mk b.1 b.2.1 b.2.2.1) Tryz.underlying158 rfl (Bv rfl rfl op4 (Bv rfl rfl op3 (Bv rfl rfl op156 Ei))) (fun b hb => ⟨⟨hb.1, hb.2.1, hb.2.2.1⟩, rfl⟩)
set_option maxRecDepth 100000 in
theorem op22 : Es Tryz.prog 22 (fun l : List Go.TI.Block => [.sl false 158 3 (AB (Yt false) l)]) (ol Uy) := F9 Tryz.underlying22 rfl (by decide) (XS false) op158
set_option maxRecDepth 100000 in
theorem op24 : Es Tryz.prog 24 (wE false) dN := Dp (fun b => Go.TI.Flash.mk b.1) Tryz.underlying24 rfl (Bv rfl rfl op22 Ei) (fun b hb => ⟨hb.1, rfl⟩)
set_option maxRecDepth 100000 in
theorem op184 : Es Tryz.prog 184 Tj r8 := Dp (fun b => Go.TI.Vol.mk b.1 b.2.1) Tryz.underlying184 rfl (Bv rfl rfl op3 (Bv rfl rfl op3 Ei)) (fun b hb => ⟨⟨hb.1, hb.2.1⟩, rfl⟩)
set_option maxRecDepth 100000 in
theorem op25 : Es Tryz.prog 25 (fun l : List Go.TI.Vol => [.sl false 184 2 (AB Tj l)]) (ol r8) := F9 Tryz.underlying25 rfl (by decide) jJ op184
set_option maxRecDepth 100000 in
theorem op33 : Es Tryz.prog 33 (fun l : List Int => [.sl false 3 1 (AB c3 l)]) (ol oI) := F9 Tryz.underlying33 rfl (by decide) k3 op3
set_option maxRecDepth 100000 in
theorem op194 : Es Tryz.prog 194 (Nt false) ZK := Dp (fun b => Go.TI.Knot.mk b.1 b.2.1) Tryz.underlying194 rfl (Bv rfl rfl op4 (Bv rfl rfl op33 Ei)) (fun b hb => ⟨⟨hb.1, hb.2.1⟩, rfl⟩)
set_option maxRecDepth 100000 in
theorem op26 : Es Tryz.prog 26 (fun l : List Go.TI.Knot => [.sl false 194 2 (AB (Nt false) l)]) (ol ZK) := F9 Tryz.underlying26 rfl (by decide) (XR false) op194
set_option maxRecDepth 100000 in
theorem op28 : Es Tryz.prog 28 (wD false) dO := Dp (fun b => Go.TI.Arena.mk b.1) Tryz.underlying28 rfl (Bv rfl rfl op26 Ei) (fun b hb => ⟨hb.1, rfl⟩)
set_option maxRecDepth 100000 in
theorem op30 : Es Tryz.prog 30 (wC false) dM := Dp (fun b => Go.TI.Store.mk b.1 b.2.1 b.2.2.1) Tryz.underlying30 rfl (Bv rfl rfl op25 (Bv rfl rfl op28 (Bv rfl rfl op3 Ei))) (fun b hb => ⟨⟨hb.1, hb.2.1, hb.2.2.1⟩, rfl⟩)
set_option maxRecDepth 100000 in
theorem op32 : Es Tryz.prog 32 (wB false) XL := Dp (fun b => Go.TI.Device.mk b.1 b.2.1 b.2.2.1 b.2.2.2.1 b.2.2.2.2.1) Tryz.underlying32 rfl (Bv rfl rfl op24 (Bv rfl rfl op30 (Bv rfl rfl op3 (Bv rfl rfl op3 (Bv rfl rfl op3 Ei))))) (fun b hb => ⟨⟨hb.1, hb.2.1, hb.2.2.1, hb.2.2.2.1, hb.2.2.2.2.1⟩, rfl⟩)
set_option maxRecDepth 100000 in
theorem op34 : Es Tryz.prog 34 (fun l : List ByteArray => [.sl false 9 1 (AB c9 l)]) (ol oS) := F9 Tryz.underlying34 rfl (by decide) k9 op9
set_option maxRecDepth 100000 in
theorem op79 : Es Tryz.prog 79 (sS false) Ux := Dp (fun b => Go.TI.Shelf.mk b.1 b.2.1) Tryz.underlying79 rfl (Bv rfl rfl op3 (Bv rfl rfl op34 Ei)) (fun b hb => ⟨⟨hb.1, hb.2.1⟩, rfl⟩)
set_option maxRecDepth 100000 in
theorem op35 : Es Tryz.prog 35 (fun l : List Go.TI.Shelf => [.sl false 79 2 (AB (sS false) l)]) (ol Ux) := F9 Tryz.underlying35 rfl (by decide) (pK false) op79
set_option maxRecDepth 100000 in
theorem op82 : Es Tryz.prog 82 sQ ZI := Dp (fun b => Go.TI.Step.mk b.1 b.2.1 b.2.2.1 b.2.2.2.1) Tryz.underlying82 rfl (Bv rfl rfl op3 (Bv rfl rfl op3 (Bv rfl rfl op3 (Bv rfl rfl op9 Ei)))) (fun b hb => ⟨⟨hb.1, hb.2.1, hb.2.2.1, hb.2.2.2.1⟩, rfl⟩)
set_option maxRecDepth 100000 in
theorem op36 : Es Tryz.prog 36 (fun l : List Go.TI.Step => [.sl false 82 4 (AB sQ l)]) (ol ZI) := F9 Tryz.underlying36 rfl (by decide) pJ op82
set_option maxRecDepth 100000 in
theorem op38 : Es Tryz.prog 38 (u7 false) dL := Dp (fun b => Go.TI.World.mk b.1 b.2.1 b.2.2.1 b.2.2.2.1 b.2.2.2.2.1) Tryz.underlying38 rfl (Bv rfl rfl op32 (Bv rfl rfl op33 (Bv rfl rfl op34 (Bv rfl rfl op35 (Bv rfl rfl op36 Ei))))) (fun b hb => ⟨⟨hb.1, hb.2.1, hb.2.2.1, hb.2.2.2.1, hb.2.2.2.2.1⟩, rfl⟩)
set_option maxRecDepth 100000 in
theorem lifted (os : Os) (started : os.Started) (H : Type) (enc : TypeId × Value → H) :
    ReturnsInHanded {} Tryz.checked os 3 .any (Rows.fnExactSoundWorldSpec.pre6 enc Tryz.prog Tryz.f3 Rows.fnExactSoundWorldRow.domain false) (Rows.fnExactSoundWorldSpec.post enc Tryz.prog Tryz.f3 false true false false) := by
  refine returnsInHanded_of_change_sized (C := Tryz.checked) own started (by kernel_rfl) Tryz.func3
    (ChangeSpec.witness6 (enc := enc) (C := Tryz.checked) false ⟨#[], #[.agg #[.slice none 0 0, .slice none 0 0, .slice none 0 0, .int .i64 0, .int .i64 0, .int .i64 0, .int .i64 0, .slice none 0 0, .slice none 0 0, .slice none 0 0, .slice none 0 0]], []⟩ 8 (by kernel_rfl) (by kernel_rfl) (by kernel_rfl) (by kernel_rfl)) ?_
  intro W base args ds gs before hval0 hW hcnd hsz0 _
  have hval : ∀ (j : Nat) t v, Tryz.f3.params[j]? = some t → args[j]? = some v → Value.okWide Tryz.prog W .any base t v := hval0
  have hW' := hW
  obtain ⟨p, q, hA0, hV, rfl, hfz, hnd⟩ := hW
  have hA : DataW.TrodAll enc Tryz.prog W 0 (fun _ => true) true Tryz.f3.params.toList args.toList ds p := hA0
  rw [Tryz.params3] at hA hval
  obtain ⟨v0, vs0, d0, ds0, p0, q0, hargs, rfl, rfl, h0, r0⟩ := trodAll_cons hA
  obtain ⟨rfl, rfl, rfl⟩ := trodAll_nil r0
  obtain rfl : args = #[v0] := by cases args; simp_all
  obtain ⟨rfl, rfl⟩ := trodVars_none hV
  have lt0 : ∀ x ∈ p0, x.block < W.heap.size := by obtain ⟨m, hm⟩ := h0; exact DataW.trod_lt m _ _ _ hm
  obtain ⟨xs0, hxs0⟩ : ∃ xs, v0 = Value.agg xs := by have := hval 0 38 v0 rfl rfl; unfold Value.okWide at this; simp only [Tryz.underlying38] at this; exact ⟨_, this.choose_spec.1⟩
  obtain ⟨a0, U0, o0, s0, b0⟩ := qC op38 hxs0 h0
  have hargsR : Iz W [.sv (.agg [ZH a0.Device.Flash.Blocks, gP a0.Device.Store.Vols, ZF a0.Device.Store.Arena.Knots, i6 a0.Device.Store.Next, i6 a0.Device.Seq, i6 a0.Device.Tx, i6 a0.Device.Base, KD a0.Codes, jB a0.Told, mK a0.Model, mJ a0.Steps])] [v0] [] (U0 ++ []) := ⟨_, _, [], [], U0, [], rfl, rfl, rfl, s0, ⟨rfl, rfl, rfl⟩⟩
  refine (No a0 true (Go.TI.soundWorld_true a0 o0) W _ [] _ hargsR Ce (by simp) (by
    intro b hb
    simp only [AC, Aw, Al] at hb
    exact b0 b hb)).mono fun e' W' ⟨v, F, U, G, V, he, hl⟩ => ?_
  have bel : Below W.heap.size W W' := ⟨hl.os, hl.tape, hl.output, hl.size, fun k hk => hl.keep k hk (by simp)⟩
  have hv : v = .bool true := by
    have := hl.res
    simp only [TZ, Cd] at this
    exact this.1.1
  subst hv
  subst he
  exact ⟨_, rfl, _, _, _, [], _, [], hW', trodAll_mk1 (shut_bool Tryz.underlying4 _), (trodAll_cons_mk (Below.trod laidOut (by kernel_rfl) (of_decide_eq_true (by kernel_rfl)) h0 bel lt0) trodAll_mk0), rfl, bel.frame _, fun h => by cases h⟩

theorem jf0 : (Rows.fnExactSoundWorldRow.wf (OpenSpec.ofChange Rows.fnExactSoundWorldSpec)) = true := by kernel_rfl
theorem jf1 : (laidOutB Tryz.prog) = true := by kernel_rfl
theorem jf2 : (mapsRowed Tryz.prog) = true := by kernel_rfl
theorem jf3 : (Tryz.f3.params.all (Tryz.prog.readableRec ·)) = true := by kernel_rfl
theorem jf4 : (namedTie Tryz.prog Rows.fnExactSoundWorldRow.named Rows.fnExactSoundWorldSpec.vars) = true := by kernel_rfl
theorem jf5 : ((Rows.fnExactSoundWorldRow.stops == [])) = true := by kernel_rfl
theorem jf6 : ((Tryz.prog.stops == [])) = true := by kernel_rfl
theorem jf7 : ((Rows.fnExactSoundWorldRow.knobs == [])) = true := by kernel_rfl
theorem jf8 : ((Tryz.prog.stopKnobs == [])) = true := by kernel_rfl
theorem jf9 : ((Rows.fnExactSoundWorldRow.inPlace == Tryz.prog.inPlace 3)) = true := by kernel_rfl
theorem jf10 : ((Rows.fnExactSoundWorldRow.unfollowed == Tryz.prog.unfollowed 3)) = true := by kernel_rfl
theorem jf11 : ((Rows.fnExactSoundWorldRow.recurses == Tryz.prog.recurses 3)) = true := by kernel_rfl
theorem jf12 : ((Rows.fnExactSoundWorldRow.named == Tryz.prog.varsNamed 3)) = true := by kernel_rfl
theorem jf13 : ((Rows.fnExactSoundWorldRow.maps == (Tryz.f3.params.toList ++ Rows.fnExactSoundWorldSpec.plain.varTypes Tryz.prog).any (Tryz.prog.mapsRec ·))) = true := by kernel_rfl
theorem jf14 : ((Rows.fnExactSoundWorldRow.ifaces == (Tryz.f3.params.toList ++ Rows.fnExactSoundWorldSpec.plain.varTypes Tryz.prog).any (Tryz.prog.ifacesRec ·))) = true := by kernel_rfl
theorem jf15 : ((Rows.fnExactSoundWorldRow.mapsOut == Tryz.prog.mapsAmong Tryz.f3.resultTypes.toList)) = true := by kernel_rfl
theorem jf16 : ((Rows.fnExactSoundWorldRow.loops == (Tryz.f3.params.toList ++ Rows.fnExactSoundWorldSpec.plain.varTypes Tryz.prog).any (Tryz.prog.loopsFrom ·))) = true := by kernel_rfl
theorem jf17 : ((Rows.fnExactSoundWorldRow.wideKeys == (Tryz.f3.params.toList ++ Rows.fnExactSoundWorldSpec.plain.varTypes Tryz.prog ++ Tryz.f3.resultTypes.toList).any (Tryz.prog.wideKeysFrom ·))) = true := by kernel_rfl
theorem jf18 : (Rows.fnExactSoundWorldSpec.vars.all (Tryz.prog.varReadable ·)) = true := by kernel_rfl
theorem jf19 : (Tryz.f3.resultTypes.all (fun t => Tryz.prog.readableRec t && decide (t < Tryz.prog.types.size))) = true := by kernel_rfl
theorem jf20 : ((Rows.fnExactSoundWorldRow.ifacesOut == Tryz.f3.resultTypes.toList.any (Tryz.prog.ifacesRec ·))) = true := by kernel_rfl
theorem jf21 : ((Rows.fnExactSoundWorldRow.loopsOut == Tryz.f3.resultTypes.toList.any (Tryz.prog.loopsFrom ·))) = true := by kernel_rfl
theorem jf22 : ((Rows.fnExactSoundWorldRow.plainKeys == Tryz.prog.plainKeys)) = true := by kernel_rfl
theorem jf23 : (Rows.fnExactSoundWorldRow.shortTexts.isNone) = true := by kernel_rfl
theorem jf24 : (Tryz.prog.stopsHeard) = true := by kernel_rfl
theorem jf25 : (Tryz.prog.mayEnter) = true := by kernel_rfl
theorem jf26 : ((Rows.fnExactSoundWorldRow.lifted == Tryz.prog.liftsFinal)) = true := by kernel_rfl
theorem jf27 : ((Tryz.prog.make == some Rows.fnExactSoundWorldRow.make)) = true := by kernel_rfl
theorem jf28 : ((Rows.fnExactSoundWorldRow.kinds == (if Rows.fnExactSoundWorldRow.domain.isEmpty then [] else Tryz.f3.params.toList.map fun t => match Tryz.prog.underlying t with | some (.int k) => some k | _ => none))) = true := by kernel_rfl
theorem jf29 : ((Rows.fnExactSoundWorldRow.pinned == Rows.fnExactSoundWorldRow.pinnedBy)) = true := by kernel_rfl
theorem jf30 : ((Rows.fnExactSoundWorldRow.veiled == (Tryz.f3.params.toList ++ Rows.fnExactSoundWorldSpec.plain.varTypes Tryz.prog ++ Tryz.f3.resultTypes.toList).any (Tryz.prog.veiledRec ·))) = true := by kernel_rfl
theorem jf31 : (Rows.fnExactSoundWorldRow.veiledFits Tryz.prog Tryz.f3.params.toList (Tryz.f3.params.toList ++ Rows.fnExactSoundWorldSpec.plain.varTypes Tryz.prog ++ Tryz.f3.resultTypes.toList)) = true := by kernel_rfl
theorem and2 {a b : Bool} (h : a = true) (k : b = true) : (a && b) = true := by rw [h, k]; rfl
set_option maxRecDepth 100000 in
theorem jf : joinedFacts Tryz.prog 3 Tryz.f3 Rows.fnExactSoundWorldSpec Rows.fnExactSoundWorldRow = true := (and2 (and2 (and2 (and2 (and2 (and2 (and2 (and2 (and2 (and2 (and2 (and2 (and2 (and2 (and2 (and2 (and2 (and2 (and2 (and2 (and2 (and2 (and2 (and2 (and2 (and2 (and2 (and2 (and2 (and2 (and2 jf0 jf1) jf2) jf3) jf4) jf5) jf6) jf7) jf8) jf9) jf10) jf11) jf12) jf13) jf14) jf15) jf16) jf17) jf18) jf19) jf20) jf21) jf22) jf23) jf24) jf25) jf26) jf27) jf28) jf29) jf30) jf31)
theorem ov1 : Tryz.prog.funcNamed Rows.fnExactSoundWorldRow.func = some 3 := by kernel_rfl
theorem over : Rows.fnExactSoundWorldRow.holds Tryz.pinned (OpenSpec.ofChange Rows.fnExactSoundWorldSpec) :=
  OpenClaim.holds_of_wide 3 Tryz.f3 rfl rfl rfl rfl rfl rfl rfl ⟨rfl, rfl, rfl, rfl, rfl⟩ rfl rfl rfl rfl rfl ov1 Tryz.func3 jf
    (of_decide_eq_true (by kernel_rfl)) (by unfold Func.isWrapper; first | (rw [Ar (by decide +kernel)]; kernel_rfl) | (rw [Au (by decide +kernel)]; exact ⟨rfl, rfl⟩))
    (fun os started H enc _ => lifted os started H enc)
theorem proved : Rows.FnExactSoundWorldSaid := over
#print axioms proved
end Go.Proofs.YtnlbnbfafkgldaaGreat.fnExactSoundWorld
namespace Go.Proofs.YtnlbnbfafkgldaaGreat
theorem fnExactSoundWorld_holds : Rows.FnExactSoundWorldSaid := fnExactSoundWorld.proved
end Go.Proofs.YtnlbnbfafkgldaaGreat
