/- What functions of the given program compute. No condition. -/
import Derived.Test.YtngfcadblnecpaaTIC
namespace Go.TI
open Go
set_option linter.unusedVariables false
noncomputable section

structure Step where
  Kind : Int
  Block : Int
  Leaf : Int
  Text : ByteArray

structure Leaf where
  Is : Int
  Text : ByteArray

structure Block where
  Bad : Bool
  Wear : Int
  Leaves : List Leaf

structure Flash where
  Blocks : List Block


def oStep (x : Step) : Prop := oI x.Kind ∧ oI x.Block ∧ oI x.Leaf ∧ oS x.Text

/-- laws.szStep -/
def w_szStep (xA : Step) (xLeft : Int) : Option (Int) :=
 bif (decide ((sb xLeft (sln xA.Text)) < 0)) then (some (-1))
 else (some (sb xLeft (sln xA.Text)))
/-- laws.szStepS -/
def w_szStepS_b1 (xA : List Step) (yLeft1 : Int) (yI1 : Int) : Option ((Int × Int) ⊕ ((Int) ⊕ (Int))) :=
 bif (decide (yI1 < (ln xA))) then ((gi xA yI1).bind fun x1 =>
 (w_szStep x1 yLeft1).bind fun v1 =>
 bif (decide (v1 < 0)) then (some (.inr (.inr (-1))))
 else (some (.inl (v1, (ad yI1 1)))))
 else (some (.inr (.inl yLeft1)))
def w_szStepS (xA : List Step) (xLeft : Int) : Option (Int) :=
 bif (decide ((sb xLeft (ln xA)) < 0)) then (some (-1))
 else ((loopO (fun s : Int × Int => w_szStepS_b1 xA s.1 s.2) ((sb xLeft (ln xA)), 0)).bind (Sum.elim (fun v2 => (some v2)) some))
/-- laws.toStep -/
def w_toStep (xA : Step) : Option (Step) :=
 some xA
/-- laws.toStepS -/
def w_toStepS_b1 (xA : List Step) (yOut1 : List Step) (yI1 : Int) : Option ((List Step × Int) ⊕ (List Step)) :=
 bif (decide (yI1 < (ln xA))) then ((gi xA yI1).bind fun x1 =>
 (w_toStep x1).bind fun v1 =>
 (gi yOut1 yI1).bind fun x2 =>
 some (.inl ((si yOut1 yI1 v1), (ad yI1 1))))
 else (some (.inr yOut1))
def w_toStepS (xA : List Step) : Option (List Step) :=
 (mk 40 (Step.mk 0 0 0 (bs [])) (ln xA)).bind fun c1 =>
 (loopO (fun s : List Step × Int => w_toStepS_b1 xA s.1 s.2) (c1, 0)).bind fun v2 =>
 some v2
/-- spec.l01In -/
def s_l01In (xX : Int) (xLeast : Int) (xMost : Int) : Option (Bool) :=
 bif (decide (xX ≥ xLeast)) then (some (decide (xX ≤ xMost)))
 else (some false)
/-- spec.FlashNew -/
def s_FlashNew_b1 (xN : Int) (yI1 : Int) (yF01 : List Block) : Option ((Int × List Block) ⊕ (List Block)) :=
 bif (decide (yI1 < xN)) then ((mk 24 (Leaf.mk 0 (bs [])) 4).bind fun c1 =>
 (ap 40 yF01 [(Block.mk false 0 c1)]).bind fun c2 =>
 some (.inl ((ad yI1 1), c2)))
 else (some (.inr yF01))
def s_FlashNew (xN : Int) : Option (Flash × Bool) :=
 (s_l01In xN 3 10).bind fun v1 =>
 bif (!v1) then (some ((Flash.mk []), false))
 else ((loopO (fun s : Int × List Block => s_FlashNew_b1 xN s.1 s.2) (0, [])).bind fun v2 =>
 some ((Flash.mk v2), true))
/-- spec.l05Copy -/
def s_l05Copy_b1 (xF : Flash) (yI1 : Int) (yOut01 : List Block) : Option ((Int × List Block) ⊕ (List Block)) :=
 bif (decide (yI1 < (ln xF.Blocks))) then ((gi xF.Blocks yI1).bind fun x1 =>
 (ap 24 [] x1.Leaves).bind fun c1 =>
 (ap 40 yOut01 [(Block.mk x1.Bad x1.Wear c1)]).bind fun c2 =>
 some (.inl ((ad yI1 1), c2)))
 else (some (.inr yOut01))
def s_l05Copy (xF : Flash) : Option (Flash) :=
 (loopO (fun s : Int × List Block => s_l05Copy_b1 xF s.1 s.2) (0, [])).bind fun v1 =>
 some (Flash.mk v1)
/-- spec.l05Leaf -/
def s_l05Leaf (xX : Leaf) : Option (Bool) :=
 bif (xX.Is == 0) then (some (seq xX.Text (bs [])))
 else (bif (xX.Is == 1) then ((s_l01In (sln xX.Text) 1 120).bind fun v1 =>
 some v1)
 else (bif (xX.Is == 2) then (some (decide ((sln xX.Text) ≤ 120)))
 else (some false)))
/-- spec.FlashOk -/
def s_FlashOk_b2 (x1 : Block) (yK1 : Int) : Option ((Int) ⊕ ((Unit) ⊕ ((Int) ⊕ ((Unit) ⊕ (Bool))))) :=
 bif (decide (yK1 < (ln x1.Leaves))) then (((gi x1.Leaves yK1).bind fun x2 =>
 (s_l05Leaf x2).bind fun v2 =>
 bif (!v2) then (some true)
 else (bif (decide (yK1 > 0)) then ((gi x1.Leaves (sb yK1 1)).bind fun x3 =>
 bif (x3.Is == 0) then ((gi x1.Leaves yK1).bind fun x4 =>
 some (x4.Is != 0))
 else (some false))
 else (some false)) : Option (Bool)).bind fun j2 =>
 bif j2 then (some (.inr (.inr (.inr (.inr false)))))
 else (some (.inl (ad yK1 1))))
 else (some (.inr (.inl ())))
def s_FlashOk_b1 (xF : Flash) (yI1 : Int) : Option ((Int) ⊕ ((Unit) ⊕ (Bool))) :=
 bif (decide (yI1 < (ln xF.Blocks))) then ((gi xF.Blocks yI1).bind fun x1 =>
 (bif ((ln x1.Leaves) != 4) then (some true)
 else ((s_l01In x1.Wear 0 1000000000).bind fun v1 =>
 some (!v1)) : Option (Bool)).bind fun j1 =>
 bif j1 then (some (.inr (.inr false)))
 else ((loopO (fun s : Int => s_FlashOk_b2 x1 s) 0).bind (Sum.elim (fun v3 => (some (.inl (ad yI1 1)))) some)))
 else (some (.inr (.inl ())))
def s_FlashOk (xF : Flash) : Option (Bool) :=
 (loopO (fun s : Int => s_FlashOk_b1 xF s) 0).bind (Sum.elim (fun v4 => ((s_l01In (ln xF.Blocks) 3 10).bind fun v5 =>
 some v5)) some)
/-- spec.NextBlank -/
def s_NextBlank_b1 (xB : Block) (yK1 : Int) : Option ((Int) ⊕ ((Unit) ⊕ (Int))) :=
 bif (decide (yK1 < (ln xB.Leaves))) then ((gi xB.Leaves yK1).bind fun x1 =>
 bif (x1.Is == 0) then (some (.inr (.inr yK1)))
 else (some (.inl (ad yK1 1))))
 else (some (.inr (.inl ())))
def s_NextBlank (xB : Block) : Option (Int) :=
 (loopO (fun s : Int => s_NextBlank_b1 xB s) 0).bind (Sum.elim (fun v1 => (some 4)) some)
/-- spec.l05May -/
def s_l05May (xF : Flash) (xB : Int) (xLeaf : Int) (xText : ByteArray) : Option (Bool) :=
 (s_l01In xB 0 (sb (ln xF.Blocks) 1)).bind fun v1 =>
 bif v1 then ((gi xF.Blocks xB).bind fun x1 =>
 bif (!x1.Bad) then (bif (decide (xLeaf < 4)) then ((gi xF.Blocks xB).bind fun x2 =>
 (s_NextBlank x2).bind fun v2 =>
 bif (xLeaf == v2) then ((s_l01In (sln xText) 1 120).bind fun v3 =>
 some v3)
 else (some false))
 else (some false))
 else (some false))
 else (some false)
/-- spec.Program -/
def s_Program (xF : Flash) (xB : Int) (xLeaf : Int) (xText : ByteArray) : Option (Flash × Bool) :=
 (s_l05Copy xF).bind fun v1 =>
 ((s_FlashOk xF).bind fun v2 =>
 bif (!v2) then (some true)
 else ((s_l05May xF xB xLeaf xText).bind fun v3 =>
 some (!v3)) : Option (Bool)).bind fun j1 =>
 bif j1 then (some (v1, false))
 else ((gi v1.Blocks xB).bind fun x1 =>
 (gi x1.Leaves xLeaf).bind fun x2 =>
 some ((Flash.mk (si v1.Blocks xB (Block.mk x1.Bad x1.Wear (si x1.Leaves xLeaf (Leaf.mk 1 xText))))), true))
/-- spec.Wipe -/
def s_Wipe (xF : Flash) (xB : Int) : Option (Flash × Bool) :=
 (s_l05Copy xF).bind fun v1 =>
 ((s_FlashOk xF).bind fun v2 =>
 bif (!v2) then (some true)
 else ((s_l01In xB 0 (sb (ln xF.Blocks) 1)).bind fun v3 =>
 bif (!v3) then (some true)
 else ((gi xF.Blocks xB).bind fun x1 =>
 bif x1.Bad then (some true)
 else ((gi xF.Blocks xB).bind fun x2 =>
 some (x2.Wear == 1000000000)))) : Option (Bool)).bind fun j1 =>
 bif j1 then (some (v1, false))
 else ((gi xF.Blocks xB).bind fun x3 =>
 (mk 24 (Leaf.mk 0 (bs [])) 4).bind fun c1 =>
 (gi v1.Blocks xB).bind fun x4 =>
 some ((Flash.mk (si v1.Blocks xB (Block.mk false (ad x3.Wear 1) c1))), true))
/-- spec.DoStep -/
def s_DoStep (xF : Flash) (xS : Step) : Option (Flash × Bool) :=
 bif (xS.Kind == 1) then ((s_Program xF xS.Block xS.Leaf xS.Text).bind fun v1 =>
 some (v1.1, v1.2))
 else (bif (xS.Kind == 2) then ((s_Wipe xF xS.Block).bind fun v2 =>
 some (v2.1, v2.2))
 else ((s_l05Copy xF).bind fun v3 =>
 some (v3, false)))
/-- spec.DoSteps -/
def s_DoSteps_b1 (xList : List Step) (yI1 : Int) (yOut01 : List Block) : Option ((Int × List Block) ⊕ ((List Block) ⊕ ((Flash × Int)))) :=
 bif (decide (yI1 < (ln xList))) then (((gi xList yI1).bind fun x1 =>
 (s_DoStep (Flash.mk yOut01) x1).bind fun v2 =>
 some (v2.2, v2.1.Blocks) : Option (Bool × List Block)).bind fun j1 =>
 bif (!j1.1) then (some (.inr (.inr ((Flash.mk yOut01), yI1))))
 else (some (.inl ((ad yI1 1), j1.2))))
 else (some (.inr (.inl yOut01)))
def s_DoSteps (xF : Flash) (xList : List Step) : Option (Flash × Int) :=
 (s_l05Copy xF).bind fun v1 =>
 (loopO (fun s : Int × List Block => s_DoSteps_b1 xList s.1 s.2) (0, v1.Blocks)).bind (Sum.elim (fun v4 => (some ((Flash.mk v4), (ln xList)))) some)
/-- spec.Lawful -/
def s_Lawful (xBlocks : Int) (xSteps : List Step) : Option (Bool) :=
 (s_FlashNew xBlocks).bind fun v1 =>
 (s_DoSteps v1.1 xSteps).bind fun v2 =>
 bif v1.2 then (some (v2.2 == (ln xSteps)))
 else (some false)
/-- impl.in -/
def i_in (xN : Int) (xLow : Int) (xHigh : Int) : Option (Bool) :=
 bif (decide (xN ≥ xLow)) then (some (decide (xN ≤ xHigh)))
 else (some false)
/-- impl.blankLeaves -/
def i_blankLeaves  : Option (List Leaf) :=
 (mk 24 (Leaf.mk 0 (bs [])) 4).bind fun c1 =>
 some c1
/-- impl.FlashNew -/
def i_FlashNew_b1 (xN : Int) (y1 : Int) (yF01 : List Block) : Option ((Int × List Block) ⊕ (List Block)) :=
 bif (decide (y1 < xN)) then ((i_blankLeaves).bind fun v2 =>
 (ap 40 yF01 [(Block.mk false 0 v2)]).bind fun c1 =>
 some (.inl ((ad y1 1), c1)))
 else (some (.inr yF01))
def i_FlashNew (xN : Int) : Option (Flash × Bool) :=
 (i_in xN 3 10).bind fun v1 =>
 bif (!v1) then (some ((Flash.mk []), false))
 else ((loopO (fun s : Int × List Block => i_FlashNew_b1 xN s.1 s.2) (0, [])).bind fun v3 =>
 some ((Flash.mk v3), true))
/-- impl.copyFlash -/
def i_copyFlash_b1 (xF : Flash) (y1 : Int) (yOut01 : List Block) : Option ((Int × List Block) ⊕ (List Block)) :=
 bif (decide (y1 < (ln xF.Blocks))) then ((gi xF.Blocks y1).bind fun x1 =>
 (ap 24 [] x1.Leaves).bind fun c1 =>
 (ap 40 yOut01 [(Block.mk x1.Bad x1.Wear c1)]).bind fun c2 =>
 some (.inl ((ad y1 1), c2)))
 else (some (.inr yOut01))
def i_copyFlash (xF : Flash) : Option (Flash) :=
 (loopO (fun s : Int × List Block => i_copyFlash_b1 xF s.1 s.2) (0, [])).bind fun v1 =>
 some (Flash.mk v1)
/-- impl.leafOk -/
def i_leafOk (xX : Leaf) : Option (Bool) :=
 bif (xX.Is == 0) then (some (seq xX.Text (bs [])))
 else (bif (xX.Is == 1) then ((i_in (sln xX.Text) 1 120).bind fun v1 =>
 some v1)
 else (bif (xX.Is == 2) then (some (decide ((sln xX.Text) ≤ 120)))
 else (some false)))
/-- impl.FlashOk -/
def i_FlashOk_b2 (x1 : Block) (y2 : Int) : Option ((Int) ⊕ ((Unit) ⊕ ((Int) ⊕ ((Unit) ⊕ (Bool))))) :=
 bif (decide (y2 < (ln x1.Leaves))) then ((gi x1.Leaves y2).bind fun x2 =>
 ((i_leafOk x2).bind fun v2 =>
 bif (!v2) then (some true)
 else (bif (decide (y2 > 0)) then ((gi x1.Leaves (sb y2 1)).bind fun x3 =>
 bif (x3.Is == 0) then (some (x2.Is != 0))
 else (some false))
 else (some false)) : Option (Bool)).bind fun j2 =>
 bif j2 then (some (.inr (.inr (.inr (.inr false)))))
 else (some (.inl (ad y2 1))))
 else (some (.inr (.inl ())))
def i_FlashOk_b1 (xF : Flash) (y1 : Int) : Option ((Int) ⊕ ((Unit) ⊕ (Bool))) :=
 bif (decide (y1 < (ln xF.Blocks))) then ((gi xF.Blocks y1).bind fun x1 =>
 (bif ((ln x1.Leaves) != 4) then (some true)
 else ((i_in x1.Wear 0 1000000000).bind fun v1 =>
 some (!v1)) : Option (Bool)).bind fun j1 =>
 bif j1 then (some (.inr (.inr false)))
 else ((loopO (fun s : Int => i_FlashOk_b2 x1 s) 0).bind (Sum.elim (fun v3 => (some (.inl (ad y1 1)))) some)))
 else (some (.inr (.inl ())))
def i_FlashOk (xF : Flash) : Option (Bool) :=
 (loopO (fun s : Int => i_FlashOk_b1 xF s) 0).bind (Sum.elim (fun v4 => ((i_in (ln xF.Blocks) 3 10).bind fun v5 =>
 some v5)) some)
/-- impl.usable -/
def i_usable (xF : Flash) (xB : Int) : Option (Bool) :=
 (i_FlashOk xF).bind fun v1 =>
 bif v1 then ((i_in xB 0 (sb (ln xF.Blocks) 1)).bind fun v2 =>
 bif v2 then ((gi xF.Blocks xB).bind fun x1 =>
 some (!x1.Bad))
 else (some false))
 else (some false)
/-- impl.NextBlank -/
def i_NextBlank_b1 (xB : Block) (y1 : Int) : Option ((Int) ⊕ ((Unit) ⊕ (Int))) :=
 bif (decide (y1 < (ln xB.Leaves))) then ((gi xB.Leaves y1).bind fun x1 =>
 bif (x1.Is == 0) then (some (.inr (.inr y1)))
 else (some (.inl (ad y1 1))))
 else (some (.inr (.inl ())))
def i_NextBlank (xB : Block) : Option (Int) :=
 (loopO (fun s : Int => i_NextBlank_b1 xB s) 0).bind (Sum.elim (fun v1 => (some 4)) some)
/-- impl.Program -/
def i_Program (xF : Flash) (xB : Int) (xLeaf : Int) (xText : ByteArray) : Option (Flash × Bool) :=
 (i_copyFlash xF).bind fun v1 =>
 ((i_usable xF xB).bind fun v2 =>
 bif (!v2) then (some true)
 else ((i_in xLeaf 0 3).bind fun v3 =>
 bif (!v3) then (some true)
 else ((gi xF.Blocks xB).bind fun x1 =>
 (i_NextBlank x1).bind fun v4 =>
 bif (xLeaf != v4) then (some true)
 else ((i_in (sln xText) 1 120).bind fun v5 =>
 some (!v5)))) : Option (Bool)).bind fun j1 =>
 bif j1 then (some (v1, false))
 else ((gi v1.Blocks xB).bind fun x2 =>
 (gi x2.Leaves xLeaf).bind fun x3 =>
 some ((Flash.mk (si v1.Blocks xB (Block.mk x2.Bad x2.Wear (si x2.Leaves xLeaf (Leaf.mk 1 xText))))), true))
/-- impl.Wipe -/
def i_Wipe (xF : Flash) (xB : Int) : Option (Flash × Bool) :=
 (i_copyFlash xF).bind fun v1 =>
 ((i_usable xF xB).bind fun v2 =>
 bif (!v2) then (some true)
 else ((gi xF.Blocks xB).bind fun x1 =>
 some (x1.Wear == 1000000000)) : Option (Bool)).bind fun j1 =>
 bif j1 then (some (v1, false))
 else ((i_blankLeaves).bind fun v3 =>
 (gi v1.Blocks xB).bind fun x2 =>
 (gi (si v1.Blocks xB (Block.mk x2.Bad x2.Wear v3)) xB).bind fun x3 =>
 (gi (si v1.Blocks xB (Block.mk x2.Bad x2.Wear v3)) xB).bind fun x4 =>
 some ((Flash.mk (si (si v1.Blocks xB (Block.mk x2.Bad x2.Wear v3)) xB (Block.mk x4.Bad (ad x3.Wear 1) x4.Leaves))), true))
/-- impl.DoStep -/
def i_DoStep (xF : Flash) (xS : Step) : Option (Flash × Bool) :=
 bif (xS.Kind == 1) then ((i_Program xF xS.Block xS.Leaf xS.Text).bind fun v1 =>
 some (v1.1, v1.2))
 else (bif (xS.Kind == 2) then ((i_Wipe xF xS.Block).bind fun v2 =>
 some (v2.1, v2.2))
 else ((i_copyFlash xF).bind fun v3 =>
 some (v3, false)))
/-- impl.DoSteps -/
def i_DoSteps_b1 (xList : List Step) (y1 : Int) (yOut01 : List Block) : Option ((Int × List Block) ⊕ ((List Block) ⊕ ((Flash × Int)))) :=
 bif (decide (y1 < (ln xList))) then ((gi xList y1).bind fun x1 =>
 (i_DoStep (Flash.mk yOut01) x1).bind fun v2 =>
 bif (!v2.2) then (some (.inr (.inr ((Flash.mk yOut01), y1))))
 else (some (.inl ((ad y1 1), v2.1.Blocks))))
 else (some (.inr (.inl yOut01)))
def i_DoSteps (xF : Flash) (xList : List Step) : Option (Flash × Int) :=
 (i_copyFlash xF).bind fun v1 =>
 (loopO (fun s : Int × List Block => i_DoSteps_b1 xList s.1 s.2) (0, v1.Blocks)).bind (Sum.elim (fun v3 => (some ((Flash.mk v3), (ln xList)))) some)
/-- impl.Lawful -/
def i_Lawful (xBlocks : Int) (xSteps : List Step) : Option (Bool) :=
 (i_FlashNew xBlocks).bind fun v1 =>
 bif (!v1.2) then (some false)
 else ((i_DoSteps v1.1 xSteps).bind fun v2 =>
 some (v2.2 == (ln xSteps)))
/-- laws.eqStep -/
def w_eqStep (xA : Step) (xB : Step) : Option (Bool) :=
 bif (xA.Kind != xB.Kind) then (some false)
 else (bif (xA.Block != xB.Block) then (some false)
 else (bif (xA.Leaf != xB.Leaf) then (some false)
 else (bif (!(seq xA.Text xB.Text)) then (some false)
 else (some true))))
/-- laws.eqStepS -/
def w_eqStepS_b1 (xA : List Step) (xB : List Step) (yI1 : Int) : Option ((Int) ⊕ ((Unit) ⊕ (Bool))) :=
 bif (decide (yI1 < (ln xA))) then ((gi xA yI1).bind fun x1 =>
 (gi xB yI1).bind fun x2 =>
 (w_eqStep x1 x2).bind fun v1 =>
 bif (!v1) then (some (.inr (.inr false)))
 else (some (.inl (ad yI1 1))))
 else (some (.inr (.inl ())))
def w_eqStepS (xA : List Step) (xB : List Step) : Option (Bool) :=
 bif ((ln xA) != (ln xB)) then (some false)
 else ((loopO (fun s : Int => w_eqStepS_b1 xA xB s) 0).bind (Sum.elim (fun v2 => (some true)) some))
/-- laws.FnExactLawful -/
def w_FnExactLawful (xABlocks : Int) (xASteps : List Step) : Option (Bool) :=
 (w_szStepS xASteps 1048576).bind fun v1 =>
 bif (decide (v1 < 0)) then (some true)
 else ((w_toStepS xASteps).bind fun v2 =>
 (s_Lawful xABlocks v2).bind fun v3 =>
 (w_toStepS xASteps).bind fun v4 =>
 (i_Lawful xABlocks v4).bind fun v5 =>
 bif (!(v5 == v3)) then (some false)
 else ((w_toStepS xASteps).bind fun v6 =>
 (w_eqStepS v4 v6).bind fun v7 =>
 bif (!v7) then (some false)
 else (some true)))
end
end Go.TI
