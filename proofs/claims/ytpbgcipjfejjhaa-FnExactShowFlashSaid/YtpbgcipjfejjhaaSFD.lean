/- What functions of the given program compute. No condition. -/
import Derived.Test.YtpbgcipjfejjhaaTID
namespace Go.TI
open Go
set_option linter.unusedVariables false
noncomputable section

structure Leaf where
  Is : Int
  Text : ByteArray

structure Block where
  Bad : Bool
  Wear : Int
  Leaves : List Leaf

structure Flash where
  Blocks : List Block

structure l06Cur where
  text_ : ByteArray
  at_ : Int
  bad_ : Bool

structure Page where
  Kind : Int
  Seq : Int
  Tx : Int
  Part : Int
  Count : Int
  Text : ByteArray


def oLeaf (x : Leaf) : Prop := oI x.Is ∧ oS x.Text
def oBlock (x : Block) : Prop := oB x.Bad ∧ oI x.Wear ∧ (ol oLeaf) x.Leaves
def oFlash (x : Flash) : Prop := (ol oBlock) x.Blocks

/-- laws.szLeaf -/
def w_szLeaf (xA : Leaf) (xLeft : Int) : Option (Int) :=
 bif (decide ((sb xLeft (sln xA.Text)) < 0)) then (some (-1))
 else (some (sb xLeft (sln xA.Text)))
/-- laws.szLeafS -/
def w_szLeafS_b1 (xA : List Leaf) (yLeft1 : Int) (yI1 : Int) : Option ((Int × Int) ⊕ ((Int) ⊕ (Int))) :=
 bif (decide (yI1 < (ln xA))) then ((gi xA yI1).bind fun x1 =>
 (w_szLeaf x1 yLeft1).bind fun v1 =>
 bif (decide (v1 < 0)) then (some (.inr (.inr (-1))))
 else (some (.inl (v1, (ad yI1 1)))))
 else (some (.inr (.inl yLeft1)))
def w_szLeafS (xA : List Leaf) (xLeft : Int) : Option (Int) :=
 bif (decide ((sb xLeft (ln xA)) < 0)) then (some (-1))
 else ((loopO (fun s : Int × Int => w_szLeafS_b1 xA s.1 s.2) ((sb xLeft (ln xA)), 0)).bind (Sum.elim (fun v2 => (some v2)) some))
/-- laws.szBlock -/
def w_szBlock (xA : Block) (xLeft : Int) : Option (Int) :=
 (w_szLeafS xA.Leaves xLeft).bind fun v1 =>
 bif (decide (v1 < 0)) then (some (-1))
 else (some v1)
/-- laws.szBlockS -/
def w_szBlockS_b1 (xA : List Block) (yLeft1 : Int) (yI1 : Int) : Option ((Int × Int) ⊕ ((Int) ⊕ (Int))) :=
 bif (decide (yI1 < (ln xA))) then ((gi xA yI1).bind fun x1 =>
 (w_szBlock x1 yLeft1).bind fun v1 =>
 bif (decide (v1 < 0)) then (some (.inr (.inr (-1))))
 else (some (.inl (v1, (ad yI1 1)))))
 else (some (.inr (.inl yLeft1)))
def w_szBlockS (xA : List Block) (xLeft : Int) : Option (Int) :=
 bif (decide ((sb xLeft (ln xA)) < 0)) then (some (-1))
 else ((loopO (fun s : Int × Int => w_szBlockS_b1 xA s.1 s.2) ((sb xLeft (ln xA)), 0)).bind (Sum.elim (fun v2 => (some v2)) some))
/-- laws.szFlash -/
def w_szFlash (xA : Flash) (xLeft : Int) : Option (Int) :=
 (w_szBlockS xA.Blocks xLeft).bind fun v1 =>
 bif (decide (v1 < 0)) then (some (-1))
 else (some v1)
/-- laws.toLeaf -/
def w_toLeaf (xA : Leaf) : Option (Leaf) :=
 some xA
/-- laws.toLeafS -/
def w_toLeafS_b1 (xA : List Leaf) (yOut1 : List Leaf) (yI1 : Int) : Option ((List Leaf × Int) ⊕ (List Leaf)) :=
 bif (decide (yI1 < (ln xA))) then ((gi xA yI1).bind fun x1 =>
 (w_toLeaf x1).bind fun v1 =>
 (gi yOut1 yI1).bind fun x2 =>
 some (.inl ((si yOut1 yI1 v1), (ad yI1 1))))
 else (some (.inr yOut1))
def w_toLeafS (xA : List Leaf) : Option (List Leaf) :=
 (mk 24 (Leaf.mk 0 (bs [])) (ln xA)).bind fun c1 =>
 (loopO (fun s : List Leaf × Int => w_toLeafS_b1 xA s.1 s.2) (c1, 0)).bind fun v2 =>
 some v2
/-- laws.toBlock -/
def w_toBlock (xA : Block) : Option (Block) :=
 (w_toLeafS xA.Leaves).bind fun v1 =>
 some (Block.mk xA.Bad xA.Wear v1)
/-- laws.toBlockS -/
def w_toBlockS_b1 (xA : List Block) (yOut1 : List Block) (yI1 : Int) : Option ((List Block × Int) ⊕ (List Block)) :=
 bif (decide (yI1 < (ln xA))) then ((gi xA yI1).bind fun x1 =>
 (w_toBlock x1).bind fun v1 =>
 (gi yOut1 yI1).bind fun x2 =>
 some (.inl ((si yOut1 yI1 v1), (ad yI1 1))))
 else (some (.inr yOut1))
def w_toBlockS (xA : List Block) : Option (List Block) :=
 (mk 40 (Block.mk false 0 []) (ln xA)).bind fun c1 =>
 (loopO (fun s : List Block × Int => w_toBlockS_b1 xA s.1 s.2) (c1, 0)).bind fun v2 =>
 some v2
/-- laws.toFlash -/
def w_toFlash (xA : Flash) : Option (Flash) :=
 (w_toBlockS xA.Blocks).bind fun v1 =>
 some (Flash.mk v1)
/-- spec.l01In -/
def s_l01In (xX : Int) (xLeast : Int) (xMost : Int) : Option (Bool) :=
 bif (decide (xX ≥ xLeast)) then (some (decide (xX ≤ xMost)))
 else (some false)
/-- spec.l05Leaf -/
def s_l05Leaf (xX : Leaf) : Option (Bool) :=
 bif (xX.Is == 0) then (some (seq xX.Text (bs [])))
 else (bif (xX.Is == 1) then ((s_l01In (sln xX.Text) 1 120).bind fun v1 =>
 some v1)
 else (bif (xX.Is == 2) then (some (decide ((sln xX.Text) ≤ 120)))
 else (some false)))
/-- spec.FlashOk -/
def s_FlashOk_b2 (x1 : Block) (yK1 : Int) : Option ((Int) ⊕ ((Unit) ⊕ ((Int) ⊕ ((Unit) ⊕ (Bool))))) :=
 bif (decide (yK1 < (ln x1.Leaves))) then (((gi x1.Leaves yK1).bind fun x2 =>
 (s_l05Leaf x2).bind fun v2 =>
 bif (!v2) then (some true)
 else (bif (decide (yK1 > 0)) then ((gi x1.Leaves (sb yK1 1)).bind fun x3 =>
 bif (x3.Is == 0) then ((gi x1.Leaves yK1).bind fun x4 =>
 some (x4.Is != 0))
 else (some false))
 else (some false)) : Option (Bool)).bind fun j2 =>
 bif j2 then (some (.inr (.inr (.inr (.inr false)))))
 else (some (.inl (ad yK1 1))))
 else (some (.inr (.inl ())))
def s_FlashOk_b1 (xF : Flash) (yI1 : Int) : Option ((Int) ⊕ ((Unit) ⊕ (Bool))) :=
 bif (decide (yI1 < (ln xF.Blocks))) then ((gi xF.Blocks yI1).bind fun x1 =>
 (bif ((ln x1.Leaves) != 4) then (some true)
 else ((s_l01In x1.Wear 0 1000000000).bind fun v1 =>
 some (!v1)) : Option (Bool)).bind fun j1 =>
 bif j1 then (some (.inr (.inr false)))
 else ((loopO (fun s : Int => s_FlashOk_b2 x1 s) 0).bind (Sum.elim (fun v3 => (some (.inl (ad yI1 1)))) some)))
 else (some (.inr (.inl ())))
def s_FlashOk (xF : Flash) : Option (Bool) :=
 (loopO (fun s : Int => s_FlashOk_b1 xF s) 0).bind (Sum.elim (fun v4 => ((s_l01In (ln xF.Blocks) 3 10).bind fun v5 =>
 some v5)) some)
/-- spec.SumMore -/
def s_SumMore_b2 (ySum2 : Int) (yK1 : Int) : Option ((Int × Int) ⊕ (Int)) :=
 bif (decide (yK1 < 8)) then (bif ((Int.tmod ySum2 2) == 1) then (some (.inl ((xr (IntKind.u32.wrap (Int.tdiv ySum2 2)) 3558460437), (ad yK1 1))))
 else (some (.inl ((IntKind.u32.wrap (Int.tdiv ySum2 2)), (ad yK1 1)))))
 else (some (.inr ySum2))
def s_SumMore_b1 (xText : ByteArray) (ySum1 : Int) (yI1 : Int) : Option ((Int × Int) ⊕ (Int)) :=
 bif (decide (yI1 < (sln xText))) then ((sx xText yI1).bind fun x1 =>
 (loopO (fun s : Int × Int => s_SumMore_b2 s.1 s.2) ((xr ySum1 (IntKind.u32.wrap x1)), 0)).bind fun v1 =>
 some (.inl (v1, (ad yI1 1))))
 else (some (.inr ySum1))
def s_SumMore (xSum : Int) (xText : ByteArray) : Option (Int) :=
 (loopO (fun s : Int × Int => s_SumMore_b1 xText s.1 s.2) (xSum, 0)).bind fun v2 =>
 some v2
/-- spec.SumOf -/
def s_SumOf (xText : ByteArray) : Option (Int) :=
 (s_SumMore 4294967295 xText).bind fun v1 =>
 some v1
/-- spec.l02Four -/
def s_l02Four (xX : Int) : Option (ByteArray) :=
 some (strB [(IntKind.u8.wrap (Int.fdiv xX (2 ^ (min (24 : Int).toNat IntKind.u32.bits)))), (IntKind.u8.wrap (Int.fdiv xX (2 ^ (min (16 : Int).toNat IntKind.u32.bits)))), (IntKind.u8.wrap (Int.fdiv xX (2 ^ (min (8 : Int).toNat IntKind.u32.bits)))), (IntKind.u8.wrap xX)])
/-- spec.Unsealed -/
def s_Unsealed (xText : ByteArray) : Option (ByteArray × Bool) :=
 (bif (decide ((sb (sln xText) 4) < 0)) then (some true)
 else (bif (decide ((sb (sln xText) 4) > 20000)) then (some true)
 else ((sub xText (sb (sln xText) 4) (sln xText)).bind fun x1 =>
 (sub xText 0 (sb (sln xText) 4)).bind fun x2 =>
 (s_SumOf x2).bind fun v1 =>
 (s_l02Four v1).bind fun v2 =>
 some (!(seq x1 v2)))) : Option (Bool)).bind fun j1 =>
 bif j1 then (some ((bs []), false))
 else ((sub xText 0 (sb (sln xText) 4)).bind fun x3 =>
 some (x3, true))
/-- spec.l01Var -/
def s_l01Var_b1 (yN1 : Int) (yOut1 : List Int) : Option ((Int × List Int) ⊕ (Int × List Int)) :=
 bif (decide (yN1 > 127)) then ((ap 1 yOut1 [(IntKind.u8.wrap (ad (Int.tmod yN1 128) 128))]).bind fun c1 =>
 some (.inl ((qu yN1 128), c1)))
 else (some (.inr (yN1, yOut1)))
def s_l01Var (xN : Int) : Option (ByteArray) :=
 (loopO (fun s : Int × List Int => s_l01Var_b1 s.1 s.2) (xN, [])).bind fun v1 =>
 (ap 1 v1.2 [(IntKind.u8.wrap v1.1)]).bind fun c2 =>
 some (strB c2)
/-- spec.ReadVar -/
def s_ReadVar_b1 (xText : ByteArray) (xAt : Int) (yN1 : Int) (yScale1 : Int) (yI1 : Int) : Option ((Int × Int × Int) ⊕ ((Unit) ⊕ ((Int × Int × Bool)))) :=
 (bif (decide (yI1 < (sln xText))) then (some (decide (yI1 < (ad xAt 5))))
 else (some false) : Option (Bool)).bind fun j1 =>
 bif j1 then ((sx xText yI1).bind fun x1 =>
 (sx xText yI1).bind fun x2 =>
 bif (decide (x2 < 128)) then ((bif (decide ((ad yN1 (ml (Int.tmod (IntKind.i64.wrap x1) 128) yScale1)) > 1000000000)) then (some true)
 else ((sub xText xAt (ad yI1 1)).bind fun x3 =>
 (s_l01Var (ad yN1 (ml (Int.tmod (IntKind.i64.wrap x1) 128) yScale1))).bind fun v2 =>
 some (!(seq v2 x3))) : Option (Bool)).bind fun j2 =>
 bif j2 then (some (.inr (.inr (0, 0, false))))
 else (some (.inr (.inr ((ad yN1 (ml (Int.tmod (IntKind.i64.wrap x1) 128) yScale1)), (ad yI1 1), true)))))
 else (some (.inl ((ad yN1 (ml (Int.tmod (IntKind.i64.wrap x1) 128) yScale1)), (ml yScale1 128), (ad yI1 1)))))
 else (some (.inr (.inl ())))
def s_ReadVar (xText : ByteArray) (xAt : Int) : Option (Int × Int × Bool) :=
 (s_l01In xAt 0 (sln xText)).bind fun v1 =>
 bif (!v1) then (some (0, 0, false))
 else ((loopO (fun s : Int × Int × Int => s_ReadVar_b1 xText xAt s.1 s.2.1 s.2.2) (0, 1, xAt)).bind (Sum.elim (fun v3 => (some (0, 0, false))) some))
/-- spec.l06Var -/
def s_l06Var (xC : l06Cur) : Option (Int × l06Cur) :=
 ((s_ReadVar xC.text_ xC.at_).bind fun v1 =>
 some (v1.1, v1.2.1, v1.2.2) : Option (Int × Int × Bool)).bind fun j1 =>
 (bif xC.bad_ then (some true)
 else (some (!j1.2.2)) : Option (Bool)).bind fun j2 =>
 bif j2 then (some (0, (l06Cur.mk xC.text_ xC.at_ true)))
 else (some (j1.1, (l06Cur.mk xC.text_ j1.2.1 xC.bad_)))
/-- spec.PageOk -/
def s_PageOk (xP : Page) : Option (Bool) :=
 ((s_l01In xP.Kind 1 2).bind fun v1 =>
 bif (!v1) then (some true)
 else ((s_l01In xP.Seq 1 1000000000).bind fun v2 =>
 bif (!v2) then (some true)
 else ((s_l01In xP.Tx 1 1000000000).bind fun v3 =>
 bif (!v3) then (some true)
 else ((s_l01In xP.Count 1 9).bind fun v4 =>
 bif (!v4) then (some true)
 else ((s_l01In xP.Part 0 (sb xP.Count 1)).bind fun v5 =>
 bif (!v5) then (some true)
 else (some (decide ((sln xP.Text) > 90))))))) : Option (Bool)).bind fun j1 =>
 bif j1 then (some false)
 else (bif (xP.Kind == 2) then (some true)
 else (some (xP.Count == 1)))
/-- spec.l06Byte -/
def s_l06Byte (xN : Int) : Option (ByteArray) :=
 some (strB [(IntKind.u8.wrap xN)])
/-- spec.Sealed -/
def s_Sealed (xText : ByteArray) : Option (ByteArray × Bool) :=
 bif (decide ((sln xText) > 20000)) then (some ((bs []), false))
 else ((s_SumOf xText).bind fun v1 =>
 (s_l02Four v1).bind fun v2 =>
 (cat xText v2).bind fun x1 =>
 some (x1, true))
/-- spec.PageText -/
def s_PageText (xP : Page) : Option (ByteArray × Bool) :=
 (s_PageOk xP).bind fun v1 =>
 bif (!v1) then (some ((bs []), false))
 else ((s_l06Byte xP.Kind).bind fun v2 =>
 (s_l01Var xP.Seq).bind fun v3 =>
 (cat v2 v3).bind fun x1 =>
 (s_l01Var xP.Tx).bind fun v4 =>
 (cat x1 v4).bind fun x2 =>
 (s_l01Var xP.Part).bind fun v5 =>
 (cat x2 v5).bind fun x3 =>
 (s_l01Var xP.Count).bind fun v6 =>
 (cat x3 v6).bind fun x4 =>
 (cat x4 xP.Text).bind fun x5 =>
 (s_Sealed x5).bind fun v7 =>
 some (v7.1, v7.2))
/-- spec.ReadPage -/
def s_ReadPage (xT : ByteArray) : Option (Page × Bool) :=
 (s_Unsealed xT).bind fun v1 =>
 (bif (!v1.2) then (some true)
 else (some (decide ((sln v1.1) < 1))) : Option (Bool)).bind fun j1 =>
 (s_l06Var (l06Cur.mk v1.1 1 j1)).bind fun v2 =>
 (s_l06Var v2.2).bind fun v3 =>
 (s_l06Var v3.2).bind fun v4 =>
 (s_l06Var v4.2).bind fun v5 =>
 bif v5.2.bad_ then (some ((Page.mk 0 0 0 0 0 (bs [])), false))
 else ((sx v1.1 0).bind fun x1 =>
 (sub v1.1 v5.2.at_ (sln v1.1)).bind fun x2 =>
 (s_PageText (Page.mk (IntKind.i64.wrap x1) v2.1 v3.1 v4.1 v5.1 x2)).bind fun v6 =>
 (bif (!v6.2) then (some true)
 else (some (!(seq v6.1 xT))) : Option (Bool)).bind fun j2 =>
 bif j2 then (some ((Page.mk 0 0 0 0 0 (bs [])), false))
 else (some ((Page.mk (IntKind.i64.wrap x1) v2.1 v3.1 v4.1 v5.1 x2), true)))
/-- spec.ShowFlash -/
def s_ShowFlash_b2 (xF : Flash) (yB1 : Int) (yS2 : ByteArray) (yK1 : Int) : Option ((ByteArray × Int) ⊕ (ByteArray)) :=
 bif (decide (yK1 < 4)) then ((gi xF.Blocks yB1).bind fun x1 =>
 (gi x1.Leaves yK1).bind fun x2 =>
 (s_ReadPage x2.Text).bind fun v2 =>
 (bif (x2.Is == 0) then ((cat yS2 (bs [46])).bind fun x3 =>
 some x3)
 else (bif (x2.Is == 2) then ((cat yS2 (bs [33])).bind fun x4 =>
 some x4)
 else ((bif v2.2 then (some (v2.1.Kind == 1))
 else (some false) : Option (Bool)).bind fun j2 =>
 bif j2 then ((cat yS2 (bs [100])).bind fun x5 =>
 some x5)
 else (bif v2.2 then ((cat yS2 (bs [109])).bind fun x6 =>
 some x6)
 else ((cat yS2 (bs [63])).bind fun x7 =>
 some x7)))) : Option (ByteArray)).bind fun j1 =>
 some (.inl (j1, (ad yK1 1))))
 else (some (.inr yS2))
def s_ShowFlash_b1 (xF : Flash) (yS1 : ByteArray) (yB1 : Int) : Option ((ByteArray × Int) ⊕ (ByteArray)) :=
 bif (decide (yB1 < (ln xF.Blocks))) then ((loopO (fun s : ByteArray × Int => s_ShowFlash_b2 xF yB1 s.1 s.2) (yS1, 0)).bind fun v3 =>
 (gi xF.Blocks yB1).bind fun x8 =>
 bif x8.Bad then ((cat v3 (bs [120])).bind fun x9 =>
 (cat x9 (bs [10])).bind fun x10 =>
 some (.inl (x10, (ad yB1 1))))
 else ((cat v3 (bs [10])).bind fun x11 =>
 some (.inl (x11, (ad yB1 1)))))
 else (some (.inr yS1))
def s_ShowFlash (xF : Flash) : Option (ByteArray) :=
 (s_FlashOk xF).bind fun v1 =>
 bif (!v1) then (some (bs []))
 else ((loopO (fun s : ByteArray × Int => s_ShowFlash_b1 xF s.1 s.2) ((bs []), 0)).bind fun v4 =>
 some v4)
/-- impl.in -/
def i_in (xN : Int) (xLow : Int) (xHigh : Int) : Option (Bool) :=
 bif (decide (xN ≥ xLow)) then (some (decide (xN ≤ xHigh)))
 else (some false)
/-- impl.leafOk -/
def i_leafOk (xX : Leaf) : Option (Bool) :=
 bif (xX.Is == 0) then (some (seq xX.Text (bs [])))
 else (bif (xX.Is == 1) then ((i_in (sln xX.Text) 1 120).bind fun v1 =>
 some v1)
 else (bif (xX.Is == 2) then (some (decide ((sln xX.Text) ≤ 120)))
 else (some false)))
/-- impl.FlashOk -/
def i_FlashOk_b2 (x1 : Block) (y2 : Int) : Option ((Int) ⊕ ((Unit) ⊕ ((Int) ⊕ ((Unit) ⊕ (Bool))))) :=
 bif (decide (y2 < (ln x1.Leaves))) then ((gi x1.Leaves y2).bind fun x2 =>
 ((i_leafOk x2).bind fun v2 =>
 bif (!v2) then (some true)
 else (bif (decide (y2 > 0)) then ((gi x1.Leaves (sb y2 1)).bind fun x3 =>
 bif (x3.Is == 0) then (some (x2.Is != 0))
 else (some false))
 else (some false)) : Option (Bool)).bind fun j2 =>
 bif j2 then (some (.inr (.inr (.inr (.inr false)))))
 else (some (.inl (ad y2 1))))
 else (some (.inr (.inl ())))
def i_FlashOk_b1 (xF : Flash) (y1 : Int) : Option ((Int) ⊕ ((Unit) ⊕ (Bool))) :=
 bif (decide (y1 < (ln xF.Blocks))) then ((gi xF.Blocks y1).bind fun x1 =>
 (bif ((ln x1.Leaves) != 4) then (some true)
 else ((i_in x1.Wear 0 1000000000).bind fun v1 =>
 some (!v1)) : Option (Bool)).bind fun j1 =>
 bif j1 then (some (.inr (.inr false)))
 else ((loopO (fun s : Int => i_FlashOk_b2 x1 s) 0).bind (Sum.elim (fun v3 => (some (.inl (ad y1 1)))) some)))
 else (some (.inr (.inl ())))
def i_FlashOk (xF : Flash) : Option (Bool) :=
 (loopO (fun s : Int => i_FlashOk_b1 xF s) 0).bind (Sum.elim (fun v4 => ((i_in (ln xF.Blocks) 3 10).bind fun v5 =>
 some v5)) some)
/-- impl.SumMore -/
def i_SumMore_b2 (ySum2 : Int) (y1 : Int) : Option ((Int × Int) ⊕ (Int)) :=
 bif (decide (y1 < 8)) then (bif ((an ySum2 1) == 1) then (some (.inl ((xr (Int.fdiv ySum2 (2 ^ (min (1 : Int).toNat IntKind.u32.bits))) 3558460437), (ad y1 1))))
 else (some (.inl ((Int.fdiv ySum2 (2 ^ (min (1 : Int).toNat IntKind.u32.bits))), (ad y1 1)))))
 else (some (.inr ySum2))
def i_SumMore_b1 (xText : ByteArray) (ySum1 : Int) (yI1 : Int) : Option ((Int × Int) ⊕ (Int)) :=
 bif (decide (yI1 < (sln xText))) then ((sx xText yI1).bind fun x1 =>
 (loopO (fun s : Int × Int => i_SumMore_b2 s.1 s.2) ((xr ySum1 (IntKind.u32.wrap x1)), 0)).bind fun v1 =>
 some (.inl (v1, (ad yI1 1))))
 else (some (.inr ySum1))
def i_SumMore (xSum : Int) (xText : ByteArray) : Option (Int) :=
 (loopO (fun s : Int × Int => i_SumMore_b1 xText s.1 s.2) (xSum, 0)).bind fun v2 =>
 some v2
/-- impl.SumOf -/
def i_SumOf (xText : ByteArray) : Option (Int) :=
 (i_SumMore 4294967295 xText).bind fun v1 =>
 some v1
/-- impl.Sealed -/
def i_Sealed (xText : ByteArray) : Option (ByteArray × Bool) :=
 bif (decide ((sln xText) > 20000)) then (some ((bs []), false))
 else ((i_SumOf xText).bind fun v1 =>
 (cat xText (strB [(IntKind.u8.wrap (Int.fdiv v1 (2 ^ (min (24 : Int).toNat IntKind.u32.bits)))), (IntKind.u8.wrap (Int.fdiv v1 (2 ^ (min (16 : Int).toNat IntKind.u32.bits)))), (IntKind.u8.wrap (Int.fdiv v1 (2 ^ (min (8 : Int).toNat IntKind.u32.bits)))), (IntKind.u8.wrap v1)])).bind fun x1 =>
 some (x1, true))
/-- impl.Unsealed -/
def i_Unsealed (xText : ByteArray) : Option (ByteArray × Bool) :=
 bif (decide ((sln xText) < 4)) then (some ((bs []), false))
 else ((sub xText 0 (sb (sln xText) 4)).bind fun x1 =>
 (i_Sealed x1).bind fun v1 =>
 (bif (!v1.2) then (some true)
 else (some (!(seq v1.1 xText))) : Option (Bool)).bind fun j1 =>
 bif j1 then (some ((bs []), false))
 else (some (x1, true)))
/-- impl.ReadVar -/
def i_ReadVar_b1 (xText : ByteArray) (xAt : Int) (yN1 : Int) (yK1 : Int) : Option ((Int × Int) ⊕ ((Unit) ⊕ ((Int × Int × Bool)))) :=
 (bif (decide (yK1 < 5)) then (bif (decide (xAt ≥ 0)) then (some (decide (xAt < (sb (sln xText) yK1))))
 else (some false))
 else (some false) : Option (Bool)).bind fun j1 =>
 bif j1 then ((sx xText (ad xAt yK1)).bind fun x1 =>
 (shl .i64 (Int.tmod (IntKind.i64.wrap x1) 128) (ml 7 yK1)).bind fun x2 =>
 bif (decide ((IntKind.i64.wrap x1) ≥ 128)) then (some (.inl ((ad yN1 x2), (ad yK1 1))))
 else ((bif ((IntKind.i64.wrap x1) == 0) then (bif (decide (yK1 > 0)) then (some true)
 else (some (decide ((ad yN1 x2) > 1000000000))))
 else (some (decide ((ad yN1 x2) > 1000000000))) : Option (Bool)).bind fun j2 =>
 bif j2 then (some (.inr (.inr (0, 0, false))))
 else (some (.inr (.inr ((ad yN1 x2), (ad (ad xAt yK1) 1), true))))))
 else (some (.inr (.inl ())))
def i_ReadVar (xText : ByteArray) (xAt : Int) : Option (Int × Int × Bool) :=
 (loopO (fun s : Int × Int => i_ReadVar_b1 xText xAt s.1 s.2) (0, 0)).bind (Sum.elim (fun v1 => (some (0, 0, false))) some)
/-- impl.PageOk -/
def i_PageOk (xP : Page) : Option (Bool) :=
 ((i_in xP.Seq 1 1000000000).bind fun v1 =>
 bif (!v1) then (some true)
 else ((i_in xP.Tx 1 1000000000).bind fun v2 =>
 bif (!v2) then (some true)
 else ((i_in xP.Count 1 9).bind fun v3 =>
 bif (!v3) then (some true)
 else ((i_in xP.Part 0 (sb xP.Count 1)).bind fun v4 =>
 bif (!v4) then (some true)
 else (some (decide ((sln xP.Text) > 90)))))) : Option (Bool)).bind fun j1 =>
 bif j1 then (some false)
 else (bif (xP.Kind == 2) then (some true)
 else (bif (xP.Kind == 1) then (some (xP.Count == 1))
 else (some false)))
/-- impl.ReadPage -/
def i_ReadPage_b1 (v1 : ByteArray × Bool) (yAt1 : Int) (y1 : Int) (yL01 : Int) (yL11 : Int) (yL21 : Int) (yL31 : Int) : Option ((Int × Int × Int × Int × Int × Int) ⊕ ((Int × Int × Int × Int × Int) ⊕ ((Page × Bool)))) :=
 bif (decide (y1 < 4)) then ((i_ReadVar v1.1 yAt1).bind fun v2 =>
 bif (!v2.2.2) then (some (.inr (.inr ((Page.mk 0 0 0 0 0 (bs [])), false))))
 else (bif (y1 == 0) then (some (.inl (v2.2.1, (ad y1 1), v2.1, yL11, yL21, yL31)))
 else (bif (y1 == 1) then (some (.inl (v2.2.1, (ad y1 1), yL01, v2.1, yL21, yL31)))
 else (bif (y1 == 2) then (some (.inl (v2.2.1, (ad y1 1), yL01, yL11, v2.1, yL31)))
 else (bif (y1 == 3) then (some (.inl (v2.2.1, (ad y1 1), yL01, yL11, yL21, v2.1)))
 else none)))))
 else (some (.inr (.inl (yAt1, yL01, yL11, yL21, yL31))))
def i_ReadPage (xT : ByteArray) : Option (Page × Bool) :=
 (i_Unsealed xT).bind fun v1 =>
 (bif (!v1.2) then (some true)
 else (some (seq v1.1 (bs []))) : Option (Bool)).bind fun j1 =>
 bif j1 then (some ((Page.mk 0 0 0 0 0 (bs [])), false))
 else ((loopO (fun s : Int × Int × Int × Int × Int × Int => i_ReadPage_b1 v1 s.1 s.2.1 s.2.2.1 s.2.2.2.1 s.2.2.2.2.1 s.2.2.2.2.2) (1, 0, 0, 0, 0, 0)).bind (Sum.elim (fun v3 => ((sx v1.1 0).bind fun x1 =>
 (sub v1.1 v3.1 (sln v1.1)).bind fun x2 =>
 (i_PageOk (Page.mk (IntKind.i64.wrap x1) v3.2.1 v3.2.2.1 v3.2.2.2.1 v3.2.2.2.2 x2)).bind fun v4 =>
 bif (!v4) then (some ((Page.mk 0 0 0 0 0 (bs [])), false))
 else (some ((Page.mk (IntKind.i64.wrap x1) v3.2.1 v3.2.2.1 v3.2.2.2.1 v3.2.2.2.2 x2), true)))) some))
/-- impl.leafSign -/
def i_leafSign (xX : Leaf) : Option (ByteArray) :=
 bif (xX.Is == 0) then (some (bs [46]))
 else (bif (xX.Is == 2) then (some (bs [33]))
 else ((i_ReadPage xX.Text).bind fun v1 =>
 bif (!v1.2) then (some (bs [63]))
 else (bif (v1.1.Kind == 1) then (some (bs [100]))
 else (some (bs [109])))))
/-- impl.ShowFlash -/
def i_ShowFlash_b2 (x1 : Block) (yOut2 : ByteArray) (y2 : Int) : Option ((ByteArray × Int) ⊕ (ByteArray)) :=
 bif (decide (y2 < (ln x1.Leaves))) then ((gi x1.Leaves y2).bind fun x2 =>
 (i_leafSign x2).bind fun v2 =>
 (cat yOut2 v2).bind fun x3 =>
 some (.inl (x3, (ad y2 1))))
 else (some (.inr yOut2))
def i_ShowFlash_b1 (xF : Flash) (yOut1 : ByteArray) (y1 : Int) : Option ((ByteArray × Int) ⊕ (ByteArray)) :=
 bif (decide (y1 < (ln xF.Blocks))) then ((gi xF.Blocks y1).bind fun x1 =>
 (loopO (fun s : ByteArray × Int => i_ShowFlash_b2 x1 s.1 s.2) (yOut1, 0)).bind fun v3 =>
 bif x1.Bad then ((cat v3 (bs [120])).bind fun x4 =>
 (cat x4 (bs [10])).bind fun x5 =>
 some (.inl (x5, (ad y1 1))))
 else ((cat v3 (bs [10])).bind fun x6 =>
 some (.inl (x6, (ad y1 1)))))
 else (some (.inr yOut1))
def i_ShowFlash (xF : Flash) : Option (ByteArray) :=
 (i_FlashOk xF).bind fun v1 =>
 bif (!v1) then (some (bs []))
 else ((loopO (fun s : ByteArray × Int => i_ShowFlash_b1 xF s.1 s.2) ((bs []), 0)).bind fun v4 =>
 some v4)
/-- laws.eqLeaf -/
def w_eqLeaf (xA : Leaf) (xB : Leaf) : Option (Bool) :=
 bif (xA.Is != xB.Is) then (some false)
 else (bif (!(seq xA.Text xB.Text)) then (some false)
 else (some true))
/-- laws.eqLeafS -/
def w_eqLeafS_b1 (xA : List Leaf) (xB : List Leaf) (yI1 : Int) : Option ((Int) ⊕ ((Unit) ⊕ (Bool))) :=
 bif (decide (yI1 < (ln xA))) then ((gi xA yI1).bind fun x1 =>
 (gi xB yI1).bind fun x2 =>
 (w_eqLeaf x1 x2).bind fun v1 =>
 bif (!v1) then (some (.inr (.inr false)))
 else (some (.inl (ad yI1 1))))
 else (some (.inr (.inl ())))
def w_eqLeafS (xA : List Leaf) (xB : List Leaf) : Option (Bool) :=
 bif ((ln xA) != (ln xB)) then (some false)
 else ((loopO (fun s : Int => w_eqLeafS_b1 xA xB s) 0).bind (Sum.elim (fun v2 => (some true)) some))
/-- laws.eqBlock -/
def w_eqBlock (xA : Block) (xB : Block) : Option (Bool) :=
 bif (!(xA.Bad == xB.Bad)) then (some false)
 else (bif (xA.Wear != xB.Wear) then (some false)
 else ((w_eqLeafS xA.Leaves xB.Leaves).bind fun v1 =>
 bif (!v1) then (some false)
 else (some true)))
/-- laws.eqBlockS -/
def w_eqBlockS_b1 (xA : List Block) (xB : List Block) (yI1 : Int) : Option ((Int) ⊕ ((Unit) ⊕ (Bool))) :=
 bif (decide (yI1 < (ln xA))) then ((gi xA yI1).bind fun x1 =>
 (gi xB yI1).bind fun x2 =>
 (w_eqBlock x1 x2).bind fun v1 =>
 bif (!v1) then (some (.inr (.inr false)))
 else (some (.inl (ad yI1 1))))
 else (some (.inr (.inl ())))
def w_eqBlockS (xA : List Block) (xB : List Block) : Option (Bool) :=
 bif ((ln xA) != (ln xB)) then (some false)
 else ((loopO (fun s : Int => w_eqBlockS_b1 xA xB s) 0).bind (Sum.elim (fun v2 => (some true)) some))
/-- laws.eqFlash -/
def w_eqFlash (xA : Flash) (xB : Flash) : Option (Bool) :=
 (w_eqBlockS xA.Blocks xB.Blocks).bind fun v1 =>
 bif (!v1) then (some false)
 else (some true)
/-- laws.FnExactShowFlash -/
def w_FnExactShowFlash (xAF : Flash) : Option (Bool) :=
 (w_szFlash xAF 1048576).bind fun v1 =>
 bif (decide (v1 < 0)) then (some true)
 else ((w_toFlash xAF).bind fun v2 =>
 (s_ShowFlash v2).bind fun v3 =>
 (w_toFlash xAF).bind fun v4 =>
 (i_ShowFlash v4).bind fun v5 =>
 bif (!(seq v5 v3)) then (some false)
 else ((w_toFlash xAF).bind fun v6 =>
 (w_eqFlash v4 v6).bind fun v7 =>
 bif (!v7) then (some false)
 else (some true)))
end
end Go.TI
