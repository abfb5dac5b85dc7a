/- What functions of the given program compute. No condition. -/
import Derived.Test.YtcjepealfaimfaaGreatDBSOA
import Derived.Test.YtcjepealfaimfaaGreatDBTIG
namespace Go.TI
open Go
set_option linter.unusedVariables false
noncomputable section

structure Leaf where
  Is : Int
  Text : ByteArray

structure Block where
  Bad : Bool
  Wear : Int
  Leaves : List Leaf

structure Flash where
  Blocks : List Block

structure Vol where
  Id : Int
  Root : Int

structure Knot where
  Leaf : Bool
  Kids : List Int

structure Arena where
  Knots : List Knot

structure Store where
  Vols : List Vol
  Arena : Arena
  Next : Int

structure Device where
  Flash : Flash
  Store : Store
  Seq : Int
  Tx : Int
  Base : Int

structure l06Cur where
  text_ : ByteArray
  at_ : Int
  bad_ : Bool

structure Page where
  Kind : Int
  Seq : Int
  Tx : Int
  Part : Int
  Count : Int
  Text : ByteArray

structure Found where
  Block : Int
  Leaf : Int
  Page : Page


def oLeaf (x : Leaf) : Prop := oI x.Is ∧ oS x.Text
def oBlock (x : Block) : Prop := oB x.Bad ∧ oI x.Wear ∧ (ol oLeaf) x.Leaves
def oFlash (x : Flash) : Prop := (ol oBlock) x.Blocks
def oVol (x : Vol) : Prop := oI x.Id ∧ oI x.Root
def oKnot (x : Knot) : Prop := oB x.Leaf ∧ (ol oI) x.Kids
def oArena (x : Arena) : Prop := (ol oKnot) x.Knots
def oStore (x : Store) : Prop := (ol oVol) x.Vols ∧ oArena x.Arena ∧ oI x.Next
def oDevice (x : Device) : Prop := oFlash x.Flash ∧ oStore x.Store ∧ oI x.Seq ∧ oI x.Tx ∧ oI x.Base

def w_szLeaf (xA : Leaf) (xLeft : Int) : Option (Int) :=
 bif (decide ((sb xLeft (sln xA.Text)) < 0)) then (some (-1))
 else (some (sb xLeft (sln xA.Text)))
def w_szLeafS_b1 (xA : List Leaf) (yLeft1 : Int) (yI1 : Int) : Option ((Int × Int) ⊕ ((Int) ⊕ (Int))) :=
 bif (decide (yI1 < (ln xA))) then ((gi xA yI1).bind fun x1 =>
 (w_szLeaf x1 yLeft1).bind fun v1 =>
 bif (decide (v1 < 0)) then (some (.inr (.inr (-1))))
 else (some (.inl (v1, (ad yI1 1)))))
 else (some (.inr (.inl yLeft1)))
def w_szLeafS (xA : List Leaf) (xLeft : Int) : Option (Int) :=
 bif (decide ((sb xLeft (ln xA)) < 0)) then (some (-1))
 else ((loopO (fun s : Int × Int => w_szLeafS_b1 xA s.1 s.2) ((sb xLeft (ln xA)), 0)).bind (Sum.elim (fun v2 => (some v2)) some))
def w_szBlock (xA : Block) (xLeft : Int) : Option (Int) :=
 (w_szLeafS xA.Leaves xLeft).bind fun v1 =>
 bif (decide (v1 < 0)) then (some (-1))
 else (some v1)
def w_szBlockS_b1 (xA : List Block) (yLeft1 : Int) (yI1 : Int) : Option ((Int × Int) ⊕ ((Int) ⊕ (Int))) :=
 bif (decide (yI1 < (ln xA))) then ((gi xA yI1).bind fun x1 =>
 (w_szBlock x1 yLeft1).bind fun v1 =>
 bif (decide (v1 < 0)) then (some (.inr (.inr (-1))))
 else (some (.inl (v1, (ad yI1 1)))))
 else (some (.inr (.inl yLeft1)))
def w_szBlockS (xA : List Block) (xLeft : Int) : Option (Int) :=
 bif (decide ((sb xLeft (ln xA)) < 0)) then (some (-1))
 else ((loopO (fun s : Int × Int => w_szBlockS_b1 xA s.1 s.2) ((sb xLeft (ln xA)), 0)).bind (Sum.elim (fun v2 => (some v2)) some))
def w_szFlash (xA : Flash) (xLeft : Int) : Option (Int) :=
 (w_szBlockS xA.Blocks xLeft).bind fun v1 =>
 bif (decide (v1 < 0)) then (some (-1))
 else (some v1)
def w_szVolS (xA : List Vol) (xLeft : Int) : Option (Int) :=
 bif (decide ((sb xLeft (ln xA)) < 0)) then (some (-1))
 else (some (sb xLeft (ln xA)))
def w_szIntS (xA : List Int) (xLeft : Int) : Option (Int) :=
 bif (decide ((sb xLeft (ln xA)) < 0)) then (some (-1))
 else (some (sb xLeft (ln xA)))
def w_szKnot (xA : Knot) (xLeft : Int) : Option (Int) :=
 (w_szIntS xA.Kids xLeft).bind fun v1 =>
 bif (decide (v1 < 0)) then (some (-1))
 else (some v1)
def w_szKnotS_b1 (xA : List Knot) (yLeft1 : Int) (yI1 : Int) : Option ((Int × Int) ⊕ ((Int) ⊕ (Int))) :=
 bif (decide (yI1 < (ln xA))) then ((gi xA yI1).bind fun x1 =>
 (w_szKnot x1 yLeft1).bind fun v1 =>
 bif (decide (v1 < 0)) then (some (.inr (.inr (-1))))
 else (some (.inl (v1, (ad yI1 1)))))
 else (some (.inr (.inl yLeft1)))
def w_szKnotS (xA : List Knot) (xLeft : Int) : Option (Int) :=
 bif (decide ((sb xLeft (ln xA)) < 0)) then (some (-1))
 else ((loopO (fun s : Int × Int => w_szKnotS_b1 xA s.1 s.2) ((sb xLeft (ln xA)), 0)).bind (Sum.elim (fun v2 => (some v2)) some))
def w_szArena (xA : Arena) (xLeft : Int) : Option (Int) :=
 (w_szKnotS xA.Knots xLeft).bind fun v1 =>
 bif (decide (v1 < 0)) then (some (-1))
 else (some v1)
def w_szStore (xA : Store) (xLeft : Int) : Option (Int) :=
 (w_szVolS xA.Vols xLeft).bind fun v1 =>
 bif (decide (v1 < 0)) then (some (-1))
 else ((w_szArena xA.Arena v1).bind fun v2 =>
 bif (decide (v2 < 0)) then (some (-1))
 else (some v2))
def w_szDevice (xA : Device) (xLeft : Int) : Option (Int) :=
 (w_szFlash xA.Flash xLeft).bind fun v1 =>
 bif (decide (v1 < 0)) then (some (-1))
 else ((w_szStore xA.Store v1).bind fun v2 =>
 bif (decide (v2 < 0)) then (some (-1))
 else (some v2))
def w_toLeaf (xA : Leaf) : Option (Leaf) :=
 some xA
def w_toLeafS_b1 (xA : List Leaf) (yOut1 : List Leaf) (yI1 : Int) : Option ((List Leaf × Int) ⊕ (List Leaf)) :=
 bif (decide (yI1 < (ln xA))) then ((gi xA yI1).bind fun x1 =>
 (w_toLeaf x1).bind fun v1 =>
 (gi yOut1 yI1).bind fun x2 =>
 some (.inl ((si yOut1 yI1 v1), (ad yI1 1))))
 else (some (.inr yOut1))
def w_toLeafS (xA : List Leaf) : Option (List Leaf) :=
 (mk 24 (Leaf.mk 0 (bs [])) (ln xA)).bind fun q1 =>
 (loopO (fun s : List Leaf × Int => w_toLeafS_b1 xA s.1 s.2) (q1, 0)).bind fun v2 =>
 some v2
def w_toBlock (xA : Block) : Option (Block) :=
 (w_toLeafS xA.Leaves).bind fun v1 =>
 some (Block.mk xA.Bad xA.Wear v1)
def w_toBlockS_b1 (xA : List Block) (yOut1 : List Block) (yI1 : Int) : Option ((List Block × Int) ⊕ (List Block)) :=
 bif (decide (yI1 < (ln xA))) then ((gi xA yI1).bind fun x1 =>
 (w_toBlock x1).bind fun v1 =>
 (gi yOut1 yI1).bind fun x2 =>
 some (.inl ((si yOut1 yI1 v1), (ad yI1 1))))
 else (some (.inr yOut1))
def w_toBlockS (xA : List Block) : Option (List Block) :=
 (mk 40 (Block.mk false 0 []) (ln xA)).bind fun q1 =>
 (loopO (fun s : List Block × Int => w_toBlockS_b1 xA s.1 s.2) (q1, 0)).bind fun v2 =>
 some v2
def w_toFlash (xA : Flash) : Option (Flash) :=
 (w_toBlockS xA.Blocks).bind fun v1 =>
 some (Flash.mk v1)
def w_toVol (xA : Vol) : Option (Vol) :=
 some xA
def w_toVolS_b1 (xA : List Vol) (yOut1 : List Vol) (yI1 : Int) : Option ((List Vol × Int) ⊕ (List Vol)) :=
 bif (decide (yI1 < (ln xA))) then ((gi xA yI1).bind fun x1 =>
 (w_toVol x1).bind fun v1 =>
 (gi yOut1 yI1).bind fun x2 =>
 some (.inl ((si yOut1 yI1 v1), (ad yI1 1))))
 else (some (.inr yOut1))
def w_toVolS (xA : List Vol) : Option (List Vol) :=
 (mk 16 (Vol.mk 0 0) (ln xA)).bind fun q1 =>
 (loopO (fun s : List Vol × Int => w_toVolS_b1 xA s.1 s.2) (q1, 0)).bind fun v2 =>
 some v2
def w_toIntS_b1 (xA : List Int) (yOut1 : List Int) (yI1 : Int) : Option ((List Int × Int) ⊕ (List Int)) :=
 bif (decide (yI1 < (ln xA))) then ((gi xA yI1).bind fun x1 =>
 (gi yOut1 yI1).bind fun x2 =>
 some (.inl ((si yOut1 yI1 x1), (ad yI1 1))))
 else (some (.inr yOut1))
def w_toIntS (xA : List Int) : Option (List Int) :=
 (mk 8 0 (ln xA)).bind fun q1 =>
 (loopO (fun s : List Int × Int => w_toIntS_b1 xA s.1 s.2) (q1, 0)).bind fun v1 =>
 some v1
def w_toKnot (xA : Knot) : Option (Knot) :=
 (w_toIntS xA.Kids).bind fun v1 =>
 some (Knot.mk xA.Leaf v1)
def w_toKnotS_b1 (xA : List Knot) (yOut1 : List Knot) (yI1 : Int) : Option ((List Knot × Int) ⊕ (List Knot)) :=
 bif (decide (yI1 < (ln xA))) then ((gi xA yI1).bind fun x1 =>
 (w_toKnot x1).bind fun v1 =>
 (gi yOut1 yI1).bind fun x2 =>
 some (.inl ((si yOut1 yI1 v1), (ad yI1 1))))
 else (some (.inr yOut1))
def w_toKnotS (xA : List Knot) : Option (List Knot) :=
 (mk 32 (Knot.mk false []) (ln xA)).bind fun q1 =>
 (loopO (fun s : List Knot × Int => w_toKnotS_b1 xA s.1 s.2) (q1, 0)).bind fun v2 =>
 some v2
def w_toArena (xA : Arena) : Option (Arena) :=
 (w_toKnotS xA.Knots).bind fun v1 =>
 some (Arena.mk v1)
def w_toStore (xA : Store) : Option (Store) :=
 (w_toVolS xA.Vols).bind fun v1 =>
 (w_toArena xA.Arena).bind fun v2 =>
 some (Store.mk v1 v2 xA.Next)
def w_toDevice (xA : Device) : Option (Device) :=
 (w_toFlash xA.Flash).bind fun v1 =>
 (w_toStore xA.Store).bind fun v2 =>
 some (Device.mk v1 v2 xA.Seq xA.Tx xA.Base)
def s_l01In (xX : Int) (xLeast : Int) (xMost : Int) : Option (Bool) :=
 bif (decide (xX ≥ xLeast)) then (some (decide (xX ≤ xMost)))
 else (some false)
def s_ReadLeaf (xF : Flash) (xB : Int) (xLeaf : Int) : Option (ByteArray × Bool) :=
 ((s_l01In xB 0 (sb (ln xF.Blocks) 1)).bind fun v1 =>
 bif (!v1) then (some true)
 else ((gi xF.Blocks xB).bind fun x1 =>
 (s_l01In xLeaf 0 (sb (ln x1.Leaves) 1)).bind fun v2 =>
 bif (!v2) then (some true)
 else ((gi xF.Blocks xB).bind fun x2 =>
 (gi x2.Leaves xLeaf).bind fun x3 =>
 some (x3.Is != 1))) : Option (Bool)).bind fun j1 =>
 bif j1 then (some ((bs []), false))
 else ((gi xF.Blocks xB).bind fun x4 =>
 (gi x4.Leaves xLeaf).bind fun x5 =>
 some (x5.Text, true))
def s_SumMore_b2 (ySum2 : Int) (yK1 : Int) : Option ((Int × Int) ⊕ (Int)) :=
 bif (decide (yK1 < 8)) then (bif ((Int.tmod ySum2 2) == 1) then (some (.inl ((xr (IntKind.u32.wrap (Int.tdiv ySum2 2)) 3558460437), (ad yK1 1))))
 else (some (.inl ((IntKind.u32.wrap (Int.tdiv ySum2 2)), (ad yK1 1)))))
 else (some (.inr ySum2))
def s_SumMore_b1 (xText : ByteArray) (ySum1 : Int) (yI1 : Int) : Option ((Int × Int) ⊕ (Int)) :=
 bif (decide (yI1 < (sln xText))) then ((sx xText yI1).bind fun x1 =>
 (loopO (fun s : Int × Int => s_SumMore_b2 s.1 s.2) ((xr ySum1 (IntKind.u32.wrap x1)), 0)).bind fun v1 =>
 some (.inl (v1, (ad yI1 1))))
 else (some (.inr ySum1))
def s_SumMore (xSum : Int) (xText : ByteArray) : Option (Int) :=
 (loopO (fun s : Int × Int => s_SumMore_b1 xText s.1 s.2) (xSum, 0)).bind fun v2 =>
 some v2
def s_SumOf (xText : ByteArray) : Option (Int) :=
 (s_SumMore 4294967295 xText).bind fun v1 =>
 some v1
def s_l02Four (xX : Int) : Option (ByteArray) :=
 some (strB [(IntKind.u8.wrap (Int.fdiv xX (2 ^ (min (24 : Int).toNat IntKind.u32.bits)))), (IntKind.u8.wrap (Int.fdiv xX (2 ^ (min (16 : Int).toNat IntKind.u32.bits)))), (IntKind.u8.wrap (Int.fdiv xX (2 ^ (min (8 : Int).toNat IntKind.u32.bits)))), (IntKind.u8.wrap xX)])
def s_Unsealed (xText : ByteArray) : Option (ByteArray × Bool) :=
 (bif (decide ((sb (sln xText) 4) < 0)) then (some true)
 else (bif (decide ((sb (sln xText) 4) > 20000)) then (some true)
 else ((sub xText (sb (sln xText) 4) (sln xText)).bind fun x1 =>
 (sub xText 0 (sb (sln xText) 4)).bind fun x2 =>
 (s_SumOf x2).bind fun v1 =>
 (s_l02Four v1).bind fun v2 =>
 some (!(seq x1 v2)))) : Option (Bool)).bind fun j1 =>
 bif j1 then (some ((bs []), false))
 else ((sub xText 0 (sb (sln xText) 4)).bind fun x3 =>
 some (x3, true))
def s_l01Var_b1 (yN1 : Int) (yOut1 : List Int) : Option ((Int × List Int) ⊕ (Int × List Int)) :=
 bif (decide (yN1 > 127)) then ((ap 1 yOut1 [(IntKind.u8.wrap (ad (Int.tmod yN1 128) 128))]).bind fun q1 =>
 some (.inl ((qu yN1 128), q1)))
 else (some (.inr (yN1, yOut1)))
def s_l01Var (xN : Int) : Option (ByteArray) :=
 (loopO (fun s : Int × List Int => s_l01Var_b1 s.1 s.2) (xN, [])).bind fun v1 =>
 (ap 1 v1.2 [(IntKind.u8.wrap v1.1)]).bind fun q2 =>
 some (strB q2)
def s_ReadVar_b1 (xText : ByteArray) (xAt : Int) (yN1 : Int) (yScale1 : Int) (yI1 : Int) : Option ((Int × Int × Int) ⊕ ((Unit) ⊕ ((Int × Int × Bool)))) :=
 (bif (decide (yI1 < (sln xText))) then (some (decide (yI1 < (ad xAt 5))))
 else (some false) : Option (Bool)).bind fun j1 =>
 bif j1 then ((sx xText yI1).bind fun x1 =>
 (sx xText yI1).bind fun x2 =>
 bif (decide (x2 < 128)) then ((bif (decide ((ad yN1 (ml (Int.tmod (IntKind.i64.wrap x1) 128) yScale1)) > 1000000000)) then (some true)
 else ((sub xText xAt (ad yI1 1)).bind fun x3 =>
 (s_l01Var (ad yN1 (ml (Int.tmod (IntKind.i64.wrap x1) 128) yScale1))).bind fun v2 =>
 some (!(seq v2 x3))) : Option (Bool)).bind fun j2 =>
 bif j2 then (some (.inr (.inr (0, 0, false))))
 else (some (.inr (.inr ((ad yN1 (ml (Int.tmod (IntKind.i64.wrap x1) 128) yScale1)), (ad yI1 1), true)))))
 else (some (.inl ((ad yN1 (ml (Int.tmod (IntKind.i64.wrap x1) 128) yScale1)), (ml yScale1 128), (ad yI1 1)))))
 else (some (.inr (.inl ())))
def s_ReadVar (xText : ByteArray) (xAt : Int) : Option (Int × Int × Bool) :=
 (s_l01In xAt 0 (sln xText)).bind fun v1 =>
 bif (!v1) then (some (0, 0, false))
 else ((loopO (fun s : Int × Int × Int => s_ReadVar_b1 xText xAt s.1 s.2.1 s.2.2) (0, 1, xAt)).bind (Sum.elim (fun v3 => (some (0, 0, false))) some))
def s_l06Var (xC : l06Cur) : Option (Int × l06Cur) :=
 ((s_ReadVar xC.text_ xC.at_).bind fun v1 =>
 some (v1.1, v1.2.1, v1.2.2) : Option (Int × Int × Bool)).bind fun j1 =>
 (bif xC.bad_ then (some true)
 else (some (!j1.2.2)) : Option (Bool)).bind fun j2 =>
 bif j2 then (some (0, (l06Cur.mk xC.text_ xC.at_ true)))
 else (some (j1.1, (l06Cur.mk xC.text_ j1.2.1 xC.bad_)))
def s_PageOk (xP : Page) : Option (Bool) :=
 ((s_l01In xP.Kind 1 2).bind fun v1 =>
 bif (!v1) then (some true)
 else ((s_l01In xP.Seq 1 1000000000).bind fun v2 =>
 bif (!v2) then (some true)
 else ((s_l01In xP.Tx 1 1000000000).bind fun v3 =>
 bif (!v3) then (some true)
 else ((s_l01In xP.Count 1 9).bind fun v4 =>
 bif (!v4) then (some true)
 else ((s_l01In xP.Part 0 (sb xP.Count 1)).bind fun v5 =>
 bif (!v5) then (some true)
 else (some (decide ((sln xP.Text) > 90))))))) : Option (Bool)).bind fun j1 =>
 bif j1 then (some false)
 else (bif (xP.Kind == 2) then (some true)
 else (some (xP.Count == 1)))
def s_l06Byte (xN : Int) : Option (ByteArray) :=
 some (strB [(IntKind.u8.wrap xN)])
def s_Sealed (xText : ByteArray) : Option (ByteArray × Bool) :=
 bif (decide ((sln xText) > 20000)) then (some ((bs []), false))
 else ((s_SumOf xText).bind fun v1 =>
 (s_l02Four v1).bind fun v2 =>
 (cat xText v2).bind fun x1 =>
 some (x1, true))
def s_PageText (xP : Page) : Option (ByteArray × Bool) :=
 (s_PageOk xP).bind fun v1 =>
 bif (!v1) then (some ((bs []), false))
 else ((s_l06Byte xP.Kind).bind fun v2 =>
 (s_l01Var xP.Seq).bind fun v3 =>
 (cat v2 v3).bind fun x1 =>
 (s_l01Var xP.Tx).bind fun v4 =>
 (cat x1 v4).bind fun x2 =>
 (s_l01Var xP.Part).bind fun v5 =>
 (cat x2 v5).bind fun x3 =>
 (s_l01Var xP.Count).bind fun v6 =>
 (cat x3 v6).bind fun x4 =>
 (cat x4 xP.Text).bind fun x5 =>
 (s_Sealed x5).bind fun v7 =>
 some (v7.1, v7.2))
def s_ReadPage (xT : ByteArray) : Option (Page × Bool) :=
 (s_Unsealed xT).bind fun v1 =>
 (bif (!v1.2) then (some true)
 else (some (decide ((sln v1.1) < 1))) : Option (Bool)).bind fun j1 =>
 (s_l06Var (l06Cur.mk v1.1 1 j1)).bind fun v2 =>
 (s_l06Var v2.2).bind fun v3 =>
 (s_l06Var v3.2).bind fun v4 =>
 (s_l06Var v4.2).bind fun v5 =>
 bif v5.2.bad_ then (some ((Page.mk 0 0 0 0 0 (bs [])), false))
 else ((sx v1.1 0).bind fun x1 =>
 (sub v1.1 v5.2.at_ (sln v1.1)).bind fun x2 =>
 (s_PageText (Page.mk (IntKind.i64.wrap x1) v2.1 v3.1 v4.1 v5.1 x2)).bind fun v6 =>
 (bif (!v6.2) then (some true)
 else (some (!(seq v6.1 xT))) : Option (Bool)).bind fun j2 =>
 bif j2 then (some ((Page.mk 0 0 0 0 0 (bs [])), false))
 else (some ((Page.mk (IntKind.i64.wrap x1) v2.1 v3.1 v4.1 v5.1 x2), true)))
def s_ScanAll_b2 (xF : Flash) (yB1 : Int) (yOut2 : List Found) (yK1 : Int) : Option ((List Found × Int) ⊕ (List Found)) :=
 (gi xF.Blocks yB1).bind fun x1 =>
 bif (decide (yK1 < (ln x1.Leaves))) then ((s_ReadLeaf xF yB1 yK1).bind fun v1 =>
 (s_ReadPage v1.1).bind fun v2 =>
 (bif v1.2 then (some v2.2)
 else (some false) : Option (Bool)).bind fun j1 =>
 bif j1 then ((ap 72 yOut2 [(Found.mk yB1 yK1 v2.1)]).bind fun q1 =>
 some (.inl (q1, (ad yK1 1))))
 else (some (.inl (yOut2, (ad yK1 1)))))
 else (some (.inr yOut2))
def s_ScanAll_b1 (xF : Flash) (yOut1 : List Found) (yB1 : Int) : Option ((List Found × Int) ⊕ (List Found)) :=
 bif (decide (yB1 < (ln xF.Blocks))) then ((loopO (fun s : List Found × Int => s_ScanAll_b2 xF yB1 s.1 s.2) (yOut1, 0)).bind fun v3 =>
 some (.inl (v3, (ad yB1 1))))
 else (some (.inr yOut1))
def s_ScanAll_b4 (yOut4 : List Found) (yK2 : Int) : Option ((List Found × Int) ⊕ (List Found)) :=
 (bif (decide (yK2 > 0)) then ((gi yOut4 (sb yK2 1)).bind fun x2 =>
 (gi yOut4 yK2).bind fun x3 =>
 some (decide (x2.Page.Seq > x3.Page.Seq)))
 else (some false) : Option (Bool)).bind fun j2 =>
 bif j2 then ((gi yOut4 yK2).bind fun x4 =>
 (gi yOut4 (sb yK2 1)).bind fun x5 =>
 (gi yOut4 yK2).bind fun x6 =>
 (gi (si yOut4 yK2 x5) (sb yK2 1)).bind fun x7 =>
 some (.inl ((si (si yOut4 yK2 x5) (sb yK2 1) x4), (sb yK2 1))))
 else (some (.inr yOut4))
def s_ScanAll_b3 (yOut3 : List Found) (yI1 : Int) : Option ((List Found × Int) ⊕ (List Found)) :=
 bif (decide (yI1 < (ln yOut3))) then ((loopO (fun s : List Found × Int => s_ScanAll_b4 s.1 s.2) (yOut3, yI1)).bind fun v5 =>
 some (.inl (v5, (ad yI1 1))))
 else (some (.inr yOut3))
def s_ScanAll (xF : Flash) : Option (List Found) :=
 (loopO (fun s : List Found × Int => s_ScanAll_b1 xF s.1 s.2) ([], 0)).bind fun v4 =>
 (loopO (fun s : List Found × Int => s_ScanAll_b3 s.1 s.2) (v4, 1)).bind fun v6 =>
 some v6
def s_ArenaOk_b2 (xA : Arena) (yI1 : Int) (x1 : Knot) (yK1 : Int) : Option ((Int) ⊕ ((Unit) ⊕ ((Int) ⊕ ((Unit) ⊕ (Bool))))) :=
 bif (decide (yK1 < 4)) then ((gi x1.Kids yK1).bind fun x2 =>
 (bif x1.Leaf then (bif (decide (x2 < 0)) then (some true)
 else (bif (!x1.Leaf) then (bif (x2 != (-1)) then ((s_l01In x2 0 (sb yI1 1)).bind fun v1 =>
 bif (!v1) then (some true)
 else ((gi xA.Knots x2).bind fun x3 =>
 some (!x3.Leaf)))
 else (some false))
 else (some false)))
 else (bif (!x1.Leaf) then (bif (x2 != (-1)) then ((s_l01In x2 0 (sb yI1 1)).bind fun v2 =>
 bif (!v2) then (some true)
 else ((gi xA.Knots x2).bind fun x4 =>
 some (!x4.Leaf)))
 else (some false))
 else (some false)) : Option (Bool)).bind fun j1 =>
 bif j1 then (some (.inr (.inr (.inr (.inr false)))))
 else (some (.inl (ad yK1 1))))
 else (some (.inr (.inl ())))
def s_ArenaOk_b1 (xA : Arena) (yI1 : Int) : Option ((Int) ⊕ ((Unit) ⊕ (Bool))) :=
 bif (decide (yI1 < (ln xA.Knots))) then ((gi xA.Knots yI1).bind fun x1 =>
 bif ((ln x1.Kids) != 4) then (some (.inr (.inr false)))
 else ((loopO (fun s : Int => s_ArenaOk_b2 xA yI1 x1 s) 0).bind (Sum.elim (fun v3 => (some (.inl (ad yI1 1)))) some)))
 else (some (.inr (.inl ())))
def s_ArenaOk (xA : Arena) : Option (Bool) :=
 (loopO (fun s : Int => s_ArenaOk_b1 xA s) 0).bind (Sum.elim (fun v4 => (some true)) some)
def s_l11Root (xA : Arena) (xRoot : Int) : Option (Bool) :=
 bif (xRoot == (-1)) then (some true)
 else ((s_l01In xRoot 0 (sb (ln xA.Knots) 1)).bind fun v1 =>
 bif v1 then ((gi xA.Knots xRoot).bind fun x1 =>
 some (!x1.Leaf))
 else (some false))
def s_l11Get (xA : Arena) (xRoot : Int) (xSector : Int) : Option (Int) :=
 bif (decide (xRoot < 0)) then (some 0)
 else ((gi xA.Knots xRoot).bind fun x1 =>
 (gi x1.Kids (qu xSector 4)).bind fun x2 =>
 bif (decide (x2 < 0)) then (some 0)
 else ((gi xA.Knots x2).bind fun x3 =>
 (gi x3.Kids (Int.tmod xSector 4)).bind fun x4 =>
 some x4))
def s_GetAt (xA : Arena) (xRoot : Int) (xSector : Int) : Option (Int) :=
 ((s_ArenaOk xA).bind fun v1 =>
 bif (!v1) then (some true)
 else ((s_l11Root xA xRoot).bind fun v2 =>
 bif (!v2) then (some true)
 else ((s_l01In xSector 0 15).bind fun v3 =>
 some (!v3))) : Option (Bool)).bind fun j1 =>
 bif j1 then (some 0)
 else ((s_l11Get xA xRoot xSector).bind fun v4 =>
 some v4)
def s_AllAt_b1 (xA : Arena) (xRoot : Int) (yOut1 : List Int) (yS1 : Int) : Option ((List Int × Int) ⊕ (List Int)) :=
 bif (decide (yS1 < 16)) then ((s_GetAt xA xRoot yS1).bind fun v1 =>
 (ap 8 yOut1 [v1]).bind fun q1 =>
 some (.inl (q1, (ad yS1 1))))
 else (some (.inr yOut1))
def s_AllAt (xA : Arena) (xRoot : Int) : Option (List Int) :=
 (loopO (fun s : List Int × Int => s_AllAt_b1 xA xRoot s.1 s.2) ([], 0)).bind fun v2 =>
 some v2
def s_l12Insert_b1 (xList : List Int) (xX : Int) (yOut1 : List Int) (yI1 : Int) : Option ((List Int × Int) ⊕ (List Int)) :=
 bif (decide (yI1 < (ln xList))) then ((gi xList yI1).bind fun x1 =>
 bif (decide (x1 < xX)) then ((gi xList yI1).bind fun x2 =>
 (ap 8 yOut1 [x2]).bind fun q1 =>
 some (.inl (q1, (ad yI1 1))))
 else (some (.inl (yOut1, (ad yI1 1)))))
 else (some (.inr yOut1))
def s_l12Insert_b2 (xList : List Int) (xX : Int) (yOut2 : List Int) (yI2 : Int) : Option ((List Int × Int) ⊕ (List Int)) :=
 bif (decide (yI2 < (ln xList))) then ((gi xList yI2).bind fun x3 =>
 bif (decide (x3 > xX)) then ((gi xList yI2).bind fun x4 =>
 (ap 8 yOut2 [x4]).bind fun q3 =>
 some (.inl (q3, (ad yI2 1))))
 else (some (.inl (yOut2, (ad yI2 1)))))
 else (some (.inr yOut2))
def s_l12Insert (xList : List Int) (xX : Int) : Option (List Int) :=
 (loopO (fun s : List Int × Int => s_l12Insert_b1 xList xX s.1 s.2) ([], 0)).bind fun v1 =>
 (bif (decide (xX > 0)) then ((ap 8 v1 [xX]).bind fun q2 =>
 some q2)
 else (some v1) : Option (List Int)).bind fun j1 =>
 (loopO (fun s : List Int × Int => s_l12Insert_b2 xList xX s.1 s.2) (j1, 0)).bind fun v2 =>
 some v2
def s_LiveOf_b2 (v1 : List Int) (yOut2 : List Int) (yK1 : Int) : Option ((List Int × Int) ⊕ (List Int)) :=
 bif (decide (yK1 < (ln v1))) then ((gi v1 yK1).bind fun x2 =>
 (s_l12Insert yOut2 x2).bind fun v2 =>
 some (.inl (v2, (ad yK1 1))))
 else (some (.inr yOut2))
def s_LiveOf_b1 (xS : Store) (yOut1 : List Int) (yI1 : Int) : Option ((List Int × Int) ⊕ (List Int)) :=
 bif (decide (yI1 < (ln xS.Vols))) then ((gi xS.Vols yI1).bind fun x1 =>
 (s_AllAt xS.Arena x1.Root).bind fun v1 =>
 (loopO (fun s : List Int × Int => s_LiveOf_b2 v1 s.1 s.2) (yOut1, 0)).bind fun v3 =>
 some (.inl (v3, (ad yI1 1))))
 else (some (.inr yOut1))
def s_LiveOf (xS : Store) : Option (List Int) :=
 (loopO (fun s : List Int × Int => s_LiveOf_b1 xS s.1 s.2) ([], 0)).bind fun v4 =>
 some v4
def s_l13Needed_b1 (xList : List Found) (xBase : Int) (yOut1 : List Bool) (yI1 : Int) : Option ((List Bool × Int) ⊕ (List Bool)) :=
 bif (decide (yI1 < (ln xList))) then ((gi xList yI1).bind fun x1 =>
 bif (x1.Page.Kind == 2) then ((gi xList yI1).bind fun x2 =>
 (gi yOut1 yI1).bind fun x3 =>
 some (.inl ((si yOut1 yI1 (decide (x2.Page.Tx ≥ xBase))), (ad yI1 1))))
 else ((gi yOut1 yI1).bind fun x4 =>
 some (.inl ((si yOut1 yI1 false), (ad yI1 1)))))
 else (some (.inr yOut1))
def s_l13Needed_b3 (xList : List Found) (xLive : List Int) (yK1 : Int) (yOut3 : List Bool) (yI2 : Int) : Option ((List Bool × Int) ⊕ (List Bool)) :=
 bif (decide (yI2 ≥ 0)) then (((gi xList yI2).bind fun x5 =>
 bif (x5.Page.Kind == 1) then ((gi xList yI2).bind fun x6 =>
 (gi xLive yK1).bind fun x7 =>
 some (x6.Page.Tx == x7))
 else (some false) : Option (Bool)).bind fun j1 =>
 bif j1 then ((gi yOut3 yI2).bind fun x8 =>
 some (.inl ((si yOut3 yI2 true), (sb (-1) 1))))
 else (some (.inl (yOut3, (sb yI2 1)))))
 else (some (.inr yOut3))
def s_l13Needed_b2 (xList : List Found) (xLive : List Int) (yOut2 : List Bool) (yK1 : Int) : Option ((List Bool × Int) ⊕ (List Bool)) :=
 bif (decide (yK1 < (ln xLive))) then ((loopO (fun s : List Bool × Int => s_l13Needed_b3 xList xLive yK1 s.1 s.2) (yOut2, (sb (ln xList) 1))).bind fun v2 =>
 some (.inl (v2, (ad yK1 1))))
 else (some (.inr yOut2))
def s_l13Needed (xList : List Found) (xLive : List Int) (xBase : Int) : Option (List Bool) :=
 (mk 1 false (ln xList)).bind fun q1 =>
 (loopO (fun s : List Bool × Int => s_l13Needed_b1 xList xBase s.1 s.2) (q1, 0)).bind fun v1 =>
 (loopO (fun s : List Bool × Int => s_l13Needed_b2 xList xLive s.1 s.2) (v1, 0)).bind fun v3 =>
 some v3
def s_l17Blank_b1 (xB : Block) (yK1 : Int) : Option ((Int) ⊕ ((Unit) ⊕ (Bool))) :=
 bif (decide (yK1 < (ln xB.Leaves))) then ((gi xB.Leaves yK1).bind fun x1 =>
 bif (x1.Is != 0) then (some (.inr (.inr false)))
 else (some (.inl (ad yK1 1))))
 else (some (.inr (.inl ())))
def s_l17Blank (xB : Block) : Option (Bool) :=
 (loopO (fun s : Int => s_l17Blank_b1 xB s) 0).bind (Sum.elim (fun v1 => (some true)) some)
def s_l13On_b1 (xList : List Found) (xNeeded : List Bool) (xB : Int) (yN1 : Int) (yI1 : Int) : Option ((Int × Int) ⊕ (Int)) :=
 bif (decide (yI1 < (ln xList))) then ((gi xNeeded yI1).bind fun x1 =>
 bif x1 then ((gi xList yI1).bind fun x2 =>
 bif (x2.Block == xB) then (some (.inl ((ad yN1 1), (ad yI1 1))))
 else (some (.inl (yN1, (ad yI1 1)))))
 else (some (.inl (yN1, (ad yI1 1)))))
 else (some (.inr yN1))
def s_l13On (xList : List Found) (xNeeded : List Bool) (xB : Int) : Option (Int) :=
 (loopO (fun s : Int × Int => s_l13On_b1 xList xNeeded xB s.1 s.2) (0, 0)).bind fun v1 =>
 some v1
def s_DeadBlocks_b1 (xD : Device) (v1 : List Found) (v3 : List Bool) (yOut1 : List Int) (yB1 : Int) : Option ((List Int × Int) ⊕ (List Int)) :=
 bif (decide (yB1 < (ln xD.Flash.Blocks))) then ((gi xD.Flash.Blocks yB1).bind fun x1 =>
 (bif (!x1.Bad) then ((s_l17Blank x1).bind fun v4 =>
 bif (!v4) then ((s_l13On v1 v3 yB1).bind fun v5 =>
 some (v5 == 0))
 else (some false))
 else (some false) : Option (Bool)).bind fun j1 =>
 bif j1 then ((ap 8 yOut1 [yB1]).bind fun q1 =>
 some (.inl (q1, (ad yB1 1))))
 else (some (.inl (yOut1, (ad yB1 1)))))
 else (some (.inr yOut1))
def s_DeadBlocks (xD : Device) : Option (List Int) :=
 (s_ScanAll xD.Flash).bind fun v1 =>
 (s_LiveOf xD.Store).bind fun v2 =>
 (s_l13Needed v1 v2 xD.Base).bind fun v3 =>
 (loopO (fun s : List Int × Int => s_DeadBlocks_b1 xD v1 v3 s.1 s.2) ([], 0)).bind fun v6 =>
 some v6
def i_blanks_b1 (xB : Block) (yN1 : Int) (y1 : Int) : Option ((Int × Int) ⊕ (Int)) :=
 bif (decide (y1 < (ln xB.Leaves))) then ((gi xB.Leaves y1).bind fun x1 =>
 bif (x1.Is == 0) then (some (.inl ((ad yN1 1), (ad y1 1))))
 else (some (.inl (yN1, (ad y1 1)))))
 else (some (.inr yN1))
def i_blanks (xB : Block) : Option (Int) :=
 (loopO (fun s : Int × Int => i_blanks_b1 xB s.1 s.2) (0, 0)).bind fun v1 =>
 some v1
def i_in (xN : Int) (xLow : Int) (xHigh : Int) : Option (Bool) :=
 bif (decide (xN ≥ xLow)) then (some (decide (xN ≤ xHigh)))
 else (some false)
def i_isRoot (xA : Arena) (xRoot : Int) : Option (Bool) :=
 (i_in xRoot 0 (sb (ln xA.Knots) 1)).bind fun v1 =>
 bif v1 then ((gi xA.Knots xRoot).bind fun x1 =>
 some (!x1.Leaf))
 else (some false)
def i_ArenaOk_b2 (xA : Arena) (y1 : Int) (x1 : Knot) (y2 : Int) : Option ((Int) ⊕ ((Unit) ⊕ ((Int) ⊕ ((Unit) ⊕ (Bool))))) :=
 bif (decide (y2 < (ln x1.Kids))) then ((gi x1.Kids y2).bind fun x2 =>
 (bif x1.Leaf then (bif (decide (x2 < 0)) then (some true)
 else (bif (!x1.Leaf) then (bif (x2 != (-1)) then ((i_in x2 0 (sb y1 1)).bind fun v1 =>
 bif (!v1) then (some true)
 else ((gi xA.Knots x2).bind fun x3 =>
 some (!x3.Leaf)))
 else (some false))
 else (some false)))
 else (bif (!x1.Leaf) then (bif (x2 != (-1)) then ((i_in x2 0 (sb y1 1)).bind fun v2 =>
 bif (!v2) then (some true)
 else ((gi xA.Knots x2).bind fun x4 =>
 some (!x4.Leaf)))
 else (some false))
 else (some false)) : Option (Bool)).bind fun j1 =>
 bif j1 then (some (.inr (.inr (.inr (.inr false)))))
 else (some (.inl (ad y2 1))))
 else (some (.inr (.inl ())))
def i_ArenaOk_b1 (xA : Arena) (y1 : Int) : Option ((Int) ⊕ ((Unit) ⊕ (Bool))) :=
 bif (decide (y1 < (ln xA.Knots))) then ((gi xA.Knots y1).bind fun x1 =>
 bif ((ln x1.Kids) != 4) then (some (.inr (.inr false)))
 else ((loopO (fun s : Int => i_ArenaOk_b2 xA y1 x1 s) 0).bind (Sum.elim (fun v3 => (some (.inl (ad y1 1)))) some)))
 else (some (.inr (.inl ())))
def i_ArenaOk (xA : Arena) : Option (Bool) :=
 (loopO (fun s : Int => i_ArenaOk_b1 xA s) 0).bind (Sum.elim (fun v4 => (some true)) some)
def i_numberAt (xA : Arena) (xRoot : Int) (xSector : Int) : Option (Int) :=
 (gi xA.Knots xRoot).bind fun x1 =>
 (gi x1.Kids (qu xSector 4)).bind fun x2 =>
 bif (decide (x2 < 0)) then (some 0)
 else ((gi xA.Knots x2).bind fun x3 =>
 (gi x3.Kids (Int.tmod xSector 4)).bind fun x4 =>
 some x4)
def i_GetAt (xA : Arena) (xRoot : Int) (xSector : Int) : Option (Int) :=
 ((i_in xSector 0 15).bind fun v1 =>
 bif (!v1) then (some true)
 else ((i_isRoot xA xRoot).bind fun v2 =>
 bif (!v2) then (some true)
 else ((i_ArenaOk xA).bind fun v3 =>
 some (!v3))) : Option (Bool)).bind fun j1 =>
 bif j1 then (some 0)
 else ((i_numberAt xA xRoot xSector).bind fun v4 =>
 some v4)
def i_AllAt_b1 (xA : Arena) (xRoot : Int) (yOut1 : List Int) (y1 : Int) : Option ((List Int × Int) ⊕ (List Int)) :=
 bif (decide (y1 < 16)) then ((i_GetAt xA xRoot y1).bind fun v1 =>
 (ap 8 yOut1 [v1]).bind fun q1 =>
 some (.inl (q1, (ad y1 1))))
 else (some (.inr yOut1))
def i_AllAt (xA : Arena) (xRoot : Int) : Option (List Int) :=
 (loopO (fun s : List Int × Int => i_AllAt_b1 xA xRoot s.1 s.2) ([], 0)).bind fun v2 =>
 some v2
def i_chunksOf_b2 (v1 : List Int) (yOut2 : List Int) (y2 : Int) : Option ((List Int × Int) ⊕ (List Int)) :=
 bif (decide (y2 < (ln v1))) then ((gi v1 y2).bind fun x2 =>
 bif (decide (x2 > 0)) then ((ap 8 yOut2 [x2]).bind fun q1 =>
 some (.inl (q1, (ad y2 1))))
 else (some (.inl (yOut2, (ad y2 1)))))
 else (some (.inr yOut2))
def i_chunksOf_b1 (xS : Store) (yOut1 : List Int) (y1 : Int) : Option ((List Int × Int) ⊕ (List Int)) :=
 bif (decide (y1 < (ln xS.Vols))) then ((gi xS.Vols y1).bind fun x1 =>
 (i_AllAt xS.Arena x1.Root).bind fun v1 =>
 (loopO (fun s : List Int × Int => i_chunksOf_b2 v1 s.1 s.2) (yOut1, 0)).bind fun v2 =>
 some (.inl (v2, (ad y1 1))))
 else (some (.inr yOut1))
def i_chunksOf (xS : Store) : Option (List Int) :=
 (loopO (fun s : List Int × Int => i_chunksOf_b1 xS s.1 s.2) ([], 0)).bind fun v3 =>
 some v3
def i_LiveOf_b1 (v2 : List Int) (yOut1 : List Int) (y1 : Int) : Option ((List Int × Int) ⊕ (List Int)) :=
 bif (decide (y1 < (ln v2))) then ((gi v2 y1).bind fun x1 =>
 (bif (y1 == 0) then (some true)
 else ((gi v2 (sb y1 1)).bind fun x2 =>
 some (x2 != x1)) : Option (Bool)).bind fun j1 =>
 bif j1 then ((ap 8 yOut1 [x1]).bind fun q1 =>
 some (.inl (q1, (ad y1 1))))
 else (some (.inl (yOut1, (ad y1 1)))))
 else (some (.inr yOut1))
def i_LiveOf (xS : Store) : Option (List Int) :=
 (i_chunksOf xS).bind fun v1 =>
 (sortI v1).bind fun v2 =>
 (loopO (fun s : List Int × Int => i_LiveOf_b1 v2 s.1 s.2) ([], 0)).bind fun v3 =>
 some v3
def i_SumMore_b2 (ySum2 : Int) (y1 : Int) : Option ((Int × Int) ⊕ (Int)) :=
 bif (decide (y1 < 8)) then (bif ((an ySum2 1) == 1) then (some (.inl ((xr (Int.fdiv ySum2 (2 ^ (min (1 : Int).toNat IntKind.u32.bits))) 3558460437), (ad y1 1))))
 else (some (.inl ((Int.fdiv ySum2 (2 ^ (min (1 : Int).toNat IntKind.u32.bits))), (ad y1 1)))))
 else (some (.inr ySum2))
def i_SumMore_b1 (xText : ByteArray) (ySum1 : Int) (yI1 : Int) : Option ((Int × Int) ⊕ (Int)) :=
 bif (decide (yI1 < (sln xText))) then ((sx xText yI1).bind fun x1 =>
 (loopO (fun s : Int × Int => i_SumMore_b2 s.1 s.2) ((xr ySum1 (IntKind.u32.wrap x1)), 0)).bind fun v1 =>
 some (.inl (v1, (ad yI1 1))))
 else (some (.inr ySum1))
def i_SumMore (xSum : Int) (xText : ByteArray) : Option (Int) :=
 (loopO (fun s : Int × Int => i_SumMore_b1 xText s.1 s.2) (xSum, 0)).bind fun v2 =>
 some v2
def i_SumOf (xText : ByteArray) : Option (Int) :=
 (i_SumMore 4294967295 xText).bind fun v1 =>
 some v1
def i_Sealed (xText : ByteArray) : Option (ByteArray × Bool) :=
 bif (decide ((sln xText) > 20000)) then (some ((bs []), false))
 else ((i_SumOf xText).bind fun v1 =>
 (cat xText (strB [(IntKind.u8.wrap (Int.fdiv v1 (2 ^ (min (24 : Int).toNat IntKind.u32.bits)))), (IntKind.u8.wrap (Int.fdiv v1 (2 ^ (min (16 : Int).toNat IntKind.u32.bits)))), (IntKind.u8.wrap (Int.fdiv v1 (2 ^ (min (8 : Int).toNat IntKind.u32.bits)))), (IntKind.u8.wrap v1)])).bind fun x1 =>
 some (x1, true))
def i_Unsealed (xText : ByteArray) : Option (ByteArray × Bool) :=
 bif (decide ((sln xText) < 4)) then (some ((bs []), false))
 else ((sub xText 0 (sb (sln xText) 4)).bind fun x1 =>
 (i_Sealed x1).bind fun v1 =>
 (bif (!v1.2) then (some true)
 else (some (!(seq v1.1 xText))) : Option (Bool)).bind fun j1 =>
 bif j1 then (some ((bs []), false))
 else (some (x1, true)))
def i_ReadVar_b1 (xText : ByteArray) (xAt : Int) (yN1 : Int) (yK1 : Int) : Option ((Int × Int) ⊕ ((Unit) ⊕ ((Int × Int × Bool)))) :=
 (bif (decide (yK1 < 5)) then (bif (decide (xAt ≥ 0)) then (some (decide (xAt < (sb (sln xText) yK1))))
 else (some false))
 else (some false) : Option (Bool)).bind fun j1 =>
 bif j1 then ((sx xText (ad xAt yK1)).bind fun x1 =>
 (shl .i64 (Int.tmod (IntKind.i64.wrap x1) 128) (ml 7 yK1)).bind fun x2 =>
 bif (decide ((IntKind.i64.wrap x1) ≥ 128)) then (some (.inl ((ad yN1 x2), (ad yK1 1))))
 else ((bif ((IntKind.i64.wrap x1) == 0) then (bif (decide (yK1 > 0)) then (some true)
 else (some (decide ((ad yN1 x2) > 1000000000))))
 else (some (decide ((ad yN1 x2) > 1000000000))) : Option (Bool)).bind fun j2 =>
 bif j2 then (some (.inr (.inr (0, 0, false))))
 else (some (.inr (.inr ((ad yN1 x2), (ad (ad xAt yK1) 1), true))))))
 else (some (.inr (.inl ())))
def i_ReadVar (xText : ByteArray) (xAt : Int) : Option (Int × Int × Bool) :=
 (loopO (fun s : Int × Int => i_ReadVar_b1 xText xAt s.1 s.2) (0, 0)).bind (Sum.elim (fun v1 => (some (0, 0, false))) some)
def i_PageOk (xP : Page) : Option (Bool) :=
 ((i_in xP.Seq 1 1000000000).bind fun v1 =>
 bif (!v1) then (some true)
 else ((i_in xP.Tx 1 1000000000).bind fun v2 =>
 bif (!v2) then (some true)
 else ((i_in xP.Count 1 9).bind fun v3 =>
 bif (!v3) then (some true)
 else ((i_in xP.Part 0 (sb xP.Count 1)).bind fun v4 =>
 bif (!v4) then (some true)
 else (some (decide ((sln xP.Text) > 90)))))) : Option (Bool)).bind fun j1 =>
 bif j1 then (some false)
 else (bif (xP.Kind == 2) then (some true)
 else (bif (xP.Kind == 1) then (some (xP.Count == 1))
 else (some false)))
def i_ReadPage_b1 (v1 : ByteArray × Bool) (yAt1 : Int) (y1 : Int) (yL01 : Int) (yL11 : Int) (yL21 : Int) (yL31 : Int) : Option ((Int × Int × Int × Int × Int × Int) ⊕ ((Int × Int × Int × Int × Int) ⊕ ((Page × Bool)))) :=
 bif (decide (y1 < 4)) then ((i_ReadVar v1.1 yAt1).bind fun v2 =>
 bif (!v2.2.2) then (some (.inr (.inr ((Page.mk 0 0 0 0 0 (bs [])), false))))
 else (bif (y1 == 0) then (some (.inl (v2.2.1, (ad y1 1), v2.1, yL11, yL21, yL31)))
 else (bif (y1 == 1) then (some (.inl (v2.2.1, (ad y1 1), yL01, v2.1, yL21, yL31)))
 else (bif (y1 == 2) then (some (.inl (v2.2.1, (ad y1 1), yL01, yL11, v2.1, yL31)))
 else (bif (y1 == 3) then (some (.inl (v2.2.1, (ad y1 1), yL01, yL11, yL21, v2.1)))
 else none)))))
 else (some (.inr (.inl (yAt1, yL01, yL11, yL21, yL31))))
def i_ReadPage (xT : ByteArray) : Option (Page × Bool) :=
 (i_Unsealed xT).bind fun v1 =>
 (bif (!v1.2) then (some true)
 else (some (seq v1.1 (bs []))) : Option (Bool)).bind fun j1 =>
 bif j1 then (some ((Page.mk 0 0 0 0 0 (bs [])), false))
 else ((loopO (fun s : Int × Int × Int × Int × Int × Int => i_ReadPage_b1 v1 s.1 s.2.1 s.2.2.1 s.2.2.2.1 s.2.2.2.2.1 s.2.2.2.2.2) (1, 0, 0, 0, 0, 0)).bind (Sum.elim (fun v3 => ((sx v1.1 0).bind fun x1 =>
 (sub v1.1 v3.1 (sln v1.1)).bind fun x2 =>
 (i_PageOk (Page.mk (IntKind.i64.wrap x1) v3.2.1 v3.2.2.1 v3.2.2.2.1 v3.2.2.2.2 x2)).bind fun v4 =>
 bif (!v4) then (some ((Page.mk 0 0 0 0 0 (bs [])), false))
 else (some ((Page.mk (IntKind.i64.wrap x1) v3.2.1 v3.2.2.1 v3.2.2.2.1 v3.2.2.2.2 x2), true)))) some))
def i_ScanAll_1 (x : Found) : Int := x.Page.Seq
def i_ScanAll_b2 (y1 : Int) (x1 : Block) (y2 : Int) (yOut02 : List Found) : Option ((Int × List Found) ⊕ (List Found)) :=
 bif (decide (y2 < (ln x1.Leaves))) then ((gi x1.Leaves y2).bind fun x2 =>
 (i_ReadPage x2.Text).bind fun v1 =>
 (bif v1.2 then (some (x2.Is == 1))
 else (some false) : Option (Bool)).bind fun j1 =>
 bif j1 then ((ap 72 yOut02 [(Found.mk y1 y2 v1.1)]).bind fun q1 =>
 some (.inl ((ad y2 1), q1)))
 else (some (.inl ((ad y2 1), yOut02))))
 else (some (.inr yOut02))
def i_ScanAll_b1 (xF : Flash) (y1 : Int) (yOut01 : List Found) : Option ((Int × List Found) ⊕ (List Found)) :=
 bif (decide (y1 < (ln xF.Blocks))) then ((gi xF.Blocks y1).bind fun x1 =>
 (loopO (fun s : Int × List Found => i_ScanAll_b2 y1 x1 s.1 s.2) (0, yOut01)).bind fun v2 =>
 some (.inl ((ad y1 1), v2)))
 else (some (.inr yOut01))
def i_ScanAll (xF : Flash) : Option (List Found) :=
 (loopO (fun s : Int × List Found => i_ScanAll_b1 xF s.1 s.2) (0, [])).bind fun v3 =>
 (sort_stable_func (ltk i_ScanAll_1) v3 (ln v3)).bind fun v4 =>
 some v4
def i_dataOf_b1 (xChunk : Int) (v1 : List Found) (yOk1 : Bool) (y1 : Int) (yBest01 : Int) (yBest11 : Int) (yBest21 : Int) (yBest31 : Int) (yBest41 : Int) (yBest51 : Int) (yBest61 : Int) (yBest71 : ByteArray) : Option ((Bool × Int × Int × Int × Int × Int × Int × Int × Int × ByteArray) ⊕ (Bool × Int × Int × Int × Int × Int × Int × Int × ByteArray)) :=
 bif (decide (y1 < (ln v1))) then ((gi v1 y1).bind fun x1 =>
 (bif (x1.Page.Kind == 1) then (bif (x1.Page.Tx == xChunk) then (bif (!yOk1) then (some true)
 else (some (decide (x1.Page.Seq ≥ yBest31))))
 else (some false))
 else (some false) : Option (Bool)).bind fun j1 =>
 bif j1 then (some (.inl (true, (ad y1 1), x1.Block, x1.Leaf, x1.Page.Kind, x1.Page.Seq, x1.Page.Tx, x1.Page.Part, x1.Page.Count, x1.Page.Text)))
 else (some (.inl (yOk1, (ad y1 1), yBest01, yBest11, yBest21, yBest31, yBest41, yBest51, yBest61, yBest71))))
 else (some (.inr (yOk1, yBest01, yBest11, yBest21, yBest31, yBest41, yBest51, yBest61, yBest71)))
def i_dataOf (xF : Flash) (xChunk : Int) : Option (Found × Bool) :=
 (i_ScanAll xF).bind fun v1 =>
 (loopO (fun s : Bool × Int × Int × Int × Int × Int × Int × Int × Int × ByteArray => i_dataOf_b1 xChunk v1 s.1 s.2.1 s.2.2.1 s.2.2.2.1 s.2.2.2.2.1 s.2.2.2.2.2.1 s.2.2.2.2.2.2.1 s.2.2.2.2.2.2.2.1 s.2.2.2.2.2.2.2.2.1 s.2.2.2.2.2.2.2.2.2) (false, 0, 0, 0, 0, 0, 0, 0, 0, (bs []))).bind fun v2 =>
 some ((Found.mk v2.2.1 v2.2.2.1 (Page.mk v2.2.2.2.1 v2.2.2.2.2.1 v2.2.2.2.2.2.1 v2.2.2.2.2.2.2.1 v2.2.2.2.2.2.2.2.1 v2.2.2.2.2.2.2.2.2)), v2.1)
def i_spots_b1 (xF : Flash) (xB : Int) (v1 : List Int) (yOut1 : List Found) (y1 : Int) : Option ((List Found × Int) ⊕ (List Found)) :=
 bif (decide (y1 < (ln v1))) then ((gi v1 y1).bind fun x1 =>
 (i_dataOf xF x1).bind fun v2 =>
 (bif v2.2 then (some (v2.1.Block == xB))
 else (some false) : Option (Bool)).bind fun j1 =>
 bif j1 then ((ap 72 yOut1 [v2.1]).bind fun q1 =>
 some (.inl (q1, (ad y1 1))))
 else (some (.inl (yOut1, (ad y1 1)))))
 else (some (.inr yOut1))
def i_spots (xF : Flash) (xS : Store) (xB : Int) : Option (List Found) :=
 (i_LiveOf xS).bind fun v1 =>
 (loopO (fun s : List Found × Int => i_spots_b1 xF xB v1 s.1 s.2) ([], 0)).bind fun v3 =>
 some v3
def i_NeededOn_b1 (xBase : Int) (xB : Int) (v2 : List Found) (yN1 : Int) (y1 : Int) : Option ((Int × Int) ⊕ (Int)) :=
 bif (decide (y1 < (ln v2))) then ((gi v2 y1).bind fun x1 =>
 (bif (x1.Block == xB) then (bif (x1.Page.Kind == 2) then (some (decide (x1.Page.Tx ≥ xBase)))
 else (some false))
 else (some false) : Option (Bool)).bind fun j1 =>
 bif j1 then (some (.inl ((ad yN1 1), (ad y1 1))))
 else (some (.inl (yN1, (ad y1 1)))))
 else (some (.inr yN1))
def i_NeededOn (xF : Flash) (xS : Store) (xBase : Int) (xB : Int) : Option (Int) :=
 (i_spots xF xS xB).bind fun v1 =>
 (i_ScanAll xF).bind fun v2 =>
 (loopO (fun s : Int × Int => i_NeededOn_b1 xBase xB v2 s.1 s.2) ((ln v1), 0)).bind fun v3 =>
 some v3
def i_DeadBlocks_b1 (xD : Device) (yOut1 : List Int) (y1 : Int) : Option ((List Int × Int) ⊕ (List Int)) :=
 bif (decide (y1 < (ln xD.Flash.Blocks))) then ((gi xD.Flash.Blocks y1).bind fun x1 =>
 (bif (!x1.Bad) then ((i_blanks x1).bind fun v1 =>
 bif (decide (v1 < (ln x1.Leaves))) then ((i_NeededOn xD.Flash xD.Store xD.Base y1).bind fun v2 =>
 some (v2 == 0))
 else (some false))
 else (some false) : Option (Bool)).bind fun j1 =>
 bif j1 then ((ap 8 yOut1 [y1]).bind fun q1 =>
 some (.inl (q1, (ad y1 1))))
 else (some (.inl (yOut1, (ad y1 1)))))
 else (some (.inr yOut1))
def i_DeadBlocks (xD : Device) : Option (List Int) :=
 (loopO (fun s : List Int × Int => i_DeadBlocks_b1 xD s.1 s.2) ([], 0)).bind fun v3 =>
 some v3
def w_eqIntS_b1 (xA : List Int) (xB : List Int) (yI1 : Int) : Option ((Int) ⊕ ((Unit) ⊕ (Bool))) :=
 bif (decide (yI1 < (ln xA))) then ((gi xA yI1).bind fun x1 =>
 (gi xB yI1).bind fun x2 =>
 bif (x1 != x2) then (some (.inr (.inr false)))
 else (some (.inl (ad yI1 1))))
 else (some (.inr (.inl ())))
def w_eqIntS (xA : List Int) (xB : List Int) : Option (Bool) :=
 bif ((ln xA) != (ln xB)) then (some false)
 else ((loopO (fun s : Int => w_eqIntS_b1 xA xB s) 0).bind (Sum.elim (fun v1 => (some true)) some))
def w_eqLeaf (xA : Leaf) (xB : Leaf) : Option (Bool) :=
 bif (xA.Is != xB.Is) then (some false)
 else (bif (!(seq xA.Text xB.Text)) then (some false)
 else (some true))
def w_eqLeafS_b1 (xA : List Leaf) (xB : List Leaf) (yI1 : Int) : Option ((Int) ⊕ ((Unit) ⊕ (Bool))) :=
 bif (decide (yI1 < (ln xA))) then ((gi xA yI1).bind fun x1 =>
 (gi xB yI1).bind fun x2 =>
 (w_eqLeaf x1 x2).bind fun v1 =>
 bif (!v1) then (some (.inr (.inr false)))
 else (some (.inl (ad yI1 1))))
 else (some (.inr (.inl ())))
def w_eqLeafS (xA : List Leaf) (xB : List Leaf) : Option (Bool) :=
 bif ((ln xA) != (ln xB)) then (some false)
 else ((loopO (fun s : Int => w_eqLeafS_b1 xA xB s) 0).bind (Sum.elim (fun v2 => (some true)) some))
def w_eqBlock (xA : Block) (xB : Block) : Option (Bool) :=
 bif (!(xA.Bad == xB.Bad)) then (some false)
 else (bif (xA.Wear != xB.Wear) then (some false)
 else ((w_eqLeafS xA.Leaves xB.Leaves).bind fun v1 =>
 bif (!v1) then (some false)
 else (some true)))
def w_eqBlockS_b1 (xA : List Block) (xB : List Block) (yI1 : Int) : Option ((Int) ⊕ ((Unit) ⊕ (Bool))) :=
 bif (decide (yI1 < (ln xA))) then ((gi xA yI1).bind fun x1 =>
 (gi xB yI1).bind fun x2 =>
 (w_eqBlock x1 x2).bind fun v1 =>
 bif (!v1) then (some (.inr (.inr false)))
 else (some (.inl (ad yI1 1))))
 else (some (.inr (.inl ())))
def w_eqBlockS (xA : List Block) (xB : List Block) : Option (Bool) :=
 bif ((ln xA) != (ln xB)) then (some false)
 else ((loopO (fun s : Int => w_eqBlockS_b1 xA xB s) 0).bind (Sum.elim (fun v2 => (some true)) some))
def w_eqFlash (xA : Flash) (xB : Flash) : Option (Bool) :=
 (w_eqBlockS xA.Blocks xB.Blocks).bind fun v1 =>
 bif (!v1) then (some false)
 else (some true)
def w_eqVol (xA : Vol) (xB : Vol) : Option (Bool) :=
 bif (xA.Id != xB.Id) then (some false)
 else (bif (xA.Root != xB.Root) then (some false)
 else (some true))
def w_eqVolS_b1 (xA : List Vol) (xB : List Vol) (yI1 : Int) : Option ((Int) ⊕ ((Unit) ⊕ (Bool))) :=
 bif (decide (yI1 < (ln xA))) then ((gi xA yI1).bind fun x1 =>
 (gi xB yI1).bind fun x2 =>
 (w_eqVol x1 x2).bind fun v1 =>
 bif (!v1) then (some (.inr (.inr false)))
 else (some (.inl (ad yI1 1))))
 else (some (.inr (.inl ())))
def w_eqVolS (xA : List Vol) (xB : List Vol) : Option (Bool) :=
 bif ((ln xA) != (ln xB)) then (some false)
 else ((loopO (fun s : Int => w_eqVolS_b1 xA xB s) 0).bind (Sum.elim (fun v2 => (some true)) some))
def w_eqKnot (xA : Knot) (xB : Knot) : Option (Bool) :=
 bif (!(xA.Leaf == xB.Leaf)) then (some false)
 else ((w_eqIntS xA.Kids xB.Kids).bind fun v1 =>
 bif (!v1) then (some false)
 else (some true))
def w_eqKnotS_b1 (xA : List Knot) (xB : List Knot) (yI1 : Int) : Option ((Int) ⊕ ((Unit) ⊕ (Bool))) :=
 bif (decide (yI1 < (ln xA))) then ((gi xA yI1).bind fun x1 =>
 (gi xB yI1).bind fun x2 =>
 (w_eqKnot x1 x2).bind fun v1 =>
 bif (!v1) then (some (.inr (.inr false)))
 else (some (.inl (ad yI1 1))))
 else (some (.inr (.inl ())))
def w_eqKnotS (xA : List Knot) (xB : List Knot) : Option (Bool) :=
 bif ((ln xA) != (ln xB)) then (some false)
 else ((loopO (fun s : Int => w_eqKnotS_b1 xA xB s) 0).bind (Sum.elim (fun v2 => (some true)) some))
def w_eqArena (xA : Arena) (xB : Arena) : Option (Bool) :=
 (w_eqKnotS xA.Knots xB.Knots).bind fun v1 =>
 bif (!v1) then (some false)
 else (some true)
def w_eqStore (xA : Store) (xB : Store) : Option (Bool) :=
 (w_eqVolS xA.Vols xB.Vols).bind fun v1 =>
 bif (!v1) then (some false)
 else ((w_eqArena xA.Arena xB.Arena).bind fun v2 =>
 bif (!v2) then (some false)
 else (bif (xA.Next != xB.Next) then (some false)
 else (some true)))
def w_eqDevice (xA : Device) (xB : Device) : Option (Bool) :=
 (w_eqFlash xA.Flash xB.Flash).bind fun v1 =>
 bif (!v1) then (some false)
 else ((w_eqStore xA.Store xB.Store).bind fun v2 =>
 bif (!v2) then (some false)
 else (bif (xA.Seq != xB.Seq) then (some false)
 else (bif (xA.Tx != xB.Tx) then (some false)
 else (bif (xA.Base != xB.Base) then (some false)
 else (some true)))))
def w_markText_b1 (yK1 : Int) (yOut1 : ByteArray) : Option ((Int × ByteArray) ⊕ (ByteArray)) :=
 bif (decide (yK1 > 0)) then ((cat (strB [(IntKind.u8.wrap (ad 48 (Int.tmod yK1 10)))]) yOut1).bind fun x1 =>
 some (.inl ((qu yK1 10), x1)))
 else (some (.inr yOut1))
def w_markText (xK : Int) : Option (ByteArray) :=
 bif (decide (xK ≤ 0)) then (some (bs [109, 48]))
 else ((loopO (fun s : Int × ByteArray => w_markText_b1 s.1 s.2) (xK, (bs []))).bind fun v1 =>
 (cat (bs [109]) v1).bind fun x2 =>
 some x2)
def w_markLeafS_b1 (yA1 : List Leaf) (yK1 : Int) (yI1 : Int) : Option ((List Leaf × Int × Int) ⊕ (List Leaf × Int)) :=
 bif (decide (yI1 < (ln yA1))) then ((gi yA1 yI1).bind fun x1 =>
 (w_markText (ad yK1 1)).bind fun v1 =>
 (gi (si yA1 yI1 (Leaf.mk yK1 x1.Text)) yI1).bind fun x2 =>
 some (.inl ((si (si yA1 yI1 (Leaf.mk yK1 x1.Text)) yI1 (Leaf.mk x2.Is v1)), (ad (ad yK1 1) 1), (ad yI1 1))))
 else (some (.inr (yA1, yK1)))
def w_markLeafS (xA : List Leaf) (xK : Int) : Option (Int × List Leaf) :=
 (loopO (fun s : List Leaf × Int × Int => w_markLeafS_b1 s.1 s.2.1 s.2.2) (xA, xK, 0)).bind fun v2 =>
 some (v2.2, v2.1)
def w_markBlockS_b1 (yA1 : List Block) (yK1 : Int) (yI1 : Int) : Option ((List Block × Int × Int) ⊕ (List Block × Int)) :=
 bif (decide (yI1 < (ln yA1))) then ((gi yA1 yI1).bind fun x1 =>
 (gi (si yA1 yI1 (Block.mk ((Int.tmod yK1 3) == 0) x1.Wear x1.Leaves)) yI1).bind fun x2 =>
 (gi (si (si yA1 yI1 (Block.mk ((Int.tmod yK1 3) == 0) x1.Wear x1.Leaves)) yI1 (Block.mk x2.Bad (ad yK1 1) x2.Leaves)) yI1).bind fun x3 =>
 (w_markLeafS x3.Leaves (ad (ad yK1 1) 1)).bind fun v1 =>
 some (.inl ((si (si (si yA1 yI1 (Block.mk ((Int.tmod yK1 3) == 0) x1.Wear x1.Leaves)) yI1 (Block.mk x2.Bad (ad yK1 1) x2.Leaves)) yI1 (Block.mk x3.Bad x3.Wear v1.2)), v1.1, (ad yI1 1))))
 else (some (.inr (yA1, yK1)))
def w_markBlockS (xA : List Block) (xK : Int) : Option (Int × List Block) :=
 (loopO (fun s : List Block × Int × Int => w_markBlockS_b1 s.1 s.2.1 s.2.2) (xA, xK, 0)).bind fun v2 =>
 some (v2.2, v2.1)
def w_markFlash (xA : Flash) (xK : Int) : Option (Int) :=
 (w_markBlockS xA.Blocks xK).bind fun v1 =>
 some v1.1
def w_markVolS_b1 (yA1 : List Vol) (yK1 : Int) (yI1 : Int) : Option ((List Vol × Int × Int) ⊕ (List Vol × Int)) :=
 bif (decide (yI1 < (ln yA1))) then ((gi yA1 yI1).bind fun x1 =>
 (gi (si yA1 yI1 (Vol.mk yK1 x1.Root)) yI1).bind fun x2 =>
 some (.inl ((si (si yA1 yI1 (Vol.mk yK1 x1.Root)) yI1 (Vol.mk x2.Id (ad yK1 1))), (ad (ad yK1 1) 1), (ad yI1 1))))
 else (some (.inr (yA1, yK1)))
def w_markVolS (xA : List Vol) (xK : Int) : Option (Int × List Vol) :=
 (loopO (fun s : List Vol × Int × Int => w_markVolS_b1 s.1 s.2.1 s.2.2) (xA, xK, 0)).bind fun v1 =>
 some (v1.2, v1.1)
def w_markIntS_b1 (yA1 : List Int) (yK1 : Int) (yI1 : Int) : Option ((List Int × Int × Int) ⊕ (List Int × Int)) :=
 bif (decide (yI1 < (ln yA1))) then ((gi yA1 yI1).bind fun x1 =>
 some (.inl ((si yA1 yI1 yK1), (ad yK1 1), (ad yI1 1))))
 else (some (.inr (yA1, yK1)))
def w_markIntS (xA : List Int) (xK : Int) : Option (Int × List Int) :=
 (loopO (fun s : List Int × Int × Int => w_markIntS_b1 s.1 s.2.1 s.2.2) (xA, xK, 0)).bind fun v1 =>
 some (v1.2, v1.1)
def w_markKnotS_b1 (yA1 : List Knot) (yK1 : Int) (yI1 : Int) : Option ((List Knot × Int × Int) ⊕ (List Knot × Int)) :=
 bif (decide (yI1 < (ln yA1))) then ((gi yA1 yI1).bind fun x1 =>
 (gi (si yA1 yI1 (Knot.mk ((Int.tmod yK1 3) == 0) x1.Kids)) yI1).bind fun x2 =>
 (w_markIntS x2.Kids (ad yK1 1)).bind fun v1 =>
 some (.inl ((si (si yA1 yI1 (Knot.mk ((Int.tmod yK1 3) == 0) x1.Kids)) yI1 (Knot.mk x2.Leaf v1.2)), v1.1, (ad yI1 1))))
 else (some (.inr (yA1, yK1)))
def w_markKnotS (xA : List Knot) (xK : Int) : Option (Int × List Knot) :=
 (loopO (fun s : List Knot × Int × Int => w_markKnotS_b1 s.1 s.2.1 s.2.2) (xA, xK, 0)).bind fun v2 =>
 some (v2.2, v2.1)
def w_markArena (xA : Arena) (xK : Int) : Option (Int) :=
 (w_markKnotS xA.Knots xK).bind fun v1 =>
 some v1.1
def w_markStore (xA : Store) (xK : Int) : Option (Int) :=
 (w_markVolS xA.Vols xK).bind fun v1 =>
 (w_markArena xA.Arena v1.1).bind fun v2 =>
 some v2
def w_markDevice (xA : Device) (xK : Int) : Option (Int) :=
 (w_markFlash xA.Flash xK).bind fun v1 =>
 (w_markStore xA.Store v1).bind fun v2 =>
 some v2
def w_heldIntS_b1 (xA : List Int) (yK1 : Int) (yI1 : Int) : Option ((Int × Int) ⊕ ((Int) ⊕ (Int))) :=
 bif (decide (yI1 < (ln xA))) then ((gi xA yI1).bind fun x1 =>
 bif (x1 != yK1) then (some (.inr (.inr (-1))))
 else (some (.inl ((ad yK1 1), (ad yI1 1)))))
 else (some (.inr (.inl yK1)))
def w_heldIntS (xA : List Int) (xK : Int) : Option (Int) :=
 (loopO (fun s : Int × Int => w_heldIntS_b1 xA s.1 s.2) (xK, 0)).bind (Sum.elim (fun v1 => (some v1)) some)
def w_FnExactDeadBlocks (xAD : Device) : Option (Bool) :=
 (w_szDevice xAD 1048576).bind fun v1 =>
 bif (decide (v1 < 0)) then (some true)
 else ((w_toDevice xAD).bind fun v2 =>
 (s_DeadBlocks v2).bind fun v3 =>
 (w_toDevice xAD).bind fun v4 =>
 (i_DeadBlocks v4).bind fun v5 =>
 (w_eqIntS v5 v3).bind fun v6 =>
 bif (!v6) then (some false)
 else ((w_toDevice xAD).bind fun v7 =>
 (w_eqDevice v4 v7).bind fun v8 =>
 bif (!v8) then (some false)
 else ((w_markDevice v4 1).bind fun v9 =>
 (bif (decide (v9 < 0)) then (some true)
 else ((w_eqIntS v5 v3).bind fun v10 =>
 some (!v10)) : Option (Bool)).bind fun j1 =>
 bif j1 then (some false)
 else ((w_markIntS v5 1).bind fun v11 =>
 (w_heldIntS v11.2 1).bind fun v12 =>
 bif (decide (v12 < 0)) then (some false)
 else (bif (v12 != v11.1) then (some false)
 else ((w_toDevice xAD).bind fun v13 =>
 (i_DeadBlocks v13).bind fun v14 =>
 (w_eqIntS v14 v3).bind fun v15 =>
 bif (!v15) then (some false)
 else ((w_heldIntS v11.2 1).bind fun v16 =>
 bif (decide (v16 < 0)) then (some false)
 else (bif (v16 != v11.1) then (some false)
 else (some true)))))))))
end
end Go.TI
