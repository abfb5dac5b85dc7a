/- What functions of the given program compute. No condition. -/
import Derived.Test.YtdppikmniniaiaaSOA
namespace Go.TI
open Go
set_option linter.unusedVariables false
noncomputable section

structure Leaf where
  Is : Int
  Text : ByteArray

structure Block where
  Bad : Bool
  Wear : Int
  Leaves : List Leaf

structure Flash where
  Blocks : List Block

structure Vol where
  Id : Int
  Root : Int

structure Knot where
  Leaf : Bool
  Kids : List Int

structure Arena where
  Knots : List Knot

structure Store where
  Vols : List Vol
  Arena : Arena
  Next : Int

structure Device where
  Flash : Flash
  Store : Store
  Seq : Int
  Tx : Int
  Base : Int

structure l06Cur where
  text_ : ByteArray
  at_ : Int
  bad_ : Bool

structure Page where
  Kind : Int
  Seq : Int
  Tx : Int
  Part : Int
  Count : Int
  Text : ByteArray

structure Found where
  Block : Int
  Leaf : Int
  Page : Page


def oLeaf (x : Leaf) : Prop := oI x.Is ∧ oS x.Text
def oBlock (x : Block) : Prop := oB x.Bad ∧ oI x.Wear ∧ (ol oLeaf) x.Leaves
def oFlash (x : Flash) : Prop := (ol oBlock) x.Blocks
def oVol (x : Vol) : Prop := oI x.Id ∧ oI x.Root
def oKnot (x : Knot) : Prop := oB x.Leaf ∧ (ol oI) x.Kids
def oArena (x : Arena) : Prop := (ol oKnot) x.Knots
def oStore (x : Store) : Prop := (ol oVol) x.Vols ∧ oArena x.Arena ∧ oI x.Next
def oDevice (x : Device) : Prop := oFlash x.Flash ∧ oStore x.Store ∧ oI x.Seq ∧ oI x.Tx ∧ oI x.Base

/-- laws.szLeaf -/
def w_szLeaf (xA : Leaf) (xLeft : Int) : Option (Int) :=
 bif (decide ((sb xLeft (sln xA.Text)) < 0)) then (some (-1))
 else (some (sb xLeft (sln xA.Text)))
/-- laws.szLeafS -/
def w_szLeafS_b1 (xA : List Leaf) (yLeft1 : Int) (yI1 : Int) : Option ((Int × Int) ⊕ ((Int) ⊕ (Int))) :=
 bif (decide (yI1 < (ln xA))) then ((gi xA yI1).bind fun x1 =>
 (w_szLeaf x1 yLeft1).bind fun v1 =>
 bif (decide (v1 < 0)) then (some (.inr (.inr (-1))))
 else (some (.inl (v1, (ad yI1 1)))))
 else (some (.inr (.inl yLeft1)))
def w_szLeafS (xA : List Leaf) (xLeft : Int) : Option (Int) :=
 bif (decide ((sb xLeft (ln xA)) < 0)) then (some (-1))
 else ((loopO (fun s : Int × Int => w_szLeafS_b1 xA s.1 s.2) ((sb xLeft (ln xA)), 0)).bind (Sum.elim (fun v2 => (some v2)) some))
/-- laws.szBlock -/
def w_szBlock (xA : Block) (xLeft : Int) : Option (Int) :=
 (w_szLeafS xA.Leaves xLeft).bind fun v1 =>
 bif (decide (v1 < 0)) then (some (-1))
 else (some v1)
/-- laws.szBlockS -/
def w_szBlockS_b1 (xA : List Block) (yLeft1 : Int) (yI1 : Int) : Option ((Int × Int) ⊕ ((Int) ⊕ (Int))) :=
 bif (decide (yI1 < (ln xA))) then ((gi xA yI1).bind fun x1 =>
 (w_szBlock x1 yLeft1).bind fun v1 =>
 bif (decide (v1 < 0)) then (some (.inr (.inr (-1))))
 else (some (.inl (v1, (ad yI1 1)))))
 else (some (.inr (.inl yLeft1)))
def w_szBlockS (xA : List Block) (xLeft : Int) : Option (Int) :=
 bif (decide ((sb xLeft (ln xA)) < 0)) then (some (-1))
 else ((loopO (fun s : Int × Int => w_szBlockS_b1 xA s.1 s.2) ((sb xLeft (ln xA)), 0)).bind (Sum.elim (fun v2 => (some v2)) some))
/-- laws.szFlash -/
def w_szFlash (xA : Flash) (xLeft : Int) : Option (Int) :=
 (w_szBlockS xA.Blocks xLeft).bind fun v1 =>
 bif (decide (v1 < 0)) then (some (-1))
 else (some v1)
/-- laws.szVolS -/
def w_szVolS (xA : List Vol) (xLeft : Int) : Option (Int) :=
 bif (decide ((sb xLeft (ln xA)) < 0)) then (some (-1))
 else (some (sb xLeft (ln xA)))
/-- laws.szIntS -/
def w_szIntS (xA : List Int) (xLeft : Int) : Option (Int) :=
 bif (decide ((sb xLeft (ln xA)) < 0)) then (some (-1))
 else (some (sb xLeft (ln xA)))
/-- laws.szKnot -/
def w_szKnot (xA : Knot) (xLeft : Int) : Option (Int) :=
 (w_szIntS xA.Kids xLeft).bind fun v1 =>
 bif (decide (v1 < 0)) then (some (-1))
 else (some v1)
/-- laws.szKnotS -/
def w_szKnotS_b1 (xA : List Knot) (yLeft1 : Int) (yI1 : Int) : Option ((Int × Int) ⊕ ((Int) ⊕ (Int))) :=
 bif (decide (yI1 < (ln xA))) then ((gi xA yI1).bind fun x1 =>
 (w_szKnot x1 yLeft1).bind fun v1 =>
 bif (decide (v1 < 0)) then (some (.inr (.inr (-1))))
 else (some (.inl (v1, (ad yI1 1)))))
 else (some (.inr (.inl yLeft1)))
def w_szKnotS (xA : List Knot) (xLeft : Int) : Option (Int) :=
 bif (decide ((sb xLeft (ln xA)) < 0)) then (some (-1))
 else ((loopO (fun s : Int × Int => w_szKnotS_b1 xA s.1 s.2) ((sb xLeft (ln xA)), 0)).bind (Sum.elim (fun v2 => (some v2)) some))
/-- laws.szArena -/
def w_szArena (xA : Arena) (xLeft : Int) : Option (Int) :=
 (w_szKnotS xA.Knots xLeft).bind fun v1 =>
 bif (decide (v1 < 0)) then (some (-1))
 else (some v1)
/-- laws.szStore -/
def w_szStore (xA : Store) (xLeft : Int) : Option (Int) :=
 (w_szVolS xA.Vols xLeft).bind fun v1 =>
 bif (decide (v1 < 0)) then (some (-1))
 else ((w_szArena xA.Arena v1).bind fun v2 =>
 bif (decide (v2 < 0)) then (some (-1))
 else (some v2))
/-- laws.szDevice -/
def w_szDevice (xA : Device) (xLeft : Int) : Option (Int) :=
 (w_szFlash xA.Flash xLeft).bind fun v1 =>
 bif (decide (v1 < 0)) then (some (-1))
 else ((w_szStore xA.Store v1).bind fun v2 =>
 bif (decide (v2 < 0)) then (some (-1))
 else (some v2))
/-- laws.toLeaf -/
def w_toLeaf (xA : Leaf) : Option (Leaf) :=
 some xA
/-- laws.toLeafS -/
def w_toLeafS_b1 (xA : List Leaf) (yOut1 : List Leaf) (yI1 : Int) : Option ((List Leaf × Int) ⊕ (List Leaf)) :=
 bif (decide (yI1 < (ln xA))) then ((gi xA yI1).bind fun x1 =>
 (w_toLeaf x1).bind fun v1 =>
 (gi yOut1 yI1).bind fun x2 =>
 some (.inl ((si yOut1 yI1 v1), (ad yI1 1))))
 else (some (.inr yOut1))
def w_toLeafS (xA : List Leaf) : Option (List Leaf) :=
 (mk 24 (Leaf.mk 0 (bs [])) (ln xA)).bind fun c1 =>
 (loopO (fun s : List Leaf × Int => w_toLeafS_b1 xA s.1 s.2) (c1, 0)).bind fun v2 =>
 some v2
/-- laws.toBlock -/
def w_toBlock (xA : Block) : Option (Block) :=
 (w_toLeafS xA.Leaves).bind fun v1 =>
 some (Block.mk xA.Bad xA.Wear v1)
/-- laws.toBlockS -/
def w_toBlockS_b1 (xA : List Block) (yOut1 : List Block) (yI1 : Int) : Option ((List Block × Int) ⊕ (List Block)) :=
 bif (decide (yI1 < (ln xA))) then ((gi xA yI1).bind fun x1 =>
 (w_toBlock x1).bind fun v1 =>
 (gi yOut1 yI1).bind fun x2 =>
 some (.inl ((si yOut1 yI1 v1), (ad yI1 1))))
 else (some (.inr yOut1))
def w_toBlockS (xA : List Block) : Option (List Block) :=
 (mk 40 (Block.mk false 0 []) (ln xA)).bind fun c1 =>
 (loopO (fun s : List Block × Int => w_toBlockS_b1 xA s.1 s.2) (c1, 0)).bind fun v2 =>
 some v2
/-- laws.toFlash -/
def w_toFlash (xA : Flash) : Option (Flash) :=
 (w_toBlockS xA.Blocks).bind fun v1 =>
 some (Flash.mk v1)
/-- laws.toVol -/
def w_toVol (xA : Vol) : Option (Vol) :=
 some xA
/-- laws.toVolS -/
def w_toVolS_b1 (xA : List Vol) (yOut1 : List Vol) (yI1 : Int) : Option ((List Vol × Int) ⊕ (List Vol)) :=
 bif (decide (yI1 < (ln xA))) then ((gi xA yI1).bind fun x1 =>
 (w_toVol x1).bind fun v1 =>
 (gi yOut1 yI1).bind fun x2 =>
 some (.inl ((si yOut1 yI1 v1), (ad yI1 1))))
 else (some (.inr yOut1))
def w_toVolS (xA : List Vol) : Option (List Vol) :=
 (mk 16 (Vol.mk 0 0) (ln xA)).bind fun c1 =>
 (loopO (fun s : List Vol × Int => w_toVolS_b1 xA s.1 s.2) (c1, 0)).bind fun v2 =>
 some v2
/-- laws.toIntS -/
def w_toIntS_b1 (xA : List Int) (yOut1 : List Int) (yI1 : Int) : Option ((List Int × Int) ⊕ (List Int)) :=
 bif (decide (yI1 < (ln xA))) then ((gi xA yI1).bind fun x1 =>
 (gi yOut1 yI1).bind fun x2 =>
 some (.inl ((si yOut1 yI1 x1), (ad yI1 1))))
 else (some (.inr yOut1))
def w_toIntS (xA : List Int) : Option (List Int) :=
 (mk 8 0 (ln xA)).bind fun c1 =>
 (loopO (fun s : List Int × Int => w_toIntS_b1 xA s.1 s.2) (c1, 0)).bind fun v1 =>
 some v1
/-- laws.toKnot -/
def w_toKnot (xA : Knot) : Option (Knot) :=
 (w_toIntS xA.Kids).bind fun v1 =>
 some (Knot.mk xA.Leaf v1)
/-- laws.toKnotS -/
def w_toKnotS_b1 (xA : List Knot) (yOut1 : List Knot) (yI1 : Int) : Option ((List Knot × Int) ⊕ (List Knot)) :=
 bif (decide (yI1 < (ln xA))) then ((gi xA yI1).bind fun x1 =>
 (w_toKnot x1).bind fun v1 =>
 (gi yOut1 yI1).bind fun x2 =>
 some (.inl ((si yOut1 yI1 v1), (ad yI1 1))))
 else (some (.inr yOut1))
def w_toKnotS (xA : List Knot) : Option (List Knot) :=
 (mk 32 (Knot.mk false []) (ln xA)).bind fun c1 =>
 (loopO (fun s : List Knot × Int => w_toKnotS_b1 xA s.1 s.2) (c1, 0)).bind fun v2 =>
 some v2
/-- laws.toArena -/
def w_toArena (xA : Arena) : Option (Arena) :=
 (w_toKnotS xA.Knots).bind fun v1 =>
 some (Arena.mk v1)
/-- laws.toStore -/
def w_toStore (xA : Store) : Option (Store) :=
 (w_toVolS xA.Vols).bind fun v1 =>
 (w_toArena xA.Arena).bind fun v2 =>
 some (Store.mk v1 v2 xA.Next)
/-- laws.toDevice -/
def w_toDevice (xA : Device) : Option (Device) :=
 (w_toFlash xA.Flash).bind fun v1 =>
 (w_toStore xA.Store).bind fun v2 =>
 some (Device.mk v1 v2 xA.Seq xA.Tx xA.Base)
/-- spec.l01In -/
def s_l01In (xX : Int) (xLeast : Int) (xMost : Int) : Option (Bool) :=
 bif (decide (xX ≥ xLeast)) then (some (decide (xX ≤ xMost)))
 else (some false)
/-- spec.RoomOf -/
def s_RoomOf_b2 (xF : Flash) (yB1 : Int) (yN2 : Int) (yK1 : Int) : Option ((Int × Int) ⊕ (Int)) :=
 (gi xF.Blocks yB1).bind fun x1 =>
 bif (decide (yK1 < (ln x1.Leaves))) then ((gi xF.Blocks yB1).bind fun x2 =>
 bif (!x2.Bad) then ((gi xF.Blocks yB1).bind fun x3 =>
 (gi x3.Leaves yK1).bind fun x4 =>
 bif (x4.Is == 0) then (some (.inl ((ad yN2 1), (ad yK1 1))))
 else (some (.inl (yN2, (ad yK1 1)))))
 else (some (.inl (yN2, (ad yK1 1)))))
 else (some (.inr yN2))
def s_RoomOf_b1 (xF : Flash) (yN1 : Int) (yB1 : Int) : Option ((Int × Int) ⊕ (Int)) :=
 bif (decide (yB1 < (ln xF.Blocks))) then ((loopO (fun s : Int × Int => s_RoomOf_b2 xF yB1 s.1 s.2) (yN1, 0)).bind fun v1 =>
 some (.inl (v1, (ad yB1 1))))
 else (some (.inr yN1))
def s_RoomOf (xF : Flash) : Option (Int) :=
 (loopO (fun s : Int × Int => s_RoomOf_b1 xF s.1 s.2) (0, 0)).bind fun v2 =>
 some v2
/-- spec.ReadLeaf -/
def s_ReadLeaf (xF : Flash) (xB : Int) (xLeaf : Int) : Option (ByteArray × Bool) :=
 ((s_l01In xB 0 (sb (ln xF.Blocks) 1)).bind fun v1 =>
 bif (!v1) then (some true)
 else ((gi xF.Blocks xB).bind fun x1 =>
 (s_l01In xLeaf 0 (sb (ln x1.Leaves) 1)).bind fun v2 =>
 bif (!v2) then (some true)
 else ((gi xF.Blocks xB).bind fun x2 =>
 (gi x2.Leaves xLeaf).bind fun x3 =>
 some (x3.Is != 1))) : Option (Bool)).bind fun j1 =>
 bif j1 then (some ((bs []), false))
 else ((gi xF.Blocks xB).bind fun x4 =>
 (gi x4.Leaves xLeaf).bind fun x5 =>
 some (x5.Text, true))
/-- spec.SumMore -/
def s_SumMore_b2 (ySum2 : Int) (yK1 : Int) : Option ((Int × Int) ⊕ (Int)) :=
 bif (decide (yK1 < 8)) then (bif ((Int.tmod ySum2 2) == 1) then (some (.inl ((xr (IntKind.u32.wrap (Int.tdiv ySum2 2)) 3558460437), (ad yK1 1))))
 else (some (.inl ((IntKind.u32.wrap (Int.tdiv ySum2 2)), (ad yK1 1)))))
 else (some (.inr ySum2))
def s_SumMore_b1 (xText : ByteArray) (ySum1 : Int) (yI1 : Int) : Option ((Int × Int) ⊕ (Int)) :=
 bif (decide (yI1 < (sln xText))) then ((sx xText yI1).bind fun x1 =>
 (loopO (fun s : Int × Int => s_SumMore_b2 s.1 s.2) ((xr ySum1 (IntKind.u32.wrap x1)), 0)).bind fun v1 =>
 some (.inl (v1, (ad yI1 1))))
 else (some (.inr ySum1))
def s_SumMore (xSum : Int) (xText : ByteArray) : Option (Int) :=
 (loopO (fun s : Int × Int => s_SumMore_b1 xText s.1 s.2) (xSum, 0)).bind fun v2 =>
 some v2
/-- spec.SumOf -/
def s_SumOf (xText : ByteArray) : Option (Int) :=
 (s_SumMore 4294967295 xText).bind fun v1 =>
 some v1
/-- spec.l02Four -/
def s_l02Four (xX : Int) : Option (ByteArray) :=
 some (strB [(IntKind.u8.wrap (Int.fdiv xX (2 ^ (min (24 : Int).toNat IntKind.u32.bits)))), (IntKind.u8.wrap (Int.fdiv xX (2 ^ (min (16 : Int).toNat IntKind.u32.bits)))), (IntKind.u8.wrap (Int.fdiv xX (2 ^ (min (8 : Int).toNat IntKind.u32.bits)))), (IntKind.u8.wrap xX)])
/-- spec.Unsealed -/
def s_Unsealed (xText : ByteArray) : Option (ByteArray × Bool) :=
 (bif (decide ((sb (sln xText) 4) < 0)) then (some true)
 else (bif (decide ((sb (sln xText) 4) > 20000)) then (some true)
 else ((sub xText (sb (sln xText) 4) (sln xText)).bind fun x1 =>
 (sub xText 0 (sb (sln xText) 4)).bind fun x2 =>
 (s_SumOf x2).bind fun v1 =>
 (s_l02Four v1).bind fun v2 =>
 some (!(seq x1 v2)))) : Option (Bool)).bind fun j1 =>
 bif j1 then (some ((bs []), false))
 else ((sub xText 0 (sb (sln xText) 4)).bind fun x3 =>
 some (x3, true))
/-- spec.l01Var -/
def s_l01Var_b1 (yN1 : Int) (yOut1 : List Int) : Option ((Int × List Int) ⊕ (Int × List Int)) :=
 bif (decide (yN1 > 127)) then ((ap 1 yOut1 [(IntKind.u8.wrap (ad (Int.tmod yN1 128) 128))]).bind fun c1 =>
 some (.inl ((qu yN1 128), c1)))
 else (some (.inr (yN1, yOut1)))
def s_l01Var (xN : Int) : Option (ByteArray) :=
 (loopO (fun s : Int × List Int => s_l01Var_b1 s.1 s.2) (xN, [])).bind fun v1 =>
 (ap 1 v1.2 [(IntKind.u8.wrap v1.1)]).bind fun c2 =>
 some (strB c2)
/-- spec.ReadVar -/
def s_ReadVar_b1 (xText : ByteArray) (xAt : Int) (yN1 : Int) (yScale1 : Int) (yI1 : Int) : Option ((Int × Int × Int) ⊕ ((Unit) ⊕ ((Int × Int × Bool)))) :=
 (bif (decide (yI1 < (sln xText))) then (some (decide (yI1 < (ad xAt 5))))
 else (some false) : Option (Bool)).bind fun j1 =>
 bif j1 then ((sx xText yI1).bind fun x1 =>
 (sx xText yI1).bind fun x2 =>
 bif (decide (x2 < 128)) then ((bif (decide ((ad yN1 (ml (Int.tmod (IntKind.i64.wrap x1) 128) yScale1)) > 1000000000)) then (some true)
 else ((sub xText xAt (ad yI1 1)).bind fun x3 =>
 (s_l01Var (ad yN1 (ml (Int.tmod (IntKind.i64.wrap x1) 128) yScale1))).bind fun v2 =>
 some (!(seq v2 x3))) : Option (Bool)).bind fun j2 =>
 bif j2 then (some (.inr (.inr (0, 0, false))))
 else (some (.inr (.inr ((ad yN1 (ml (Int.tmod (IntKind.i64.wrap x1) 128) yScale1)), (ad yI1 1), true)))))
 else (some (.inl ((ad yN1 (ml (Int.tmod (IntKind.i64.wrap x1) 128) yScale1)), (ml yScale1 128), (ad yI1 1)))))
 else (some (.inr (.inl ())))
def s_ReadVar (xText : ByteArray) (xAt : Int) : Option (Int × Int × Bool) :=
 (s_l01In xAt 0 (sln xText)).bind fun v1 =>
 bif (!v1) then (some (0, 0, false))
 else ((loopO (fun s : Int × Int × Int => s_ReadVar_b1 xText xAt s.1 s.2.1 s.2.2) (0, 1, xAt)).bind (Sum.elim (fun v3 => (some (0, 0, false))) some))
/-- spec.l06Var -/
def s_l06Var (xC : l06Cur) : Option (Int × l06Cur) :=
 ((s_ReadVar xC.text_ xC.at_).bind fun v1 =>
 some (v1.1, v1.2.1, v1.2.2) : Option (Int × Int × Bool)).bind fun j1 =>
 (bif xC.bad_ then (some true)
 else (some (!j1.2.2)) : Option (Bool)).bind fun j2 =>
 bif j2 then (some (0, (l06Cur.mk xC.text_ xC.at_ true)))
 else (some (j1.1, (l06Cur.mk xC.text_ j1.2.1 xC.bad_)))
/-- spec.PageOk -/
def s_PageOk (xP : Page) : Option (Bool) :=
 ((s_l01In xP.Kind 1 2).bind fun v1 =>
 bif (!v1) then (some true)
 else ((s_l01In xP.Seq 1 1000000000).bind fun v2 =>
 bif (!v2) then (some true)
 else ((s_l01In xP.Tx 1 1000000000).bind fun v3 =>
 bif (!v3) then (some true)
 else ((s_l01In xP.Count 1 9).bind fun v4 =>
 bif (!v4) then (some true)
 else ((s_l01In xP.Part 0 (sb xP.Count 1)).bind fun v5 =>
 bif (!v5) then (some true)
 else (some (decide ((sln xP.Text) > 90))))))) : Option (Bool)).bind fun j1 =>
 bif j1 then (some false)
 else (bif (xP.Kind == 2) then (some true)
 else (some (xP.Count == 1)))
/-- spec.l06Byte -/
def s_l06Byte (xN : Int) : Option (ByteArray) :=
 some (strB [(IntKind.u8.wrap xN)])
/-- spec.Sealed -/
def s_Sealed (xText : ByteArray) : Option (ByteArray × Bool) :=
 bif (decide ((sln xText) > 20000)) then (some ((bs []), false))
 else ((s_SumOf xText).bind fun v1 =>
 (s_l02Four v1).bind fun v2 =>
 (cat xText v2).bind fun x1 =>
 some (x1, true))
/-- spec.PageText -/
def s_PageText (xP : Page) : Option (ByteArray × Bool) :=
 (s_PageOk xP).bind fun v1 =>
 bif (!v1) then (some ((bs []), false))
 else ((s_l06Byte xP.Kind).bind fun v2 =>
 (s_l01Var xP.Seq).bind fun v3 =>
 (cat v2 v3).bind fun x1 =>
 (s_l01Var xP.Tx).bind fun v4 =>
 (cat x1 v4).bind fun x2 =>
 (s_l01Var xP.Part).bind fun v5 =>
 (cat x2 v5).bind fun x3 =>
 (s_l01Var xP.Count).bind fun v6 =>
 (cat x3 v6).bind fun x4 =>
 (cat x4 xP.Text).bind fun x5 =>
 (s_Sealed x5).bind fun v7 =>
 some (v7.1, v7.2))
/-- spec.ReadPage -/
def s_ReadPage (xT : ByteArray) : Option (Page × Bool) :=
 (s_Unsealed xT).bind fun v1 =>
 (bif (!v1.2) then (some true)
 else (some (decide ((sln v1.1) < 1))) : Option (Bool)).bind fun j1 =>
 (s_l06Var (l06Cur.mk v1.1 1 j1)).bind fun v2 =>
 (s_l06Var v2.2).bind fun v3 =>
 (s_l06Var v3.2).bind fun v4 =>
 (s_l06Var v4.2).bind fun v5 =>
 bif v5.2.bad_ then (some ((Page.mk 0 0 0 0 0 (bs [])), false))
 else ((sx v1.1 0).bind fun x1 =>
 (sub v1.1 v5.2.at_ (sln v1.1)).bind fun x2 =>
 (s_PageText (Page.mk (IntKind.i64.wrap x1) v2.1 v3.1 v4.1 v5.1 x2)).bind fun v6 =>
 (bif (!v6.2) then (some true)
 else (some (!(seq v6.1 xT))) : Option (Bool)).bind fun j2 =>
 bif j2 then (some ((Page.mk 0 0 0 0 0 (bs [])), false))
 else (some ((Page.mk (IntKind.i64.wrap x1) v2.1 v3.1 v4.1 v5.1 x2), true)))
/-- spec.ScanAll -/
def s_ScanAll_b2 (xF : Flash) (yB1 : Int) (yOut2 : List Found) (yK1 : Int) : Option ((List Found × Int) ⊕ (List Found)) :=
 (gi xF.Blocks yB1).bind fun x1 =>
 bif (decide (yK1 < (ln x1.Leaves))) then ((s_ReadLeaf xF yB1 yK1).bind fun v1 =>
 (s_ReadPage v1.1).bind fun v2 =>
 (bif v1.2 then (some v2.2)
 else (some false) : Option (Bool)).bind fun j1 =>
 bif j1 then ((ap 72 yOut2 [(Found.mk yB1 yK1 v2.1)]).bind fun c1 =>
 some (.inl (c1, (ad yK1 1))))
 else (some (.inl (yOut2, (ad yK1 1)))))
 else (some (.inr yOut2))
def s_ScanAll_b1 (xF : Flash) (yOut1 : List Found) (yB1 : Int) : Option ((List Found × Int) ⊕ (List Found)) :=
 bif (decide (yB1 < (ln xF.Blocks))) then ((loopO (fun s : List Found × Int => s_ScanAll_b2 xF yB1 s.1 s.2) (yOut1, 0)).bind fun v3 =>
 some (.inl (v3, (ad yB1 1))))
 else (some (.inr yOut1))
def s_ScanAll_b4 (yOut4 : List Found) (yK2 : Int) : Option ((List Found × Int) ⊕ (List Found)) :=
 (bif (decide (yK2 > 0)) then ((gi yOut4 (sb yK2 1)).bind fun x2 =>
 (gi yOut4 yK2).bind fun x3 =>
 some (decide (x2.Page.Seq > x3.Page.Seq)))
 else (some false) : Option (Bool)).bind fun j2 =>
 bif j2 then ((gi yOut4 yK2).bind fun x4 =>
 (gi yOut4 (sb yK2 1)).bind fun x5 =>
 (gi yOut4 yK2).bind fun x6 =>
 (gi (si yOut4 yK2 x5) (sb yK2 1)).bind fun x7 =>
 some (.inl ((si (si yOut4 yK2 x5) (sb yK2 1) x4), (sb yK2 1))))
 else (some (.inr yOut4))
def s_ScanAll_b3 (yOut3 : List Found) (yI1 : Int) : Option ((List Found × Int) ⊕ (List Found)) :=
 bif (decide (yI1 < (ln yOut3))) then ((loopO (fun s : List Found × Int => s_ScanAll_b4 s.1 s.2) (yOut3, yI1)).bind fun v5 =>
 some (.inl (v5, (ad yI1 1))))
 else (some (.inr yOut3))
def s_ScanAll (xF : Flash) : Option (List Found) :=
 (loopO (fun s : List Found × Int => s_ScanAll_b1 xF s.1 s.2) ([], 0)).bind fun v4 =>
 (loopO (fun s : List Found × Int => s_ScanAll_b3 s.1 s.2) (v4, 1)).bind fun v6 =>
 some v6
/-- spec.Bounds -/
def s_Bounds_b1 (xD : Device) (yPages1 : Int) (yB1 : Int) : Option ((Int × Int) ⊕ ((Int) ⊕ (Bool))) :=
 bif (decide (yB1 < (ln xD.Flash.Blocks))) then ((gi xD.Flash.Blocks yB1).bind fun x1 =>
 (s_l01In x1.Wear 0 1000000000).bind fun v1 =>
 bif (!v1) then (some (.inr (.inr false)))
 else ((gi xD.Flash.Blocks yB1).bind fun x2 =>
 some (.inl ((ad yPages1 (ln x2.Leaves)), (ad yB1 1)))))
 else (some (.inr (.inl yPages1)))
def s_Bounds (xD : Device) : Option (Bool) :=
 (loopO (fun s : Int × Int => s_Bounds_b1 xD s.1 s.2) (0, 0)).bind (Sum.elim (fun v2 => ((s_RoomOf xD.Flash).bind fun v3 =>
 bif (decide (v3 ≥ 0)) then ((s_ScanAll xD.Flash).bind fun v4 =>
 some (decide ((ln v4) ≤ v2)))
 else (some false))) some)
/-- impl.in -/
def i_in (xN : Int) (xLow : Int) (xHigh : Int) : Option (Bool) :=
 bif (decide (xN ≥ xLow)) then (some (decide (xN ≤ xHigh)))
 else (some false)
/-- impl.blanks -/
def i_blanks_b1 (xB : Block) (yN1 : Int) (y1 : Int) : Option ((Int × Int) ⊕ (Int)) :=
 bif (decide (y1 < (ln xB.Leaves))) then ((gi xB.Leaves y1).bind fun x1 =>
 bif (x1.Is == 0) then (some (.inl ((ad yN1 1), (ad y1 1))))
 else (some (.inl (yN1, (ad y1 1)))))
 else (some (.inr yN1))
def i_blanks (xB : Block) : Option (Int) :=
 (loopO (fun s : Int × Int => i_blanks_b1 xB s.1 s.2) (0, 0)).bind fun v1 =>
 some v1
/-- impl.RoomOf -/
def i_RoomOf_b1 (xF : Flash) (yN1 : Int) (y1 : Int) : Option ((Int × Int) ⊕ (Int)) :=
 bif (decide (y1 < (ln xF.Blocks))) then ((gi xF.Blocks y1).bind fun x1 =>
 bif (!x1.Bad) then ((i_blanks x1).bind fun v1 =>
 some (.inl ((ad yN1 v1), (ad y1 1))))
 else (some (.inl (yN1, (ad y1 1)))))
 else (some (.inr yN1))
def i_RoomOf (xF : Flash) : Option (Int) :=
 (loopO (fun s : Int × Int => i_RoomOf_b1 xF s.1 s.2) (0, 0)).bind fun v2 =>
 some v2
/-- impl.SumMore -/
def i_SumMore_b2 (ySum2 : Int) (y1 : Int) : Option ((Int × Int) ⊕ (Int)) :=
 bif (decide (y1 < 8)) then (bif ((an ySum2 1) == 1) then (some (.inl ((xr (Int.fdiv ySum2 (2 ^ (min (1 : Int).toNat IntKind.u32.bits))) 3558460437), (ad y1 1))))
 else (some (.inl ((Int.fdiv ySum2 (2 ^ (min (1 : Int).toNat IntKind.u32.bits))), (ad y1 1)))))
 else (some (.inr ySum2))
def i_SumMore_b1 (xText : ByteArray) (ySum1 : Int) (yI1 : Int) : Option ((Int × Int) ⊕ (Int)) :=
 bif (decide (yI1 < (sln xText))) then ((sx xText yI1).bind fun x1 =>
 (loopO (fun s : Int × Int => i_SumMore_b2 s.1 s.2) ((xr ySum1 (IntKind.u32.wrap x1)), 0)).bind fun v1 =>
 some (.inl (v1, (ad yI1 1))))
 else (some (.inr ySum1))
def i_SumMore (xSum : Int) (xText : ByteArray) : Option (Int) :=
 (loopO (fun s : Int × Int => i_SumMore_b1 xText s.1 s.2) (xSum, 0)).bind fun v2 =>
 some v2
/-- impl.SumOf -/
def i_SumOf (xText : ByteArray) : Option (Int) :=
 (i_SumMore 4294967295 xText).bind fun v1 =>
 some v1
/-- impl.Sealed -/
def i_Sealed (xText : ByteArray) : Option (ByteArray × Bool) :=
 bif (decide ((sln xText) > 20000)) then (some ((bs []), false))
 else ((i_SumOf xText).bind fun v1 =>
 (cat xText (strB [(IntKind.u8.wrap (Int.fdiv v1 (2 ^ (min (24 : Int).toNat IntKind.u32.bits)))), (IntKind.u8.wrap (Int.fdiv v1 (2 ^ (min (16 : Int).toNat IntKind.u32.bits)))), (IntKind.u8.wrap (Int.fdiv v1 (2 ^ (min (8 : Int).toNat IntKind.u32.bits)))), (IntKind.u8.wrap v1)])).bind fun x1 =>
 some (x1, true))
/-- impl.Unsealed -/
def i_Unsealed (xText : ByteArray) : Option (ByteArray × Bool) :=
 bif (decide ((sln xText) < 4)) then (some ((bs []), false))
 else ((sub xText 0 (sb (sln xText) 4)).bind fun x1 =>
 (i_Sealed x1).bind fun v1 =>
 (bif (!v1.2) then (some true)
 else (some (!(seq v1.1 xText))) : Option (Bool)).bind fun j1 =>
 bif j1 then (some ((bs []), false))
 else (some (x1, true)))
/-- impl.ReadVar -/
def i_ReadVar_b1 (xText : ByteArray) (xAt : Int) (yN1 : Int) (yK1 : Int) : Option ((Int × Int) ⊕ ((Unit) ⊕ ((Int × Int × Bool)))) :=
 (bif (decide (yK1 < 5)) then (bif (decide (xAt ≥ 0)) then (some (decide (xAt < (sb (sln xText) yK1))))
 else (some false))
 else (some false) : Option (Bool)).bind fun j1 =>
 bif j1 then ((sx xText (ad xAt yK1)).bind fun x1 =>
 (shl .i64 (Int.tmod (IntKind.i64.wrap x1) 128) (ml 7 yK1)).bind fun x2 =>
 bif (decide ((IntKind.i64.wrap x1) ≥ 128)) then (some (.inl ((ad yN1 x2), (ad yK1 1))))
 else ((bif ((IntKind.i64.wrap x1) == 0) then (bif (decide (yK1 > 0)) then (some true)
 else (some (decide ((ad yN1 x2) > 1000000000))))
 else (some (decide ((ad yN1 x2) > 1000000000))) : Option (Bool)).bind fun j2 =>
 bif j2 then (some (.inr (.inr (0, 0, false))))
 else (some (.inr (.inr ((ad yN1 x2), (ad (ad xAt yK1) 1), true))))))
 else (some (.inr (.inl ())))
def i_ReadVar (xText : ByteArray) (xAt : Int) : Option (Int × Int × Bool) :=
 (loopO (fun s : Int × Int => i_ReadVar_b1 xText xAt s.1 s.2) (0, 0)).bind (Sum.elim (fun v1 => (some (0, 0, false))) some)
/-- impl.PageOk -/
def i_PageOk (xP : Page) : Option (Bool) :=
 ((i_in xP.Seq 1 1000000000).bind fun v1 =>
 bif (!v1) then (some true)
 else ((i_in xP.Tx 1 1000000000).bind fun v2 =>
 bif (!v2) then (some true)
 else ((i_in xP.Count 1 9).bind fun v3 =>
 bif (!v3) then (some true)
 else ((i_in xP.Part 0 (sb xP.Count 1)).bind fun v4 =>
 bif (!v4) then (some true)
 else (some (decide ((sln xP.Text) > 90)))))) : Option (Bool)).bind fun j1 =>
 bif j1 then (some false)
 else (bif (xP.Kind == 2) then (some true)
 else (bif (xP.Kind == 1) then (some (xP.Count == 1))
 else (some false)))
/-- impl.ReadPage -/
def i_ReadPage_b1 (v1 : ByteArray × Bool) (yAt1 : Int) (y1 : Int) (yL01 : Int) (yL11 : Int) (yL21 : Int) (yL31 : Int) : Option ((Int × Int × Int × Int × Int × Int) ⊕ ((Int × Int × Int × Int × Int) ⊕ ((Page × Bool)))) :=
 bif (decide (y1 < 4)) then ((i_ReadVar v1.1 yAt1).bind fun v2 =>
 bif (!v2.2.2) then (some (.inr (.inr ((Page.mk 0 0 0 0 0 (bs [])), false))))
 else (bif (y1 == 0) then (some (.inl (v2.2.1, (ad y1 1), v2.1, yL11, yL21, yL31)))
 else (bif (y1 == 1) then (some (.inl (v2.2.1, (ad y1 1), yL01, v2.1, yL21, yL31)))
 else (bif (y1 == 2) then (some (.inl (v2.2.1, (ad y1 1), yL01, yL11, v2.1, yL31)))
 else (bif (y1 == 3) then (some (.inl (v2.2.1, (ad y1 1), yL01, yL11, yL21, v2.1)))
 else none)))))
 else (some (.inr (.inl (yAt1, yL01, yL11, yL21, yL31))))
def i_ReadPage (xT : ByteArray) : Option (Page × Bool) :=
 (i_Unsealed xT).bind fun v1 =>
 (bif (!v1.2) then (some true)
 else (some (seq v1.1 (bs []))) : Option (Bool)).bind fun j1 =>
 bif j1 then (some ((Page.mk 0 0 0 0 0 (bs [])), false))
 else ((loopO (fun s : Int × Int × Int × Int × Int × Int => i_ReadPage_b1 v1 s.1 s.2.1 s.2.2.1 s.2.2.2.1 s.2.2.2.2.1 s.2.2.2.2.2) (1, 0, 0, 0, 0, 0)).bind (Sum.elim (fun v3 => ((sx v1.1 0).bind fun x1 =>
 (sub v1.1 v3.1 (sln v1.1)).bind fun x2 =>
 (i_PageOk (Page.mk (IntKind.i64.wrap x1) v3.2.1 v3.2.2.1 v3.2.2.2.1 v3.2.2.2.2 x2)).bind fun v4 =>
 bif (!v4) then (some ((Page.mk 0 0 0 0 0 (bs [])), false))
 else (some ((Page.mk (IntKind.i64.wrap x1) v3.2.1 v3.2.2.1 v3.2.2.2.1 v3.2.2.2.2 x2), true)))) some))
/-- impl.ScanAll$1 -/
def i_ScanAll_1 (x : Found) : Int := x.Page.Seq
/-- impl.ScanAll -/
def i_ScanAll_b2 (y1 : Int) (x1 : Block) (y2 : Int) (yOut02 : List Found) : Option ((Int × List Found) ⊕ (List Found)) :=
 bif (decide (y2 < (ln x1.Leaves))) then ((gi x1.Leaves y2).bind fun x2 =>
 (i_ReadPage x2.Text).bind fun v1 =>
 (bif v1.2 then (some (x2.Is == 1))
 else (some false) : Option (Bool)).bind fun j1 =>
 bif j1 then ((ap 72 yOut02 [(Found.mk y1 y2 v1.1)]).bind fun c1 =>
 some (.inl ((ad y2 1), c1)))
 else (some (.inl ((ad y2 1), yOut02))))
 else (some (.inr yOut02))
def i_ScanAll_b1 (xF : Flash) (y1 : Int) (yOut01 : List Found) : Option ((Int × List Found) ⊕ (List Found)) :=
 bif (decide (y1 < (ln xF.Blocks))) then ((gi xF.Blocks y1).bind fun x1 =>
 (loopO (fun s : Int × List Found => i_ScanAll_b2 y1 x1 s.1 s.2) (0, yOut01)).bind fun v2 =>
 some (.inl ((ad y1 1), v2)))
 else (some (.inr yOut01))
def i_ScanAll (xF : Flash) : Option (List Found) :=
 (loopO (fun s : Int × List Found => i_ScanAll_b1 xF s.1 s.2) (0, [])).bind fun v3 =>
 (sort_stable_func (ltk i_ScanAll_1) v3 (ln v3)).bind fun v4 =>
 some v4
/-- impl.Bounds -/
def i_Bounds_b1 (xD : Device) (yLeaves1 : Int) (y1 : Int) : Option ((Int × Int) ⊕ ((Int) ⊕ (Bool))) :=
 bif (decide (y1 < (ln xD.Flash.Blocks))) then ((gi xD.Flash.Blocks y1).bind fun x1 =>
 (i_in x1.Wear 0 1000000000).bind fun v1 =>
 bif (!v1) then (some (.inr (.inr false)))
 else (some (.inl ((ad yLeaves1 (ln x1.Leaves)), (ad y1 1)))))
 else (some (.inr (.inl yLeaves1)))
def i_Bounds (xD : Device) : Option (Bool) :=
 (loopO (fun s : Int × Int => i_Bounds_b1 xD s.1 s.2) (0, 0)).bind (Sum.elim (fun v2 => ((i_RoomOf xD.Flash).bind fun v3 =>
 bif (decide (v3 ≥ 0)) then ((i_ScanAll xD.Flash).bind fun v4 =>
 some (decide ((ln v4) ≤ v2)))
 else (some false))) some)
/-- laws.eqLeaf -/
def w_eqLeaf (xA : Leaf) (xB : Leaf) : Option (Bool) :=
 bif (xA.Is != xB.Is) then (some false)
 else (bif (!(seq xA.Text xB.Text)) then (some false)
 else (some true))
/-- laws.eqLeafS -/
def w_eqLeafS_b1 (xA : List Leaf) (xB : List Leaf) (yI1 : Int) : Option ((Int) ⊕ ((Unit) ⊕ (Bool))) :=
 bif (decide (yI1 < (ln xA))) then ((gi xA yI1).bind fun x1 =>
 (gi xB yI1).bind fun x2 =>
 (w_eqLeaf x1 x2).bind fun v1 =>
 bif (!v1) then (some (.inr (.inr false)))
 else (some (.inl (ad yI1 1))))
 else (some (.inr (.inl ())))
def w_eqLeafS (xA : List Leaf) (xB : List Leaf) : Option (Bool) :=
 bif ((ln xA) != (ln xB)) then (some false)
 else ((loopO (fun s : Int => w_eqLeafS_b1 xA xB s) 0).bind (Sum.elim (fun v2 => (some true)) some))
/-- laws.eqBlock -/
def w_eqBlock (xA : Block) (xB : Block) : Option (Bool) :=
 bif (!(xA.Bad == xB.Bad)) then (some false)
 else (bif (xA.Wear != xB.Wear) then (some false)
 else ((w_eqLeafS xA.Leaves xB.Leaves).bind fun v1 =>
 bif (!v1) then (some false)
 else (some true)))
/-- laws.eqBlockS -/
def w_eqBlockS_b1 (xA : List Block) (xB : List Block) (yI1 : Int) : Option ((Int) ⊕ ((Unit) ⊕ (Bool))) :=
 bif (decide (yI1 < (ln xA))) then ((gi xA yI1).bind fun x1 =>
 (gi xB yI1).bind fun x2 =>
 (w_eqBlock x1 x2).bind fun v1 =>
 bif (!v1) then (some (.inr (.inr false)))
 else (some (.inl (ad yI1 1))))
 else (some (.inr (.inl ())))
def w_eqBlockS (xA : List Block) (xB : List Block) : Option (Bool) :=
 bif ((ln xA) != (ln xB)) then (some false)
 else ((loopO (fun s : Int => w_eqBlockS_b1 xA xB s) 0).bind (Sum.elim (fun v2 => (some true)) some))
/-- laws.eqFlash -/
def w_eqFlash (xA : Flash) (xB : Flash) : Option (Bool) :=
 (w_eqBlockS xA.Blocks xB.Blocks).bind fun v1 =>
 bif (!v1) then (some false)
 else (some true)
/-- laws.eqVol -/
def w_eqVol (xA : Vol) (xB : Vol) : Option (Bool) :=
 bif (xA.Id != xB.Id) then (some false)
 else (bif (xA.Root != xB.Root) then (some false)
 else (some true))
/-- laws.eqVolS -/
def w_eqVolS_b1 (xA : List Vol) (xB : List Vol) (yI1 : Int) : Option ((Int) ⊕ ((Unit) ⊕ (Bool))) :=
 bif (decide (yI1 < (ln xA))) then ((gi xA yI1).bind fun x1 =>
 (gi xB yI1).bind fun x2 =>
 (w_eqVol x1 x2).bind fun v1 =>
 bif (!v1) then (some (.inr (.inr false)))
 else (some (.inl (ad yI1 1))))
 else (some (.inr (.inl ())))
def w_eqVolS (xA : List Vol) (xB : List Vol) : Option (Bool) :=
 bif ((ln xA) != (ln xB)) then (some false)
 else ((loopO (fun s : Int => w_eqVolS_b1 xA xB s) 0).bind (Sum.elim (fun v2 => (some true)) some))
/-- laws.eqIntS -/
def w_eqIntS_b1 (xA : List Int) (xB : List Int) (yI1 : Int) : Option ((Int) ⊕ ((Unit) ⊕ (Bool))) :=
 bif (decide (yI1 < (ln xA))) then ((gi xA yI1).bind fun x1 =>
 (gi xB yI1).bind fun x2 =>
 bif (x1 != x2) then (some (.inr (.inr false)))
 else (some (.inl (ad yI1 1))))
 else (some (.inr (.inl ())))
def w_eqIntS (xA : List Int) (xB : List Int) : Option (Bool) :=
 bif ((ln xA) != (ln xB)) then (some false)
 else ((loopO (fun s : Int => w_eqIntS_b1 xA xB s) 0).bind (Sum.elim (fun v1 => (some true)) some))
/-- laws.eqKnot -/
def w_eqKnot (xA : Knot) (xB : Knot) : Option (Bool) :=
 bif (!(xA.Leaf == xB.Leaf)) then (some false)
 else ((w_eqIntS xA.Kids xB.Kids).bind fun v1 =>
 bif (!v1) then (some false)
 else (some true))
/-- laws.eqKnotS -/
def w_eqKnotS_b1 (xA : List Knot) (xB : List Knot) (yI1 : Int) : Option ((Int) ⊕ ((Unit) ⊕ (Bool))) :=
 bif (decide (yI1 < (ln xA))) then ((gi xA yI1).bind fun x1 =>
 (gi xB yI1).bind fun x2 =>
 (w_eqKnot x1 x2).bind fun v1 =>
 bif (!v1) then (some (.inr (.inr false)))
 else (some (.inl (ad yI1 1))))
 else (some (.inr (.inl ())))
def w_eqKnotS (xA : List Knot) (xB : List Knot) : Option (Bool) :=
 bif ((ln xA) != (ln xB)) then (some false)
 else ((loopO (fun s : Int => w_eqKnotS_b1 xA xB s) 0).bind (Sum.elim (fun v2 => (some true)) some))
/-- laws.eqArena -/
def w_eqArena (xA : Arena) (xB : Arena) : Option (Bool) :=
 (w_eqKnotS xA.Knots xB.Knots).bind fun v1 =>
 bif (!v1) then (some false)
 else (some true)
/-- laws.eqStore -/
def w_eqStore (xA : Store) (xB : Store) : Option (Bool) :=
 (w_eqVolS xA.Vols xB.Vols).bind fun v1 =>
 bif (!v1) then (some false)
 else ((w_eqArena xA.Arena xB.Arena).bind fun v2 =>
 bif (!v2) then (some false)
 else (bif (xA.Next != xB.Next) then (some false)
 else (some true)))
/-- laws.eqDevice -/
def w_eqDevice (xA : Device) (xB : Device) : Option (Bool) :=
 (w_eqFlash xA.Flash xB.Flash).bind fun v1 =>
 bif (!v1) then (some false)
 else ((w_eqStore xA.Store xB.Store).bind fun v2 =>
 bif (!v2) then (some false)
 else (bif (xA.Seq != xB.Seq) then (some false)
 else (bif (xA.Tx != xB.Tx) then (some false)
 else (bif (xA.Base != xB.Base) then (some false)
 else (some true)))))
/-- laws.FnExactBounds -/
def w_FnExactBounds (xAD : Device) : Option (Bool) :=
 (w_szDevice xAD 1048576).bind fun v1 =>
 bif (decide (v1 < 0)) then (some true)
 else ((w_toDevice xAD).bind fun v2 =>
 (s_Bounds v2).bind fun v3 =>
 (w_toDevice xAD).bind fun v4 =>
 (i_Bounds v4).bind fun v5 =>
 bif (!(v5 == v3)) then (some false)
 else ((w_toDevice xAD).bind fun v6 =>
 (w_eqDevice v4 v6).bind fun v7 =>
 bif (!v7) then (some false)
 else (some true)))
end
end Go.TI
