/- What functions of the given program compute. No condition. -/
import Derived.Test.YtcjepealfaimfaaGreatPOSOA
import Derived.Test.YtcjepealfaimfaaGreatPOTIG
namespace Go.TI
open Go
set_option linter.unusedVariables false
noncomputable section
structure Leaf where
  Is : Int
  Text : ByteArray
structure Block where
  Bad : Bool
  Wear : Int
  Leaves : List Leaf
structure Flash where
  Blocks : List Block
structure Vol where
  Id : Int
  Root : Int
structure Knot where
  Leaf : Bool
  Kids : List Int
structure Arena where
  Knots : List Knot
structure Store where
  Vols : List Vol
  Arena : Arena
  Next : Int
structure Device where
  Flash : Flash
  Store : Store
  Seq : Int
  Tx : Int
  Base : Int
structure Ask where
  Kind : Int
  Vol : Int
  Sector : Int
  Of : Int
  Text : ByteArray
structure l06Cur where
  text_ : ByteArray
  at_ : Int
  bad_ : Bool
structure Page where
  Kind : Int
  Seq : Int
  Tx : Int
  Part : Int
  Count : Int
  Text : ByteArray
structure Found where
  Block : Int
  Leaf : Int
  Page : Page
structure Token where
  Back : Int
  Size : Int
  Text : ByteArray
structure Rec where
  Kind : Int
  Vol : Int
  Arg : Int
  Chunk : Int
def oLeaf (x : Leaf) : Prop := oI x.Is ∧ oS x.Text
def oBlock (x : Block) : Prop := oB x.Bad ∧ oI x.Wear ∧ (ol oLeaf) x.Leaves
def oFlash (x : Flash) : Prop := (ol oBlock) x.Blocks
def oVol (x : Vol) : Prop := oI x.Id ∧ oI x.Root
def oKnot (x : Knot) : Prop := oB x.Leaf ∧ (ol oI) x.Kids
def oArena (x : Arena) : Prop := (ol oKnot) x.Knots
def oStore (x : Store) : Prop := (ol oVol) x.Vols ∧ oArena x.Arena ∧ oI x.Next
def oDevice (x : Device) : Prop := oFlash x.Flash ∧ oStore x.Store ∧ oI x.Seq ∧ oI x.Tx ∧ oI x.Base
def oAsk (x : Ask) : Prop := oI x.Kind ∧ oI x.Vol ∧ oI x.Sector ∧ oI x.Of ∧ oS x.Text
def w_szLeaf (xA : Leaf) (xLeft : Int) : Option (Int) :=
 bif (decide ((sb xLeft (sln xA.Text)) < 0)) then (some (-1))
 else (some (sb xLeft (sln xA.Text)))
def w_szLeafS_b1 (xA : List Leaf) (yLeft1 : Int) (yI1 : Int) : Option ((Int × Int) ⊕ ((Int) ⊕ (Int))) :=
 bif (decide (yI1 < (ln xA))) then ((gi xA yI1).bind fun x1 =>
 (w_szLeaf x1 yLeft1).bind fun v1 =>
 bif (decide (v1 < 0)) then (some (.inr (.inr (-1))))
 else (some (.inl (v1, (ad yI1 1)))))
 else (some (.inr (.inl yLeft1)))
def w_szLeafS (xA : List Leaf) (xLeft : Int) : Option (Int) :=
 bif (decide ((sb xLeft (ln xA)) < 0)) then (some (-1))
 else ((loopO (fun s : Int × Int => w_szLeafS_b1 xA s.1 s.2) ((sb xLeft (ln xA)), 0)).bind (Sum.elim (fun v2 => (some v2)) some))
def w_szBlock (xA : Block) (xLeft : Int) : Option (Int) :=
 (w_szLeafS xA.Leaves xLeft).bind fun v1 =>
 bif (decide (v1 < 0)) then (some (-1))
 else (some v1)
def w_szBlockS_b1 (xA : List Block) (yLeft1 : Int) (yI1 : Int) : Option ((Int × Int) ⊕ ((Int) ⊕ (Int))) :=
 bif (decide (yI1 < (ln xA))) then ((gi xA yI1).bind fun x1 =>
 (w_szBlock x1 yLeft1).bind fun v1 =>
 bif (decide (v1 < 0)) then (some (.inr (.inr (-1))))
 else (some (.inl (v1, (ad yI1 1)))))
 else (some (.inr (.inl yLeft1)))
def w_szBlockS (xA : List Block) (xLeft : Int) : Option (Int) :=
 bif (decide ((sb xLeft (ln xA)) < 0)) then (some (-1))
 else ((loopO (fun s : Int × Int => w_szBlockS_b1 xA s.1 s.2) ((sb xLeft (ln xA)), 0)).bind (Sum.elim (fun v2 => (some v2)) some))
def w_szFlash (xA : Flash) (xLeft : Int) : Option (Int) :=
 (w_szBlockS xA.Blocks xLeft).bind fun v1 =>
 bif (decide (v1 < 0)) then (some (-1))
 else (some v1)
def w_szVolS (xA : List Vol) (xLeft : Int) : Option (Int) :=
 bif (decide ((sb xLeft (ln xA)) < 0)) then (some (-1))
 else (some (sb xLeft (ln xA)))
def w_szIntS (xA : List Int) (xLeft : Int) : Option (Int) :=
 bif (decide ((sb xLeft (ln xA)) < 0)) then (some (-1))
 else (some (sb xLeft (ln xA)))
def w_szKnot (xA : Knot) (xLeft : Int) : Option (Int) :=
 (w_szIntS xA.Kids xLeft).bind fun v1 =>
 bif (decide (v1 < 0)) then (some (-1))
 else (some v1)
def w_szKnotS_b1 (xA : List Knot) (yLeft1 : Int) (yI1 : Int) : Option ((Int × Int) ⊕ ((Int) ⊕ (Int))) :=
 bif (decide (yI1 < (ln xA))) then ((gi xA yI1).bind fun x1 =>
 (w_szKnot x1 yLeft1).bind fun v1 =>
 bif (decide (v1 < 0)) then (some (.inr (.inr (-1))))
 else (some (.inl (v1, (ad yI1 1)))))
 else (some (.inr (.inl yLeft1)))
def w_szKnotS (xA : List Knot) (xLeft : Int) : Option (Int) :=
 bif (decide ((sb xLeft (ln xA)) < 0)) then (some (-1))
 else ((loopO (fun s : Int × Int => w_szKnotS_b1 xA s.1 s.2) ((sb xLeft (ln xA)), 0)).bind (Sum.elim (fun v2 => (some v2)) some))
def w_szArena (xA : Arena) (xLeft : Int) : Option (Int) :=
 (w_szKnotS xA.Knots xLeft).bind fun v1 =>
 bif (decide (v1 < 0)) then (some (-1))
 else (some v1)
def w_szStore (xA : Store) (xLeft : Int) : Option (Int) :=
 (w_szVolS xA.Vols xLeft).bind fun v1 =>
 bif (decide (v1 < 0)) then (some (-1))
 else ((w_szArena xA.Arena v1).bind fun v2 =>
 bif (decide (v2 < 0)) then (some (-1))
 else (some v2))
def w_szDevice (xA : Device) (xLeft : Int) : Option (Int) :=
 (w_szFlash xA.Flash xLeft).bind fun v1 =>
 bif (decide (v1 < 0)) then (some (-1))
 else ((w_szStore xA.Store v1).bind fun v2 =>
 bif (decide (v2 < 0)) then (some (-1))
 else (some v2))
def w_szAsk (xA : Ask) (xLeft : Int) : Option (Int) :=
 bif (decide ((sb xLeft (sln xA.Text)) < 0)) then (some (-1))
 else (some (sb xLeft (sln xA.Text)))
def w_toLeaf (xA : Leaf) : Option (Leaf) :=
 some xA
def w_toLeafS_b1 (xA : List Leaf) (yOut1 : List Leaf) (yI1 : Int) : Option ((List Leaf × Int) ⊕ (List Leaf)) :=
 bif (decide (yI1 < (ln xA))) then ((gi xA yI1).bind fun x1 =>
 (w_toLeaf x1).bind fun v1 =>
 (gi yOut1 yI1).bind fun x2 =>
 some (.inl ((si yOut1 yI1 v1), (ad yI1 1))))
 else (some (.inr yOut1))
def w_toLeafS (xA : List Leaf) : Option (List Leaf) :=
 (mk 24 (Leaf.mk 0 (bs [])) (ln xA)).bind fun q1 =>
 (loopO (fun s : List Leaf × Int => w_toLeafS_b1 xA s.1 s.2) (q1, 0)).bind fun v2 =>
 some v2
def w_toBlock (xA : Block) : Option (Block) :=
 (w_toLeafS xA.Leaves).bind fun v1 =>
 some (Block.mk xA.Bad xA.Wear v1)
def w_toBlockS_b1 (xA : List Block) (yOut1 : List Block) (yI1 : Int) : Option ((List Block × Int) ⊕ (List Block)) :=
 bif (decide (yI1 < (ln xA))) then ((gi xA yI1).bind fun x1 =>
 (w_toBlock x1).bind fun v1 =>
 (gi yOut1 yI1).bind fun x2 =>
 some (.inl ((si yOut1 yI1 v1), (ad yI1 1))))
 else (some (.inr yOut1))
def w_toBlockS (xA : List Block) : Option (List Block) :=
 (mk 40 (Block.mk false 0 []) (ln xA)).bind fun q1 =>
 (loopO (fun s : List Block × Int => w_toBlockS_b1 xA s.1 s.2) (q1, 0)).bind fun v2 =>
 some v2
def w_toFlash (xA : Flash) : Option (Flash) :=
 (w_toBlockS xA.Blocks).bind fun v1 =>
 some (Flash.mk v1)
def w_toVol (xA : Vol) : Option (Vol) :=
 some xA
def w_toVolS_b1 (xA : List Vol) (yOut1 : List Vol) (yI1 : Int) : Option ((List Vol × Int) ⊕ (List Vol)) :=
 bif (decide (yI1 < (ln xA))) then ((gi xA yI1).bind fun x1 =>
 (w_toVol x1).bind fun v1 =>
 (gi yOut1 yI1).bind fun x2 =>
 some (.inl ((si yOut1 yI1 v1), (ad yI1 1))))
 else (some (.inr yOut1))
def w_toVolS (xA : List Vol) : Option (List Vol) :=
 (mk 16 (Vol.mk 0 0) (ln xA)).bind fun q1 =>
 (loopO (fun s : List Vol × Int => w_toVolS_b1 xA s.1 s.2) (q1, 0)).bind fun v2 =>
 some v2
def w_toIntS_b1 (xA : List Int) (yOut1 : List Int) (yI1 : Int) : Option ((List Int × Int) ⊕ (List Int)) :=
 bif (decide (yI1 < (ln xA))) then ((gi xA yI1).bind fun x1 =>
 (gi yOut1 yI1).bind fun x2 =>
 some (.inl ((si yOut1 yI1 x1), (ad yI1 1))))
 else (some (.inr yOut1))
def w_toIntS (xA : List Int) : Option (List Int) :=
 (mk 8 0 (ln xA)).bind fun q1 =>
 (loopO (fun s : List Int × Int => w_toIntS_b1 xA s.1 s.2) (q1, 0)).bind fun v1 =>
 some v1
def w_toKnot (xA : Knot) : Option (Knot) :=
 (w_toIntS xA.Kids).bind fun v1 =>
 some (Knot.mk xA.Leaf v1)
def w_toKnotS_b1 (xA : List Knot) (yOut1 : List Knot) (yI1 : Int) : Option ((List Knot × Int) ⊕ (List Knot)) :=
 bif (decide (yI1 < (ln xA))) then ((gi xA yI1).bind fun x1 =>
 (w_toKnot x1).bind fun v1 =>
 (gi yOut1 yI1).bind fun x2 =>
 some (.inl ((si yOut1 yI1 v1), (ad yI1 1))))
 else (some (.inr yOut1))
def w_toKnotS (xA : List Knot) : Option (List Knot) :=
 (mk 32 (Knot.mk false []) (ln xA)).bind fun q1 =>
 (loopO (fun s : List Knot × Int => w_toKnotS_b1 xA s.1 s.2) (q1, 0)).bind fun v2 =>
 some v2
def w_toArena (xA : Arena) : Option (Arena) :=
 (w_toKnotS xA.Knots).bind fun v1 =>
 some (Arena.mk v1)
def w_toStore (xA : Store) : Option (Store) :=
 (w_toVolS xA.Vols).bind fun v1 =>
 (w_toArena xA.Arena).bind fun v2 =>
 some (Store.mk v1 v2 xA.Next)
def w_toDevice (xA : Device) : Option (Device) :=
 (w_toFlash xA.Flash).bind fun v1 =>
 (w_toStore xA.Store).bind fun v2 =>
 some (Device.mk v1 v2 xA.Seq xA.Tx xA.Base)
def w_toAsk (xA : Ask) : Option (Ask) :=
 some xA
def s_l01In (xX : Int) (xLeast : Int) (xMost : Int) : Option (Bool) :=
 bif (decide (xX ≥ xLeast)) then (some (decide (xX ≤ xMost)))
 else (some false)
def s_AskOk (xQ : Ask) : Option (Bool) :=
 ((s_l01In xQ.Kind 1 6).bind fun v1 =>
 bif (!v1) then (some true)
 else ((s_l01In xQ.Vol 1 9).bind fun v2 =>
 bif (!v2) then (some true)
 else (bif (decide ((sln xQ.Text) > 64)) then (some true)
 else (bif (xQ.Kind != 1) then (some (!(seq xQ.Text (bs []))))
 else (some false)))) : Option (Bool)).bind fun j1 =>
 bif j1 then (some false)
 else (bif (xQ.Kind == 4) then ((bif (xQ.Sector == 0) then ((s_l01In xQ.Of 1 9).bind fun v3 =>
 some v3)
 else (some false) : Option (Bool)).bind fun j2 =>
 some j2)
 else (bif (xQ.Of != 0) then (some false)
 else ((bif (xQ.Kind == 3) then (some true)
 else (some (xQ.Kind == 5)) : Option (Bool)).bind fun j3 =>
 bif j3 then (some (xQ.Sector == 0))
 else ((s_l01In xQ.Sector 0 15).bind fun v4 =>
 some v4))))
def s_l12At_b1 (xS : Store) (xId : Int) (yI1 : Int) : Option ((Int) ⊕ ((Unit) ⊕ (Int))) :=
 bif (decide (yI1 < (ln xS.Vols))) then ((gi xS.Vols yI1).bind fun x1 =>
 bif (x1.Id == xId) then (some (.inr (.inr yI1)))
 else (some (.inl (ad yI1 1))))
 else (some (.inr (.inl ())))
def s_l12At (xS : Store) (xId : Int) : Option (Int) :=
 (loopO (fun s : Int => s_l12At_b1 xS xId s) 0).bind (Sum.elim (fun v1 => (some (-1))) some)
def s_ArenaOk_b2 (xA : Arena) (yI1 : Int) (x1 : Knot) (yK1 : Int) : Option ((Int) ⊕ ((Unit) ⊕ ((Int) ⊕ ((Unit) ⊕ (Bool))))) :=
 bif (decide (yK1 < 4)) then ((gi x1.Kids yK1).bind fun x2 =>
 (bif x1.Leaf then (bif (decide (x2 < 0)) then (some true)
 else (bif (!x1.Leaf) then (bif (x2 != (-1)) then ((s_l01In x2 0 (sb yI1 1)).bind fun v1 =>
 bif (!v1) then (some true)
 else ((gi xA.Knots x2).bind fun x3 =>
 some (!x3.Leaf)))
 else (some false))
 else (some false)))
 else (bif (!x1.Leaf) then (bif (x2 != (-1)) then ((s_l01In x2 0 (sb yI1 1)).bind fun v2 =>
 bif (!v2) then (some true)
 else ((gi xA.Knots x2).bind fun x4 =>
 some (!x4.Leaf)))
 else (some false))
 else (some false)) : Option (Bool)).bind fun j1 =>
 bif j1 then (some (.inr (.inr (.inr (.inr false)))))
 else (some (.inl (ad yK1 1))))
 else (some (.inr (.inl ())))
def s_ArenaOk_b1 (xA : Arena) (yI1 : Int) : Option ((Int) ⊕ ((Unit) ⊕ (Bool))) :=
 bif (decide (yI1 < (ln xA.Knots))) then ((gi xA.Knots yI1).bind fun x1 =>
 bif ((ln x1.Kids) != 4) then (some (.inr (.inr false)))
 else ((loopO (fun s : Int => s_ArenaOk_b2 xA yI1 x1 s) 0).bind (Sum.elim (fun v3 => (some (.inl (ad yI1 1)))) some)))
 else (some (.inr (.inl ())))
def s_ArenaOk (xA : Arena) : Option (Bool) :=
 (loopO (fun s : Int => s_ArenaOk_b1 xA s) 0).bind (Sum.elim (fun v4 => (some true)) some)
def s_l11Root (xA : Arena) (xRoot : Int) : Option (Bool) :=
 bif (xRoot == (-1)) then (some true)
 else ((s_l01In xRoot 0 (sb (ln xA.Knots) 1)).bind fun v1 =>
 bif v1 then ((gi xA.Knots xRoot).bind fun x1 =>
 some (!x1.Leaf))
 else (some false))
def s_l11Get (xA : Arena) (xRoot : Int) (xSector : Int) : Option (Int) :=
 bif (decide (xRoot < 0)) then (some 0)
 else ((gi xA.Knots xRoot).bind fun x1 =>
 (gi x1.Kids (qu xSector 4)).bind fun x2 =>
 bif (decide (x2 < 0)) then (some 0)
 else ((gi xA.Knots x2).bind fun x3 =>
 (gi x3.Kids (Int.tmod xSector 4)).bind fun x4 =>
 some x4))
def s_GetAt (xA : Arena) (xRoot : Int) (xSector : Int) : Option (Int) :=
 ((s_ArenaOk xA).bind fun v1 =>
 bif (!v1) then (some true)
 else ((s_l11Root xA xRoot).bind fun v2 =>
 bif (!v2) then (some true)
 else ((s_l01In xSector 0 15).bind fun v3 =>
 some (!v3))) : Option (Bool)).bind fun j1 =>
 bif j1 then (some 0)
 else ((s_l11Get xA xRoot xSector).bind fun v4 =>
 some v4)
def s_AllAt_b1 (xA : Arena) (xRoot : Int) (yOut1 : List Int) (yS1 : Int) : Option ((List Int × Int) ⊕ (List Int)) :=
 bif (decide (yS1 < 16)) then ((s_GetAt xA xRoot yS1).bind fun v1 =>
 (ap 8 yOut1 [v1]).bind fun q1 =>
 some (.inl (q1, (ad yS1 1))))
 else (some (.inr yOut1))
def s_AllAt (xA : Arena) (xRoot : Int) : Option (List Int) :=
 (loopO (fun s : List Int × Int => s_AllAt_b1 xA xRoot s.1 s.2) ([], 0)).bind fun v2 =>
 some v2
def s_l12Insert_b1 (xList : List Int) (xX : Int) (yOut1 : List Int) (yI1 : Int) : Option ((List Int × Int) ⊕ (List Int)) :=
 bif (decide (yI1 < (ln xList))) then ((gi xList yI1).bind fun x1 =>
 bif (decide (x1 < xX)) then ((gi xList yI1).bind fun x2 =>
 (ap 8 yOut1 [x2]).bind fun q1 =>
 some (.inl (q1, (ad yI1 1))))
 else (some (.inl (yOut1, (ad yI1 1)))))
 else (some (.inr yOut1))
def s_l12Insert_b2 (xList : List Int) (xX : Int) (yOut2 : List Int) (yI2 : Int) : Option ((List Int × Int) ⊕ (List Int)) :=
 bif (decide (yI2 < (ln xList))) then ((gi xList yI2).bind fun x3 =>
 bif (decide (x3 > xX)) then ((gi xList yI2).bind fun x4 =>
 (ap 8 yOut2 [x4]).bind fun q3 =>
 some (.inl (q3, (ad yI2 1))))
 else (some (.inl (yOut2, (ad yI2 1)))))
 else (some (.inr yOut2))
def s_l12Insert (xList : List Int) (xX : Int) : Option (List Int) :=
 (loopO (fun s : List Int × Int => s_l12Insert_b1 xList xX s.1 s.2) ([], 0)).bind fun v1 =>
 (bif (decide (xX > 0)) then ((ap 8 v1 [xX]).bind fun q2 =>
 some q2)
 else (some v1) : Option (List Int)).bind fun j1 =>
 (loopO (fun s : List Int × Int => s_l12Insert_b2 xList xX s.1 s.2) (j1, 0)).bind fun v2 =>
 some v2
def s_LiveOf_b2 (v1 : List Int) (yOut2 : List Int) (yK1 : Int) : Option ((List Int × Int) ⊕ (List Int)) :=
 bif (decide (yK1 < (ln v1))) then ((gi v1 yK1).bind fun x2 =>
 (s_l12Insert yOut2 x2).bind fun v2 =>
 some (.inl (v2, (ad yK1 1))))
 else (some (.inr yOut2))
def s_LiveOf_b1 (xS : Store) (yOut1 : List Int) (yI1 : Int) : Option ((List Int × Int) ⊕ (List Int)) :=
 bif (decide (yI1 < (ln xS.Vols))) then ((gi xS.Vols yI1).bind fun x1 =>
 (s_AllAt xS.Arena x1.Root).bind fun v1 =>
 (loopO (fun s : List Int × Int => s_LiveOf_b2 v1 s.1 s.2) (yOut1, 0)).bind fun v3 =>
 some (.inl (v3, (ad yI1 1))))
 else (some (.inr yOut1))
def s_LiveOf (xS : Store) : Option (List Int) :=
 (loopO (fun s : List Int × Int => s_LiveOf_b1 xS s.1 s.2) ([], 0)).bind fun v4 =>
 some v4
def s_ReadLeaf (xF : Flash) (xB : Int) (xLeaf : Int) : Option (ByteArray × Bool) :=
 ((s_l01In xB 0 (sb (ln xF.Blocks) 1)).bind fun v1 =>
 bif (!v1) then (some true)
 else ((gi xF.Blocks xB).bind fun x1 =>
 (s_l01In xLeaf 0 (sb (ln x1.Leaves) 1)).bind fun v2 =>
 bif (!v2) then (some true)
 else ((gi xF.Blocks xB).bind fun x2 =>
 (gi x2.Leaves xLeaf).bind fun x3 =>
 some (x3.Is != 1))) : Option (Bool)).bind fun j1 =>
 bif j1 then (some ((bs []), false))
 else ((gi xF.Blocks xB).bind fun x4 =>
 (gi x4.Leaves xLeaf).bind fun x5 =>
 some (x5.Text, true))
def s_SumMore_b2 (ySum2 : Int) (yK1 : Int) : Option ((Int × Int) ⊕ (Int)) :=
 bif (decide (yK1 < 8)) then (bif ((Int.tmod ySum2 2) == 1) then (some (.inl ((xr (IntKind.u32.wrap (Int.tdiv ySum2 2)) 3558460437), (ad yK1 1))))
 else (some (.inl ((IntKind.u32.wrap (Int.tdiv ySum2 2)), (ad yK1 1)))))
 else (some (.inr ySum2))
def s_SumMore_b1 (xText : ByteArray) (ySum1 : Int) (yI1 : Int) : Option ((Int × Int) ⊕ (Int)) :=
 bif (decide (yI1 < (sln xText))) then ((sx xText yI1).bind fun x1 =>
 (loopO (fun s : Int × Int => s_SumMore_b2 s.1 s.2) ((xr ySum1 (IntKind.u32.wrap x1)), 0)).bind fun v1 =>
 some (.inl (v1, (ad yI1 1))))
 else (some (.inr ySum1))
def s_SumMore (xSum : Int) (xText : ByteArray) : Option (Int) :=
 (loopO (fun s : Int × Int => s_SumMore_b1 xText s.1 s.2) (xSum, 0)).bind fun v2 =>
 some v2
def s_SumOf (xText : ByteArray) : Option (Int) :=
 (s_SumMore 4294967295 xText).bind fun v1 =>
 some v1
def s_l02Four (xX : Int) : Option (ByteArray) :=
 some (strB [(IntKind.u8.wrap (Int.fdiv xX (2 ^ (min (24 : Int).toNat IntKind.u32.bits)))), (IntKind.u8.wrap (Int.fdiv xX (2 ^ (min (16 : Int).toNat IntKind.u32.bits)))), (IntKind.u8.wrap (Int.fdiv xX (2 ^ (min (8 : Int).toNat IntKind.u32.bits)))), (IntKind.u8.wrap xX)])
def s_Unsealed (xText : ByteArray) : Option (ByteArray × Bool) :=
 (bif (decide ((sb (sln xText) 4) < 0)) then (some true)
 else (bif (decide ((sb (sln xText) 4) > 20000)) then (some true)
 else ((sub xText (sb (sln xText) 4) (sln xText)).bind fun x1 =>
 (sub xText 0 (sb (sln xText) 4)).bind fun x2 =>
 (s_SumOf x2).bind fun v1 =>
 (s_l02Four v1).bind fun v2 =>
 some (!(seq x1 v2)))) : Option (Bool)).bind fun j1 =>
 bif j1 then (some ((bs []), false))
 else ((sub xText 0 (sb (sln xText) 4)).bind fun x3 =>
 some (x3, true))
def s_l01Var_b1 (yN1 : Int) (yOut1 : List Int) : Option ((Int × List Int) ⊕ (Int × List Int)) :=
 bif (decide (yN1 > 127)) then ((ap 1 yOut1 [(IntKind.u8.wrap (ad (Int.tmod yN1 128) 128))]).bind fun q1 =>
 some (.inl ((qu yN1 128), q1)))
 else (some (.inr (yN1, yOut1)))
def s_l01Var (xN : Int) : Option (ByteArray) :=
 (loopO (fun s : Int × List Int => s_l01Var_b1 s.1 s.2) (xN, [])).bind fun v1 =>
 (ap 1 v1.2 [(IntKind.u8.wrap v1.1)]).bind fun q2 =>
 some (strB q2)
def s_ReadVar_b1 (xText : ByteArray) (xAt : Int) (yN1 : Int) (yScale1 : Int) (yI1 : Int) : Option ((Int × Int × Int) ⊕ ((Unit) ⊕ ((Int × Int × Bool)))) :=
 (bif (decide (yI1 < (sln xText))) then (some (decide (yI1 < (ad xAt 5))))
 else (some false) : Option (Bool)).bind fun j1 =>
 bif j1 then ((sx xText yI1).bind fun x1 =>
 (sx xText yI1).bind fun x2 =>
 bif (decide (x2 < 128)) then ((bif (decide ((ad yN1 (ml (Int.tmod (IntKind.i64.wrap x1) 128) yScale1)) > 1000000000)) then (some true)
 else ((sub xText xAt (ad yI1 1)).bind fun x3 =>
 (s_l01Var (ad yN1 (ml (Int.tmod (IntKind.i64.wrap x1) 128) yScale1))).bind fun v2 =>
 some (!(seq v2 x3))) : Option (Bool)).bind fun j2 =>
 bif j2 then (some (.inr (.inr (0, 0, false))))
 else (some (.inr (.inr ((ad yN1 (ml (Int.tmod (IntKind.i64.wrap x1) 128) yScale1)), (ad yI1 1), true)))))
 else (some (.inl ((ad yN1 (ml (Int.tmod (IntKind.i64.wrap x1) 128) yScale1)), (ml yScale1 128), (ad yI1 1)))))
 else (some (.inr (.inl ())))
def s_ReadVar (xText : ByteArray) (xAt : Int) : Option (Int × Int × Bool) :=
 (s_l01In xAt 0 (sln xText)).bind fun v1 =>
 bif (!v1) then (some (0, 0, false))
 else ((loopO (fun s : Int × Int × Int => s_ReadVar_b1 xText xAt s.1 s.2.1 s.2.2) (0, 1, xAt)).bind (Sum.elim (fun v3 => (some (0, 0, false))) some))
def s_l06Var (xC : l06Cur) : Option (Int × l06Cur) :=
 ((s_ReadVar xC.text_ xC.at_).bind fun v1 =>
 some (v1.1, v1.2.1, v1.2.2) : Option (Int × Int × Bool)).bind fun j1 =>
 (bif xC.bad_ then (some true)
 else (some (!j1.2.2)) : Option (Bool)).bind fun j2 =>
 bif j2 then (some (0, (l06Cur.mk xC.text_ xC.at_ true)))
 else (some (j1.1, (l06Cur.mk xC.text_ j1.2.1 xC.bad_)))
def s_PageOk (xP : Page) : Option (Bool) :=
 ((s_l01In xP.Kind 1 2).bind fun v1 =>
 bif (!v1) then (some true)
 else ((s_l01In xP.Seq 1 1000000000).bind fun v2 =>
 bif (!v2) then (some true)
 else ((s_l01In xP.Tx 1 1000000000).bind fun v3 =>
 bif (!v3) then (some true)
 else ((s_l01In xP.Count 1 9).bind fun v4 =>
 bif (!v4) then (some true)
 else ((s_l01In xP.Part 0 (sb xP.Count 1)).bind fun v5 =>
 bif (!v5) then (some true)
 else (some (decide ((sln xP.Text) > 90))))))) : Option (Bool)).bind fun j1 =>
 bif j1 then (some false)
 else (bif (xP.Kind == 2) then (some true)
 else (some (xP.Count == 1)))
def s_l06Byte (xN : Int) : Option (ByteArray) :=
 some (strB [(IntKind.u8.wrap xN)])
def s_Sealed (xText : ByteArray) : Option (ByteArray × Bool) :=
 bif (decide ((sln xText) > 20000)) then (some ((bs []), false))
 else ((s_SumOf xText).bind fun v1 =>
 (s_l02Four v1).bind fun v2 =>
 (cat xText v2).bind fun x1 =>
 some (x1, true))
def s_PageText (xP : Page) : Option (ByteArray × Bool) :=
 (s_PageOk xP).bind fun v1 =>
 bif (!v1) then (some ((bs []), false))
 else ((s_l06Byte xP.Kind).bind fun v2 =>
 (s_l01Var xP.Seq).bind fun v3 =>
 (cat v2 v3).bind fun x1 =>
 (s_l01Var xP.Tx).bind fun v4 =>
 (cat x1 v4).bind fun x2 =>
 (s_l01Var xP.Part).bind fun v5 =>
 (cat x2 v5).bind fun x3 =>
 (s_l01Var xP.Count).bind fun v6 =>
 (cat x3 v6).bind fun x4 =>
 (cat x4 xP.Text).bind fun x5 =>
 (s_Sealed x5).bind fun v7 =>
 some (v7.1, v7.2))
def s_ReadPage (xT : ByteArray) : Option (Page × Bool) :=
 (s_Unsealed xT).bind fun v1 =>
 (bif (!v1.2) then (some true)
 else (some (decide ((sln v1.1) < 1))) : Option (Bool)).bind fun j1 =>
 (s_l06Var (l06Cur.mk v1.1 1 j1)).bind fun v2 =>
 (s_l06Var v2.2).bind fun v3 =>
 (s_l06Var v3.2).bind fun v4 =>
 (s_l06Var v4.2).bind fun v5 =>
 bif v5.2.bad_ then (some ((Page.mk 0 0 0 0 0 (bs [])), false))
 else ((sx v1.1 0).bind fun x1 =>
 (sub v1.1 v5.2.at_ (sln v1.1)).bind fun x2 =>
 (s_PageText (Page.mk (IntKind.i64.wrap x1) v2.1 v3.1 v4.1 v5.1 x2)).bind fun v6 =>
 (bif (!v6.2) then (some true)
 else (some (!(seq v6.1 xT))) : Option (Bool)).bind fun j2 =>
 bif j2 then (some ((Page.mk 0 0 0 0 0 (bs [])), false))
 else (some ((Page.mk (IntKind.i64.wrap x1) v2.1 v3.1 v4.1 v5.1 x2), true)))
def s_ScanAll_b2 (xF : Flash) (yB1 : Int) (yOut2 : List Found) (yK1 : Int) : Option ((List Found × Int) ⊕ (List Found)) :=
 (gi xF.Blocks yB1).bind fun x1 =>
 bif (decide (yK1 < (ln x1.Leaves))) then ((s_ReadLeaf xF yB1 yK1).bind fun v1 =>
 (s_ReadPage v1.1).bind fun v2 =>
 (bif v1.2 then (some v2.2)
 else (some false) : Option (Bool)).bind fun j1 =>
 bif j1 then ((ap 72 yOut2 [(Found.mk yB1 yK1 v2.1)]).bind fun q1 =>
 some (.inl (q1, (ad yK1 1))))
 else (some (.inl (yOut2, (ad yK1 1)))))
 else (some (.inr yOut2))
def s_ScanAll_b1 (xF : Flash) (yOut1 : List Found) (yB1 : Int) : Option ((List Found × Int) ⊕ (List Found)) :=
 bif (decide (yB1 < (ln xF.Blocks))) then ((loopO (fun s : List Found × Int => s_ScanAll_b2 xF yB1 s.1 s.2) (yOut1, 0)).bind fun v3 =>
 some (.inl (v3, (ad yB1 1))))
 else (some (.inr yOut1))
def s_ScanAll_b4 (yOut4 : List Found) (yK2 : Int) : Option ((List Found × Int) ⊕ (List Found)) :=
 (bif (decide (yK2 > 0)) then ((gi yOut4 (sb yK2 1)).bind fun x2 =>
 (gi yOut4 yK2).bind fun x3 =>
 some (decide (x2.Page.Seq > x3.Page.Seq)))
 else (some false) : Option (Bool)).bind fun j2 =>
 bif j2 then ((gi yOut4 yK2).bind fun x4 =>
 (gi yOut4 (sb yK2 1)).bind fun x5 =>
 (gi yOut4 yK2).bind fun x6 =>
 (gi (si yOut4 yK2 x5) (sb yK2 1)).bind fun x7 =>
 some (.inl ((si (si yOut4 yK2 x5) (sb yK2 1) x4), (sb yK2 1))))
 else (some (.inr yOut4))
def s_ScanAll_b3 (yOut3 : List Found) (yI1 : Int) : Option ((List Found × Int) ⊕ (List Found)) :=
 bif (decide (yI1 < (ln yOut3))) then ((loopO (fun s : List Found × Int => s_ScanAll_b4 s.1 s.2) (yOut3, yI1)).bind fun v5 =>
 some (.inl (v5, (ad yI1 1))))
 else (some (.inr yOut3))
def s_ScanAll (xF : Flash) : Option (List Found) :=
 (loopO (fun s : List Found × Int => s_ScanAll_b1 xF s.1 s.2) ([], 0)).bind fun v4 =>
 (loopO (fun s : List Found × Int => s_ScanAll_b3 s.1 s.2) (v4, 1)).bind fun v6 =>
 some v6
def s_l13Newest_b1 (xList : List Found) (xChunk : Int) (yI1 : Int) : Option ((Int) ⊕ ((Unit) ⊕ ((Found × Bool)))) :=
 bif (decide (yI1 ≥ 0)) then (((gi xList yI1).bind fun x1 =>
 bif (x1.Page.Kind == 1) then ((gi xList yI1).bind fun x2 =>
 some (x2.Page.Tx == xChunk))
 else (some false) : Option (Bool)).bind fun j1 =>
 bif j1 then ((gi xList yI1).bind fun x3 =>
 some (.inr (.inr (x3, true))))
 else (some (.inl (sb yI1 1))))
 else (some (.inr (.inl ())))
def s_l13Newest (xList : List Found) (xChunk : Int) : Option (Found × Bool) :=
 (loopO (fun s : Int => s_l13Newest_b1 xList xChunk s) (sb (ln xList) 1)).bind (Sum.elim (fun v1 => (some ((Found.mk 0 0 (Page.mk 0 0 0 0 0 (bs []))), false))) some)
def s_l04Tokens_b1 (xT : ByteArray) (yOut1 : List Token) (yAt1 : Int) : Option ((List Token × Int) ⊕ ((List Token) ⊕ ((List Token × Bool)))) :=
 bif (decide (yAt1 < (sln xT))) then ((sx xT yAt1).bind fun x1 =>
 bif (decide ((IntKind.i64.wrap x1) > 128)) then (bif (decide ((ad yAt1 2) > (sln xT))) then (some (.inr (.inr (yOut1, false))))
 else ((sx xT (ad yAt1 1)).bind fun x2 =>
 (ap 32 yOut1 [(Token.mk (IntKind.i64.wrap x2) (sb (IntKind.i64.wrap x1) 128) (bs []))]).bind fun q1 =>
 some (.inl (q1, (ad yAt1 2)))))
 else (bif (decide ((ad (ad yAt1 1) (IntKind.i64.wrap x1)) > (sln xT))) then (some (.inr (.inr (yOut1, false))))
 else ((sub xT (ad yAt1 1) (ad (ad yAt1 1) (IntKind.i64.wrap x1))).bind fun x3 =>
 (ap 32 yOut1 [(Token.mk 0 0 x3)]).bind fun q2 =>
 some (.inl (q2, (ad (ad yAt1 1) (IntKind.i64.wrap x1)))))))
 else (some (.inr (.inl yOut1)))
def s_l04Tokens (xT : ByteArray) : Option (List Token × Bool) :=
 (loopO (fun s : List Token × Int => s_l04Tokens_b1 xT s.1 s.2) ([], 0)).bind (Sum.elim (fun v1 => (some (v1, true))) some)
def s_PlainOf_b2 (x1 : Token) (yOut2 : List Int) (yK1 : Int) : Option ((List Int × Int) ⊕ (List Int)) :=
 bif (decide (yK1 < x1.Size)) then ((gi yOut2 (sb (ln yOut2) x1.Back)).bind fun x2 =>
 (ap 1 yOut2 [x2]).bind fun q2 =>
 some (.inl (q2, (ad yK1 1))))
 else (some (.inr yOut2))
def s_PlainOf_b1 (xList : List Token) (yOut1 : List Int) (yI1 : Int) : Option ((List Int × Int) ⊕ ((List Int) ⊕ ((ByteArray × Bool)))) :=
 bif (decide (yI1 < (ln xList))) then ((gi xList yI1).bind fun x1 =>
 (bif (x1.Back == 0) then (((s_l01In (sln x1.Text) 1 31).bind fun v1 =>
 bif (!v1) then (some true)
 else (some (x1.Size != 0)) : Option (Bool)).bind fun j2 =>
 bif j2 then (some (.inr (.inr (.inr ((bs []), false)))))
 else ((ap 1 yOut1 (sby x1.Text)).bind fun q1 =>
 some (.inl q1)))
 else (((s_l01In x1.Back 1 (ln yOut1)).bind fun v2 =>
 bif (!v2) then (some true)
 else ((s_l01In x1.Size 1 31).bind fun v3 =>
 bif (!v3) then (some true)
 else (some (!(seq x1.Text (bs []))))) : Option (Bool)).bind fun j3 =>
 bif j3 then (some (.inr (.inr (.inr ((bs []), false)))))
 else ((loopO (fun s : List Int × Int => s_PlainOf_b2 x1 s.1 s.2) (yOut1, 0)).bind fun v4 =>
 some (.inl v4))) : Option ((List Int) ⊕ ((List Int × Int) ⊕ ((List Int) ⊕ ((ByteArray × Bool)))))).bind (Sum.elim (fun j1 => (bif (decide ((ln j1) > 64)) then (some (.inr (.inr ((bs []), false))))
 else (some (.inl (j1, (ad yI1 1)))))) some))
 else (some (.inr (.inl yOut1)))
def s_PlainOf (xList : List Token) : Option (ByteArray × Bool) :=
 (loopO (fun s : List Int × Int => s_PlainOf_b1 xList s.1 s.2) ([], 0)).bind (Sum.elim (fun v5 => (some ((strB v5), true))) some)
def s_l04Match_b1 (xS : ByteArray) (xFrom : Int) (xAt : Int) (yN1 : Int) : Option ((Int) ⊕ (Int)) :=
 (bif (decide (yN1 < 31)) then (bif (decide ((ad xAt yN1) < (sln xS))) then ((sx xS (ad xFrom yN1)).bind fun x1 =>
 (sx xS (ad xAt yN1)).bind fun x2 =>
 some (x1 == x2))
 else (some false))
 else (some false) : Option (Bool)).bind fun j1 =>
 bif j1 then (some (.inl (ad yN1 1)))
 else (some (.inr yN1))
def s_l04Match (xS : ByteArray) (xFrom : Int) (xAt : Int) : Option (Int) :=
 (loopO (fun s : Int => s_l04Match_b1 xS xFrom xAt s) 0).bind fun v1 =>
 some v1
def s_TokensOf_b2 (xS : ByteArray) (yAt1 : Int) (yBest1 : Int) (yBack1 : Int) (yFrom1 : Int) : Option ((Int × Int × Int) ⊕ (Int × Int)) :=
 bif (decide (yFrom1 ≥ 0)) then ((s_l04Match xS yFrom1 yAt1).bind fun v1 =>
 (bif (decide (v1 ≥ 4)) then (some (decide (v1 > yBest1)))
 else (some false) : Option (Bool)).bind fun j1 =>
 bif j1 then (some (.inl (v1, (sb yAt1 yFrom1), (sb yFrom1 1))))
 else (some (.inl (yBest1, yBack1, (sb yFrom1 1)))))
 else (some (.inr (yBest1, yBack1)))
def s_TokensOf_b1 (xS : ByteArray) (yOut1 : List Token) (yAt1 : Int) : Option ((List Token × Int) ⊕ (List Token)) :=
 bif (decide (yAt1 < (sln xS))) then ((loopO (fun s : Int × Int × Int => s_TokensOf_b2 xS yAt1 s.1 s.2.1 s.2.2) (0, 0, (sb yAt1 1))).bind fun v2 =>
 bif (decide (v2.1 > 0)) then ((ap 32 yOut1 [(Token.mk v2.2 v2.1 (bs []))]).bind fun q1 =>
 some (.inl (q1, (ad yAt1 v2.1))))
 else ((bif (decide ((sb (ln yOut1) 1) ≥ 0)) then ((gi yOut1 (sb (ln yOut1) 1)).bind fun x1 =>
 bif (x1.Back == 0) then ((gi yOut1 (sb (ln yOut1) 1)).bind fun x2 =>
 some (decide ((sln x2.Text) < 31)))
 else (some false))
 else (some false) : Option (Bool)).bind fun j2 =>
 bif j2 then ((gi yOut1 (sb (ln yOut1) 1)).bind fun x3 =>
 (sub xS yAt1 (ad yAt1 1)).bind fun x4 =>
 (cat x3.Text x4).bind fun x5 =>
 (gi yOut1 (sb (ln yOut1) 1)).bind fun x6 =>
 some (.inl ((si yOut1 (sb (ln yOut1) 1) (Token.mk x6.Back x6.Size x5)), (ad yAt1 1))))
 else ((sub xS yAt1 (ad yAt1 1)).bind fun x7 =>
 (ap 32 yOut1 [(Token.mk 0 0 x7)]).bind fun q2 =>
 some (.inl (q2, (ad yAt1 1))))))
 else (some (.inr yOut1))
def s_TokensOf (xS : ByteArray) : Option (List Token) :=
 bif (decide ((sln xS) > 64)) then (some [])
 else ((loopO (fun s : List Token × Int => s_TokensOf_b1 xS s.1 s.2) ([], 0)).bind fun v3 =>
 some v3)
def s_PackText_b1 (v1 : List Token) (yZ1 : ByteArray) (yI1 : Int) : Option ((ByteArray × Int) ⊕ (ByteArray)) :=
 bif (decide (yI1 < (ln v1))) then ((gi v1 yI1).bind fun x1 =>
 bif (x1.Back == 0) then ((cat yZ1 (strB [(IntKind.u8.wrap (sln x1.Text))])).bind fun x2 =>
 (cat x2 x1.Text).bind fun x3 =>
 some (.inl (x3, (ad yI1 1))))
 else ((cat yZ1 (strB [(IntKind.u8.wrap (ad 128 x1.Size)), (IntKind.u8.wrap x1.Back)])).bind fun x4 =>
 some (.inl (x4, (ad yI1 1)))))
 else (some (.inr yZ1))
def s_PackText (xS : ByteArray) : Option (ByteArray × Bool) :=
 bif (decide ((sln xS) > 64)) then (some ((bs []), false))
 else ((s_TokensOf xS).bind fun v1 =>
 (loopO (fun s : ByteArray × Int => s_PackText_b1 v1 s.1 s.2) ((bs [122]), 0)).bind fun v2 =>
 bif (decide ((ad (sln xS) 1) ≤ (sln v2))) then ((cat (bs [114]) xS).bind fun x5 =>
 some (x5, true))
 else (some (v2, true)))
def s_UnpackText (xT : ByteArray) : Option (ByteArray × Bool) :=
 bif ((sln xT) == 0) then (some ((bs []), false))
 else ((sub xT 1 (sln xT)).bind fun x1 =>
 (sx xT 0).bind fun x2 =>
 (bif (x2 == 122) then ((sub xT 1 (sln xT)).bind fun x3 =>
 (s_l04Tokens x3).bind fun v1 =>
 (s_PlainOf v1.1).bind fun v2 =>
 bif (!v1.2) then (some (.inr ((bs []), false)))
 else (bif (!v2.2) then (some (.inr ((bs []), false)))
 else (some (.inl v2.1))))
 else (some (.inl x1)) : Option ((ByteArray) ⊕ ((ByteArray × Bool)))).bind (Sum.elim (fun j1 => ((s_PackText j1).bind fun v3 =>
 (bif (!v3.2) then (some true)
 else (some (!(seq v3.1 xT))) : Option (Bool)).bind fun j2 =>
 bif j2 then (some ((bs []), false))
 else (some (j1, true)))) some))
def s_l13Text (xList : List Found) (xChunk : Int) : Option (ByteArray × Bool) :=
 (s_l13Newest xList xChunk).bind fun v1 =>
 bif (!v1.2) then (some ((bs []), false))
 else ((s_UnpackText v1.1.Page.Text).bind fun v2 =>
 some (v2.1, v2.2))
def s_l13Same_b1 (xList : List Found) (xLive : List Int) (xText : ByteArray) (yI1 : Int) : Option ((Int) ⊕ ((Unit) ⊕ (Int))) :=
 bif (decide (yI1 < (ln xLive))) then ((gi xLive yI1).bind fun x1 =>
 (s_l13Text xList x1).bind fun v1 =>
 (bif v1.2 then (some (seq v1.1 xText))
 else (some false) : Option (Bool)).bind fun j1 =>
 bif j1 then ((gi xLive yI1).bind fun x2 =>
 some (.inr (.inr x2)))
 else (some (.inl (ad yI1 1))))
 else (some (.inr (.inl ())))
def s_l13Same (xList : List Found) (xLive : List Int) (xText : ByteArray) : Option (Int) :=
 (loopO (fun s : Int => s_l13Same_b1 xList xLive xText s) 0).bind (Sum.elim (fun v2 => (some 0)) some)
def s_FindSame (xF : Flash) (xLive : List Int) (xText : ByteArray) : Option (Int) :=
 (s_ScanAll xF).bind fun v1 =>
 (s_l13Same v1 xLive xText).bind fun v2 =>
 some v2
def s_PlanOf (xD : Device) (xQ : Ask) : Option (List Rec × ByteArray × Int) :=
 (s_AskOk xQ).bind fun v1 =>
 bif (!v1) then (some ([], (bs []), 3))
 else ((s_l12At xD.Store xQ.Vol).bind fun v2 =>
 (bif (xQ.Kind == 3) then (some true)
 else (some (xQ.Kind == 4)) : Option (Bool)).bind fun j1 =>
 bif j1 then (bif (decide (v2 ≥ 0)) then (some ([], (bs []), 2))
 else ((bif (xQ.Kind == 4) then ((s_l12At xD.Store xQ.Of).bind fun v3 =>
 some (decide (v3 < 0)))
 else (some false) : Option (Bool)).bind fun j2 =>
 bif j2 then (some ([], (bs []), 1))
 else (bif (decide ((ln xD.Store.Vols) ≥ 3)) then (some ([], (bs []), 4))
 else (some ([(Rec.mk 2 xQ.Vol xQ.Of 0)], (bs []), 0)))))
 else (bif (!(decide (v2 ≥ 0))) then (some ([], (bs []), 1))
 else (bif (xQ.Kind == 1) then ((s_LiveOf xD.Store).bind fun v4 =>
 (s_FindSame xD.Flash v4 xQ.Text).bind fun v5 =>
 (bif (v5 == 0) then ((s_PackText xQ.Text).bind fun v6 =>
 some (xD.Store.Next, v6.1))
 else (some (v5, (bs []))) : Option (Int × ByteArray)).bind fun j3 =>
 some ([(Rec.mk 4 xQ.Vol xQ.Sector j3.1)], j3.2, 0))
 else (bif (xQ.Kind == 2) then (some ([(Rec.mk 5 xQ.Vol xQ.Sector 0)], (bs []), 0))
 else (bif (xQ.Kind == 5) then (some ([(Rec.mk 3 xQ.Vol 0 0)], (bs []), 0))
 else (some ([], (bs []), 0)))))))
def i_in (xN : Int) (xLow : Int) (xHigh : Int) : Option (Bool) :=
 bif (decide (xN ≥ xLow)) then (some (decide (xN ≤ xHigh)))
 else (some false)
def i_AskOk (xQ : Ask) : Option (Bool) :=
 ((i_in xQ.Kind 1 6).bind fun v1 =>
 bif (!v1) then (some true)
 else ((i_in xQ.Vol 1 9).bind fun v2 =>
 some (!v2)) : Option (Bool)).bind fun j1 =>
 bif j1 then (some false)
 else ((bif (xQ.Kind == 1) then (some (15, 0, 64))
 else (bif (xQ.Kind == 2) then (bif (xQ.Kind == 2) then (some (15, 0, 0))
 else (bif (xQ.Kind == 4) then (some (0, 9, 0))
 else (some (0, 0, 0))))
 else (bif (xQ.Kind == 6) then (some (15, 0, 0))
 else (bif (xQ.Kind == 4) then (some (0, 9, 0))
 else (some (0, 0, 0))))) : Option (Int × Int × Int)).bind fun j2 =>
 (i_in xQ.Sector 0 j2.1).bind fun v3 =>
 bif v3 then ((i_in xQ.Of (if 1 < j2.2.1 then 1 else j2.2.1) j2.2.1).bind fun v4 =>
 bif v4 then (some (decide ((sln xQ.Text) ≤ j2.2.2)))
 else (some false))
 else (some false))
def i_volAt_b1 (xS : Store) (xId : Int) (y1 : Int) : Option ((Int) ⊕ ((Unit) ⊕ (Int))) :=
 bif (decide (y1 < (ln xS.Vols))) then ((gi xS.Vols y1).bind fun x1 =>
 bif (x1.Id == xId) then (some (.inr (.inr y1)))
 else (some (.inl (ad y1 1))))
 else (some (.inr (.inl ())))
def i_volAt (xS : Store) (xId : Int) : Option (Int) :=
 (loopO (fun s : Int => i_volAt_b1 xS xId s) 0).bind (Sum.elim (fun v1 => (some (-1))) some)
def i_refusal (xS : Store) (xQ : Ask) : Option (Int) :=
 (i_volAt xS xQ.Vol).bind fun v1 =>
 (bif (xQ.Kind != 3) then (some (xQ.Kind != 4))
 else (some false) : Option (Bool)).bind fun j1 =>
 bif j1 then (bif (!(decide (v1 ≥ 0))) then (some 1)
 else (some 0))
 else (bif (decide (v1 ≥ 0)) then (some 2)
 else ((bif (xQ.Kind == 4) then ((i_volAt xS xQ.Of).bind fun v2 =>
 some (decide (v2 < 0)))
 else (some false) : Option (Bool)).bind fun j2 =>
 bif j2 then (some 1)
 else (bif (decide ((ln xS.Vols) ≥ 3)) then (some 4)
 else (some 0))))
def i_isRoot (xA : Arena) (xRoot : Int) : Option (Bool) :=
 (i_in xRoot 0 (sb (ln xA.Knots) 1)).bind fun v1 =>
 bif v1 then ((gi xA.Knots xRoot).bind fun x1 =>
 some (!x1.Leaf))
 else (some false)
def i_ArenaOk_b2 (xA : Arena) (y1 : Int) (x1 : Knot) (y2 : Int) : Option ((Int) ⊕ ((Unit) ⊕ ((Int) ⊕ ((Unit) ⊕ (Bool))))) :=
 bif (decide (y2 < (ln x1.Kids))) then ((gi x1.Kids y2).bind fun x2 =>
 (bif x1.Leaf then (bif (decide (x2 < 0)) then (some true)
 else (bif (!x1.Leaf) then (bif (x2 != (-1)) then ((i_in x2 0 (sb y1 1)).bind fun v1 =>
 bif (!v1) then (some true)
 else ((gi xA.Knots x2).bind fun x3 =>
 some (!x3.Leaf)))
 else (some false))
 else (some false)))
 else (bif (!x1.Leaf) then (bif (x2 != (-1)) then ((i_in x2 0 (sb y1 1)).bind fun v2 =>
 bif (!v2) then (some true)
 else ((gi xA.Knots x2).bind fun x4 =>
 some (!x4.Leaf)))
 else (some false))
 else (some false)) : Option (Bool)).bind fun j1 =>
 bif j1 then (some (.inr (.inr (.inr (.inr false)))))
 else (some (.inl (ad y2 1))))
 else (some (.inr (.inl ())))
def i_ArenaOk_b1 (xA : Arena) (y1 : Int) : Option ((Int) ⊕ ((Unit) ⊕ (Bool))) :=
 bif (decide (y1 < (ln xA.Knots))) then ((gi xA.Knots y1).bind fun x1 =>
 bif ((ln x1.Kids) != 4) then (some (.inr (.inr false)))
 else ((loopO (fun s : Int => i_ArenaOk_b2 xA y1 x1 s) 0).bind (Sum.elim (fun v3 => (some (.inl (ad y1 1)))) some)))
 else (some (.inr (.inl ())))
def i_ArenaOk (xA : Arena) : Option (Bool) :=
 (loopO (fun s : Int => i_ArenaOk_b1 xA s) 0).bind (Sum.elim (fun v4 => (some true)) some)
def i_numberAt (xA : Arena) (xRoot : Int) (xSector : Int) : Option (Int) :=
 (gi xA.Knots xRoot).bind fun x1 =>
 (gi x1.Kids (qu xSector 4)).bind fun x2 =>
 bif (decide (x2 < 0)) then (some 0)
 else ((gi xA.Knots x2).bind fun x3 =>
 (gi x3.Kids (Int.tmod xSector 4)).bind fun x4 =>
 some x4)
def i_GetAt (xA : Arena) (xRoot : Int) (xSector : Int) : Option (Int) :=
 ((i_in xSector 0 15).bind fun v1 =>
 bif (!v1) then (some true)
 else ((i_isRoot xA xRoot).bind fun v2 =>
 bif (!v2) then (some true)
 else ((i_ArenaOk xA).bind fun v3 =>
 some (!v3))) : Option (Bool)).bind fun j1 =>
 bif j1 then (some 0)
 else ((i_numberAt xA xRoot xSector).bind fun v4 =>
 some v4)
def i_AllAt_b1 (xA : Arena) (xRoot : Int) (yOut1 : List Int) (y1 : Int) : Option ((List Int × Int) ⊕ (List Int)) :=
 bif (decide (y1 < 16)) then ((i_GetAt xA xRoot y1).bind fun v1 =>
 (ap 8 yOut1 [v1]).bind fun q1 =>
 some (.inl (q1, (ad y1 1))))
 else (some (.inr yOut1))
def i_AllAt (xA : Arena) (xRoot : Int) : Option (List Int) :=
 (loopO (fun s : List Int × Int => i_AllAt_b1 xA xRoot s.1 s.2) ([], 0)).bind fun v2 =>
 some v2
def i_chunksOf_b2 (v1 : List Int) (yOut2 : List Int) (y2 : Int) : Option ((List Int × Int) ⊕ (List Int)) :=
 bif (decide (y2 < (ln v1))) then ((gi v1 y2).bind fun x2 =>
 bif (decide (x2 > 0)) then ((ap 8 yOut2 [x2]).bind fun q1 =>
 some (.inl (q1, (ad y2 1))))
 else (some (.inl (yOut2, (ad y2 1)))))
 else (some (.inr yOut2))
def i_chunksOf_b1 (xS : Store) (yOut1 : List Int) (y1 : Int) : Option ((List Int × Int) ⊕ (List Int)) :=
 bif (decide (y1 < (ln xS.Vols))) then ((gi xS.Vols y1).bind fun x1 =>
 (i_AllAt xS.Arena x1.Root).bind fun v1 =>
 (loopO (fun s : List Int × Int => i_chunksOf_b2 v1 s.1 s.2) (yOut1, 0)).bind fun v2 =>
 some (.inl (v2, (ad y1 1))))
 else (some (.inr yOut1))
def i_chunksOf (xS : Store) : Option (List Int) :=
 (loopO (fun s : List Int × Int => i_chunksOf_b1 xS s.1 s.2) ([], 0)).bind fun v3 =>
 some v3
def i_LiveOf_b1 (v2 : List Int) (yOut1 : List Int) (y1 : Int) : Option ((List Int × Int) ⊕ (List Int)) :=
 bif (decide (y1 < (ln v2))) then ((gi v2 y1).bind fun x1 =>
 (bif (y1 == 0) then (some true)
 else ((gi v2 (sb y1 1)).bind fun x2 =>
 some (x2 != x1)) : Option (Bool)).bind fun j1 =>
 bif j1 then ((ap 8 yOut1 [x1]).bind fun q1 =>
 some (.inl (q1, (ad y1 1))))
 else (some (.inl (yOut1, (ad y1 1)))))
 else (some (.inr yOut1))
def i_LiveOf (xS : Store) : Option (List Int) :=
 (i_chunksOf xS).bind fun v1 =>
 (sortI v1).bind fun v2 =>
 (loopO (fun s : List Int × Int => i_LiveOf_b1 v2 s.1 s.2) ([], 0)).bind fun v3 =>
 some v3
def i_SumMore_b2 (ySum2 : Int) (y1 : Int) : Option ((Int × Int) ⊕ (Int)) :=
 bif (decide (y1 < 8)) then (bif ((an ySum2 1) == 1) then (some (.inl ((xr (Int.fdiv ySum2 (2 ^ (min (1 : Int).toNat IntKind.u32.bits))) 3558460437), (ad y1 1))))
 else (some (.inl ((Int.fdiv ySum2 (2 ^ (min (1 : Int).toNat IntKind.u32.bits))), (ad y1 1)))))
 else (some (.inr ySum2))
def i_SumMore_b1 (xText : ByteArray) (ySum1 : Int) (yI1 : Int) : Option ((Int × Int) ⊕ (Int)) :=
 bif (decide (yI1 < (sln xText))) then ((sx xText yI1).bind fun x1 =>
 (loopO (fun s : Int × Int => i_SumMore_b2 s.1 s.2) ((xr ySum1 (IntKind.u32.wrap x1)), 0)).bind fun v1 =>
 some (.inl (v1, (ad yI1 1))))
 else (some (.inr ySum1))
def i_SumMore (xSum : Int) (xText : ByteArray) : Option (Int) :=
 (loopO (fun s : Int × Int => i_SumMore_b1 xText s.1 s.2) (xSum, 0)).bind fun v2 =>
 some v2
def i_SumOf (xText : ByteArray) : Option (Int) :=
 (i_SumMore 4294967295 xText).bind fun v1 =>
 some v1
def i_Sealed (xText : ByteArray) : Option (ByteArray × Bool) :=
 bif (decide ((sln xText) > 20000)) then (some ((bs []), false))
 else ((i_SumOf xText).bind fun v1 =>
 (cat xText (strB [(IntKind.u8.wrap (Int.fdiv v1 (2 ^ (min (24 : Int).toNat IntKind.u32.bits)))), (IntKind.u8.wrap (Int.fdiv v1 (2 ^ (min (16 : Int).toNat IntKind.u32.bits)))), (IntKind.u8.wrap (Int.fdiv v1 (2 ^ (min (8 : Int).toNat IntKind.u32.bits)))), (IntKind.u8.wrap v1)])).bind fun x1 =>
 some (x1, true))
def i_Unsealed (xText : ByteArray) : Option (ByteArray × Bool) :=
 bif (decide ((sln xText) < 4)) then (some ((bs []), false))
 else ((sub xText 0 (sb (sln xText) 4)).bind fun x1 =>
 (i_Sealed x1).bind fun v1 =>
 (bif (!v1.2) then (some true)
 else (some (!(seq v1.1 xText))) : Option (Bool)).bind fun j1 =>
 bif j1 then (some ((bs []), false))
 else (some (x1, true)))
def i_ReadVar_b1 (xText : ByteArray) (xAt : Int) (yN1 : Int) (yK1 : Int) : Option ((Int × Int) ⊕ ((Unit) ⊕ ((Int × Int × Bool)))) :=
 (bif (decide (yK1 < 5)) then (bif (decide (xAt ≥ 0)) then (some (decide (xAt < (sb (sln xText) yK1))))
 else (some false))
 else (some false) : Option (Bool)).bind fun j1 =>
 bif j1 then ((sx xText (ad xAt yK1)).bind fun x1 =>
 (shl .i64 (Int.tmod (IntKind.i64.wrap x1) 128) (ml 7 yK1)).bind fun x2 =>
 bif (decide ((IntKind.i64.wrap x1) ≥ 128)) then (some (.inl ((ad yN1 x2), (ad yK1 1))))
 else ((bif ((IntKind.i64.wrap x1) == 0) then (bif (decide (yK1 > 0)) then (some true)
 else (some (decide ((ad yN1 x2) > 1000000000))))
 else (some (decide ((ad yN1 x2) > 1000000000))) : Option (Bool)).bind fun j2 =>
 bif j2 then (some (.inr (.inr (0, 0, false))))
 else (some (.inr (.inr ((ad yN1 x2), (ad (ad xAt yK1) 1), true))))))
 else (some (.inr (.inl ())))
def i_ReadVar (xText : ByteArray) (xAt : Int) : Option (Int × Int × Bool) :=
 (loopO (fun s : Int × Int => i_ReadVar_b1 xText xAt s.1 s.2) (0, 0)).bind (Sum.elim (fun v1 => (some (0, 0, false))) some)
def i_PageOk (xP : Page) : Option (Bool) :=
 ((i_in xP.Seq 1 1000000000).bind fun v1 =>
 bif (!v1) then (some true)
 else ((i_in xP.Tx 1 1000000000).bind fun v2 =>
 bif (!v2) then (some true)
 else ((i_in xP.Count 1 9).bind fun v3 =>
 bif (!v3) then (some true)
 else ((i_in xP.Part 0 (sb xP.Count 1)).bind fun v4 =>
 bif (!v4) then (some true)
 else (some (decide ((sln xP.Text) > 90)))))) : Option (Bool)).bind fun j1 =>
 bif j1 then (some false)
 else (bif (xP.Kind == 2) then (some true)
 else (bif (xP.Kind == 1) then (some (xP.Count == 1))
 else (some false)))
def i_ReadPage_b1 (v1 : ByteArray × Bool) (yAt1 : Int) (y1 : Int) (yL01 : Int) (yL11 : Int) (yL21 : Int) (yL31 : Int) : Option ((Int × Int × Int × Int × Int × Int) ⊕ ((Int × Int × Int × Int × Int) ⊕ ((Page × Bool)))) :=
 bif (decide (y1 < 4)) then ((i_ReadVar v1.1 yAt1).bind fun v2 =>
 bif (!v2.2.2) then (some (.inr (.inr ((Page.mk 0 0 0 0 0 (bs [])), false))))
 else (bif (y1 == 0) then (some (.inl (v2.2.1, (ad y1 1), v2.1, yL11, yL21, yL31)))
 else (bif (y1 == 1) then (some (.inl (v2.2.1, (ad y1 1), yL01, v2.1, yL21, yL31)))
 else (bif (y1 == 2) then (some (.inl (v2.2.1, (ad y1 1), yL01, yL11, v2.1, yL31)))
 else (bif (y1 == 3) then (some (.inl (v2.2.1, (ad y1 1), yL01, yL11, yL21, v2.1)))
 else none)))))
 else (some (.inr (.inl (yAt1, yL01, yL11, yL21, yL31))))
def i_ReadPage (xT : ByteArray) : Option (Page × Bool) :=
 (i_Unsealed xT).bind fun v1 =>
 (bif (!v1.2) then (some true)
 else (some (seq v1.1 (bs []))) : Option (Bool)).bind fun j1 =>
 bif j1 then (some ((Page.mk 0 0 0 0 0 (bs [])), false))
 else ((loopO (fun s : Int × Int × Int × Int × Int × Int => i_ReadPage_b1 v1 s.1 s.2.1 s.2.2.1 s.2.2.2.1 s.2.2.2.2.1 s.2.2.2.2.2) (1, 0, 0, 0, 0, 0)).bind (Sum.elim (fun v3 => ((sx v1.1 0).bind fun x1 =>
 (sub v1.1 v3.1 (sln v1.1)).bind fun x2 =>
 (i_PageOk (Page.mk (IntKind.i64.wrap x1) v3.2.1 v3.2.2.1 v3.2.2.2.1 v3.2.2.2.2 x2)).bind fun v4 =>
 bif (!v4) then (some ((Page.mk 0 0 0 0 0 (bs [])), false))
 else (some ((Page.mk (IntKind.i64.wrap x1) v3.2.1 v3.2.2.1 v3.2.2.2.1 v3.2.2.2.2 x2), true)))) some))
def i_ScanAll_1 (x : Found) : Int := x.Page.Seq
def i_ScanAll_b2 (y1 : Int) (x1 : Block) (y2 : Int) (yOut02 : List Found) : Option ((Int × List Found) ⊕ (List Found)) :=
 bif (decide (y2 < (ln x1.Leaves))) then ((gi x1.Leaves y2).bind fun x2 =>
 (i_ReadPage x2.Text).bind fun v1 =>
 (bif v1.2 then (some (x2.Is == 1))
 else (some false) : Option (Bool)).bind fun j1 =>
 bif j1 then ((ap 72 yOut02 [(Found.mk y1 y2 v1.1)]).bind fun q1 =>
 some (.inl ((ad y2 1), q1)))
 else (some (.inl ((ad y2 1), yOut02))))
 else (some (.inr yOut02))
def i_ScanAll_b1 (xF : Flash) (y1 : Int) (yOut01 : List Found) : Option ((Int × List Found) ⊕ (List Found)) :=
 bif (decide (y1 < (ln xF.Blocks))) then ((gi xF.Blocks y1).bind fun x1 =>
 (loopO (fun s : Int × List Found => i_ScanAll_b2 y1 x1 s.1 s.2) (0, yOut01)).bind fun v2 =>
 some (.inl ((ad y1 1), v2)))
 else (some (.inr yOut01))
def i_ScanAll (xF : Flash) : Option (List Found) :=
 (loopO (fun s : Int × List Found => i_ScanAll_b1 xF s.1 s.2) (0, [])).bind fun v3 =>
 (sort_stable_func (ltk i_ScanAll_1) v3 (ln v3)).bind fun v4 =>
 some v4
def i_dataOf_b1 (xChunk : Int) (v1 : List Found) (yOk1 : Bool) (y1 : Int) (yBest01 : Int) (yBest11 : Int) (yBest21 : Int) (yBest31 : Int) (yBest41 : Int) (yBest51 : Int) (yBest61 : Int) (yBest71 : ByteArray) : Option ((Bool × Int × Int × Int × Int × Int × Int × Int × Int × ByteArray) ⊕ (Bool × Int × Int × Int × Int × Int × Int × Int × ByteArray)) :=
 bif (decide (y1 < (ln v1))) then ((gi v1 y1).bind fun x1 =>
 (bif (x1.Page.Kind == 1) then (bif (x1.Page.Tx == xChunk) then (bif (!yOk1) then (some true)
 else (some (decide (x1.Page.Seq ≥ yBest31))))
 else (some false))
 else (some false) : Option (Bool)).bind fun j1 =>
 bif j1 then (some (.inl (true, (ad y1 1), x1.Block, x1.Leaf, x1.Page.Kind, x1.Page.Seq, x1.Page.Tx, x1.Page.Part, x1.Page.Count, x1.Page.Text)))
 else (some (.inl (yOk1, (ad y1 1), yBest01, yBest11, yBest21, yBest31, yBest41, yBest51, yBest61, yBest71))))
 else (some (.inr (yOk1, yBest01, yBest11, yBest21, yBest31, yBest41, yBest51, yBest61, yBest71)))
def i_dataOf (xF : Flash) (xChunk : Int) : Option (Found × Bool) :=
 (i_ScanAll xF).bind fun v1 =>
 (loopO (fun s : Bool × Int × Int × Int × Int × Int × Int × Int × Int × ByteArray => i_dataOf_b1 xChunk v1 s.1 s.2.1 s.2.2.1 s.2.2.2.1 s.2.2.2.2.1 s.2.2.2.2.2.1 s.2.2.2.2.2.2.1 s.2.2.2.2.2.2.2.1 s.2.2.2.2.2.2.2.2.1 s.2.2.2.2.2.2.2.2.2) (false, 0, 0, 0, 0, 0, 0, 0, 0, (bs []))).bind fun v2 =>
 some ((Found.mk v2.2.1 v2.2.2.1 (Page.mk v2.2.2.2.1 v2.2.2.2.2.1 v2.2.2.2.2.2.1 v2.2.2.2.2.2.2.1 v2.2.2.2.2.2.2.2.1 v2.2.2.2.2.2.2.2.2)), v2.1)
def i_tokensIn_b1 (yT1 : ByteArray) (yOut1 : List Token) : Option ((ByteArray × List Token) ⊕ ((List Token) ⊕ ((List Token × Bool)))) :=
 bif (!(seq yT1 (bs []))) then ((sx yT1 0).bind fun x1 =>
 (bif (decide ((IntKind.i64.wrap x1) ≥ 128)) then (some (decide ((sln yT1) ≥ 2)))
 else (some false) : Option (Bool)).bind fun j1 =>
 bif j1 then ((sx yT1 1).bind fun x2 =>
 (ap 32 yOut1 [(Token.mk (IntKind.i64.wrap x2) (sb (IntKind.i64.wrap x1) 128) (bs []))]).bind fun q1 =>
 (sub yT1 2 (sln yT1)).bind fun x3 =>
 some (.inl (x3, q1)))
 else ((bif (decide ((IntKind.i64.wrap x1) < 128)) then (some (decide ((IntKind.i64.wrap x1) < (sln yT1))))
 else (some false) : Option (Bool)).bind fun j2 =>
 bif j2 then ((sub yT1 1 (ad 1 (IntKind.i64.wrap x1))).bind fun x4 =>
 (ap 32 yOut1 [(Token.mk 0 0 x4)]).bind fun q2 =>
 (sub yT1 (ad 1 (IntKind.i64.wrap x1)) (sln yT1)).bind fun x5 =>
 some (.inl (x5, q2)))
 else (some (.inr (.inr ([], false))))))
 else (some (.inr (.inl yOut1)))
def i_tokensIn (xT : ByteArray) : Option (List Token × Bool) :=
 (loopO (fun s : ByteArray × List Token => i_tokensIn_b1 s.1 s.2) (xT, [])).bind (Sum.elim (fun v1 => (some (v1, true))) some)
def i_PlainOf_b2 (x1 : Token) (yOut2 : List Int) (y2 : Int) : Option ((List Int × Int) ⊕ (List Int)) :=
 bif (decide (y2 < x1.Size)) then ((gi yOut2 (sb (ln yOut2) x1.Back)).bind fun x2 =>
 (ap 1 yOut2 [x2]).bind fun q2 =>
 some (.inl (q2, (ad y2 1))))
 else (some (.inr yOut2))
def i_PlainOf_b1 (xList : List Token) (yOut1 : List Int) (y1 : Int) : Option ((List Int × Int) ⊕ ((List Int) ⊕ ((ByteArray × Bool)))) :=
 bif (decide (y1 < (ln xList))) then ((gi xList y1).bind fun x1 =>
 (bif (x1.Back == 0) then ((bif (x1.Size != 0) then (some true)
 else ((i_in (sln x1.Text) 1 31).bind fun v1 =>
 some (!v1)) : Option (Bool)).bind fun j2 =>
 bif j2 then (some (.inr (.inr (.inr ((bs []), false)))))
 else ((aps yOut1 x1.Text).bind fun q1 =>
 some (.inl q1)))
 else (((i_in x1.Back 1 (ln yOut1)).bind fun v2 =>
 bif (!v2) then (some true)
 else ((i_in x1.Size 1 31).bind fun v3 =>
 bif (!v3) then (some true)
 else (some (!(seq x1.Text (bs []))))) : Option (Bool)).bind fun j3 =>
 bif j3 then (some (.inr (.inr (.inr ((bs []), false)))))
 else ((loopO (fun s : List Int × Int => i_PlainOf_b2 x1 s.1 s.2) (yOut1, 0)).bind fun v4 =>
 some (.inl v4))) : Option ((List Int) ⊕ ((List Int × Int) ⊕ ((List Int) ⊕ ((ByteArray × Bool)))))).bind (Sum.elim (fun j1 => (bif (decide ((ln j1) > 64)) then (some (.inr (.inr ((bs []), false))))
 else (some (.inl (j1, (ad y1 1)))))) some))
 else (some (.inr (.inl yOut1)))
def i_PlainOf (xList : List Token) : Option (ByteArray × Bool) :=
 (loopO (fun s : List Int × Int => i_PlainOf_b1 xList s.1 s.2) ([], 0)).bind (Sum.elim (fun v5 => (some ((strB v5), true))) some)
def i_matchAt_b2 (xS : ByteArray) (xAt : Int) (yFrom1 : Int) (yN1 : Int) : Option ((Int) ⊕ (Int)) :=
 (bif (decide (yN1 < 31)) then (bif (decide ((ad xAt yN1) < (sln xS))) then ((sx xS (ad yFrom1 yN1)).bind fun x1 =>
 (sx xS (ad xAt yN1)).bind fun x2 =>
 some (x1 == x2))
 else (some false))
 else (some false) : Option (Bool)).bind fun j1 =>
 bif j1 then (some (.inl (ad yN1 1)))
 else (some (.inr yN1))
def i_matchAt_b1 (xS : ByteArray) (xAt : Int) (ySize1 : Int) (yBack1 : Int) (yFrom1 : Int) : Option ((Int × Int × Int) ⊕ (Int × Int)) :=
 bif (decide (yFrom1 ≥ 0)) then ((loopO (fun s : Int => i_matchAt_b2 xS xAt yFrom1 s) 0).bind fun v1 =>
 (bif (decide (v1 ≥ 4)) then (some (decide (v1 > ySize1)))
 else (some false) : Option (Bool)).bind fun j2 =>
 bif j2 then (some (.inl (v1, (sb xAt yFrom1), (sb yFrom1 1))))
 else (some (.inl (ySize1, yBack1, (sb yFrom1 1)))))
 else (some (.inr (ySize1, yBack1)))
def i_matchAt (xS : ByteArray) (xAt : Int) : Option (Int × Int) :=
 (loopO (fun s : Int × Int × Int => i_matchAt_b1 xS xAt s.1 s.2.1 s.2.2) (0, 0, (sb xAt 1))).bind fun v2 =>
 some (v2.1, v2.2)
def i_TokensOf_b1 (xS : ByteArray) (yOut1 : List Token) (yAt1 : Int) : Option ((List Token × Int) ⊕ (List Token)) :=
 bif (decide (yAt1 < (sln xS))) then ((i_matchAt xS yAt1).bind fun v1 =>
 bif (decide (v1.1 > 0)) then ((ap 32 yOut1 [(Token.mk v1.2 v1.1 (bs []))]).bind fun q1 =>
 some (.inl (q1, (ad yAt1 v1.1))))
 else ((bif (decide ((sb (ln yOut1) 1) < 0)) then (some true)
 else ((gi yOut1 (sb (ln yOut1) 1)).bind fun x1 =>
 bif (decide (x1.Back > 0)) then (some true)
 else ((gi yOut1 (sb (ln yOut1) 1)).bind fun x2 =>
 some (decide ((sln x2.Text) ≥ 31)))) : Option (Bool)).bind fun j1 =>
 (bif j1 then ((ap 32 yOut1 [(Token.mk 0 0 (bs []))]).bind fun q2 =>
 some (q2, (ad (sb (ln yOut1) 1) 1)))
 else (some (yOut1, (sb (ln yOut1) 1))) : Option (List Token × Int)).bind fun j2 =>
 (gi j2.1 j2.2).bind fun x3 =>
 (sub xS yAt1 (ad yAt1 1)).bind fun x4 =>
 (cat x3.Text x4).bind fun x5 =>
 (gi j2.1 j2.2).bind fun x6 =>
 some (.inl ((si j2.1 j2.2 (Token.mk x6.Back x6.Size x5)), (ad yAt1 1)))))
 else (some (.inr yOut1))
def i_TokensOf (xS : ByteArray) : Option (List Token) :=
 bif (decide ((sln xS) > 64)) then (some [])
 else ((loopO (fun s : List Token × Int => i_TokensOf_b1 xS s.1 s.2) ([], 0)).bind fun v2 =>
 some v2)
def i_PackText_b1 (v1 : List Token) (yOut1 : List Int) (y1 : Int) : Option ((List Int × Int) ⊕ (List Int)) :=
 bif (decide (y1 < (ln v1))) then ((gi v1 y1).bind fun x1 =>
 (bif (decide (x1.Back > 0)) then ((ap 1 yOut1 [(IntKind.u8.wrap (ad 128 x1.Size)), (IntKind.u8.wrap x1.Back)]).bind fun q1 =>
 some q1)
 else ((ap 1 yOut1 [(IntKind.u8.wrap (sln x1.Text))]).bind fun q2 =>
 (aps q2 x1.Text).bind fun q3 =>
 some q3) : Option (List Int)).bind fun j1 =>
 some (.inl (j1, (ad y1 1))))
 else (some (.inr yOut1))
def i_PackText (xS : ByteArray) : Option (ByteArray × Bool) :=
 bif (decide ((sln xS) > 64)) then (some ((bs []), false))
 else ((i_TokensOf xS).bind fun v1 =>
 (loopO (fun s : List Int × Int => i_PackText_b1 v1 s.1 s.2) ([122], 0)).bind fun v2 =>
 bif (decide ((ad (sln xS) 1) ≤ (ln v2))) then ((cat (bs [114]) xS).bind fun x2 =>
 some (x2, true))
 else (some ((strB v2), true)))
def i_UnpackText (xT : ByteArray) : Option (ByteArray × Bool) :=
 bif (seq xT (bs [])) then (some ((bs []), false))
 else ((sub xT 1 (sln xT)).bind fun x1 =>
 (sx xT 0).bind fun x2 =>
 (bif (x2 != 114) then ((i_tokensIn x1).bind fun v1 =>
 (i_PlainOf v1.1).bind fun v2 =>
 bif (!v1.2) then (some (.inr ((bs []), false)))
 else (bif (!v2.2) then (some (.inr ((bs []), false)))
 else (some (.inl v2.1))))
 else (some (.inl x1)) : Option ((ByteArray) ⊕ ((ByteArray × Bool)))).bind (Sum.elim (fun j1 => ((i_PackText j1).bind fun v3 =>
 (bif (!v3.2) then (some true)
 else (some (!(seq v3.1 xT))) : Option (Bool)).bind fun j2 =>
 bif j2 then (some ((bs []), false))
 else (some (j1, true)))) some))
def i_ChunkText (xF : Flash) (xChunk : Int) : Option (ByteArray × Bool) :=
 (i_dataOf xF xChunk).bind fun v1 =>
 bif (!v1.2) then (some ((bs []), false))
 else ((i_UnpackText v1.1.Page.Text).bind fun v2 =>
 some (v2.1, v2.2))
def i_FindSame_b1 (xF : Flash) (xLive : List Int) (xText : ByteArray) (y1 : Int) : Option ((Int) ⊕ ((Unit) ⊕ (Int))) :=
 bif (decide (y1 < (ln xLive))) then ((gi xLive y1).bind fun x1 =>
 (i_ChunkText xF x1).bind fun v1 =>
 bif v1.2 then (bif (seq v1.1 xText) then (some (.inr (.inr x1)))
 else (some (.inl (ad y1 1))))
 else (some (.inl (ad y1 1))))
 else (some (.inr (.inl ())))
def i_FindSame (xF : Flash) (xLive : List Int) (xText : ByteArray) : Option (Int) :=
 (loopO (fun s : Int => i_FindSame_b1 xF xLive xText s) 0).bind (Sum.elim (fun v2 => (some 0)) some)
def i_PlanOf (xD : Device) (xQ : Ask) : Option (List Rec × ByteArray × Int) :=
 (i_AskOk xQ).bind fun v1 =>
 bif (!v1) then (some ([], (bs []), 3))
 else ((i_refusal xD.Store xQ).bind fun v2 =>
 bif (v2 != 0) then (some ([], (bs []), v2))
 else (bif (xQ.Kind == 1) then ((i_LiveOf xD.Store).bind fun v3 =>
 (i_FindSame xD.Flash v3 xQ.Text).bind fun v4 =>
 (bif (v4 == 0) then ((i_PackText xQ.Text).bind fun v5 =>
 some (xD.Store.Next, v5.1))
 else (some (v4, (bs []))) : Option (Int × ByteArray)).bind fun j1 =>
 some ([(Rec.mk 4 xQ.Vol xQ.Sector j1.1)], j1.2, 0))
 else (bif (xQ.Kind == 2) then (some ([(Rec.mk 5 xQ.Vol xQ.Sector 0)], (bs []), 0))
 else (bif (xQ.Kind == 3) then (some ([(Rec.mk 2 xQ.Vol 0 0)], (bs []), 0))
 else (bif (xQ.Kind == 4) then (some ([(Rec.mk 2 xQ.Vol xQ.Of 0)], (bs []), 0))
 else (bif (xQ.Kind == 5) then (some ([(Rec.mk 3 xQ.Vol 0 0)], (bs []), 0))
 else (some ([], (bs []), 0))))))))
def w_eqRec (xA : Rec) (xB : Rec) : Option (Bool) :=
 bif (xA.Kind != xB.Kind) then (some false)
 else (bif (xA.Vol != xB.Vol) then (some false)
 else (bif (xA.Arg != xB.Arg) then (some false)
 else (bif (xA.Chunk != xB.Chunk) then (some false)
 else (some true))))
def w_eqRecS_b1 (xA : List Rec) (xB : List Rec) (yI1 : Int) : Option ((Int) ⊕ ((Unit) ⊕ (Bool))) :=
 bif (decide (yI1 < (ln xA))) then ((gi xA yI1).bind fun x1 =>
 (gi xB yI1).bind fun x2 =>
 (w_eqRec x1 x2).bind fun v1 =>
 bif (!v1) then (some (.inr (.inr false)))
 else (some (.inl (ad yI1 1))))
 else (some (.inr (.inl ())))
def w_eqRecS (xA : List Rec) (xB : List Rec) : Option (Bool) :=
 bif ((ln xA) != (ln xB)) then (some false)
 else ((loopO (fun s : Int => w_eqRecS_b1 xA xB s) 0).bind (Sum.elim (fun v2 => (some true)) some))
def w_eqLeaf (xA : Leaf) (xB : Leaf) : Option (Bool) :=
 bif (xA.Is != xB.Is) then (some false)
 else (bif (!(seq xA.Text xB.Text)) then (some false)
 else (some true))
def w_eqLeafS_b1 (xA : List Leaf) (xB : List Leaf) (yI1 : Int) : Option ((Int) ⊕ ((Unit) ⊕ (Bool))) :=
 bif (decide (yI1 < (ln xA))) then ((gi xA yI1).bind fun x1 =>
 (gi xB yI1).bind fun x2 =>
 (w_eqLeaf x1 x2).bind fun v1 =>
 bif (!v1) then (some (.inr (.inr false)))
 else (some (.inl (ad yI1 1))))
 else (some (.inr (.inl ())))
def w_eqLeafS (xA : List Leaf) (xB : List Leaf) : Option (Bool) :=
 bif ((ln xA) != (ln xB)) then (some false)
 else ((loopO (fun s : Int => w_eqLeafS_b1 xA xB s) 0).bind (Sum.elim (fun v2 => (some true)) some))
def w_eqBlock (xA : Block) (xB : Block) : Option (Bool) :=
 bif (!(xA.Bad == xB.Bad)) then (some false)
 else (bif (xA.Wear != xB.Wear) then (some false)
 else ((w_eqLeafS xA.Leaves xB.Leaves).bind fun v1 =>
 bif (!v1) then (some false)
 else (some true)))
def w_eqBlockS_b1 (xA : List Block) (xB : List Block) (yI1 : Int) : Option ((Int) ⊕ ((Unit) ⊕ (Bool))) :=
 bif (decide (yI1 < (ln xA))) then ((gi xA yI1).bind fun x1 =>
 (gi xB yI1).bind fun x2 =>
 (w_eqBlock x1 x2).bind fun v1 =>
 bif (!v1) then (some (.inr (.inr false)))
 else (some (.inl (ad yI1 1))))
 else (some (.inr (.inl ())))
def w_eqBlockS (xA : List Block) (xB : List Block) : Option (Bool) :=
 bif ((ln xA) != (ln xB)) then (some false)
 else ((loopO (fun s : Int => w_eqBlockS_b1 xA xB s) 0).bind (Sum.elim (fun v2 => (some true)) some))
def w_eqFlash (xA : Flash) (xB : Flash) : Option (Bool) :=
 (w_eqBlockS xA.Blocks xB.Blocks).bind fun v1 =>
 bif (!v1) then (some false)
 else (some true)
def w_eqVol (xA : Vol) (xB : Vol) : Option (Bool) :=
 bif (xA.Id != xB.Id) then (some false)
 else (bif (xA.Root != xB.Root) then (some false)
 else (some true))
def w_eqVolS_b1 (xA : List Vol) (xB : List Vol) (yI1 : Int) : Option ((Int) ⊕ ((Unit) ⊕ (Bool))) :=
 bif (decide (yI1 < (ln xA))) then ((gi xA yI1).bind fun x1 =>
 (gi xB yI1).bind fun x2 =>
 (w_eqVol x1 x2).bind fun v1 =>
 bif (!v1) then (some (.inr (.inr false)))
 else (some (.inl (ad yI1 1))))
 else (some (.inr (.inl ())))
def w_eqVolS (xA : List Vol) (xB : List Vol) : Option (Bool) :=
 bif ((ln xA) != (ln xB)) then (some false)
 else ((loopO (fun s : Int => w_eqVolS_b1 xA xB s) 0).bind (Sum.elim (fun v2 => (some true)) some))
def w_eqIntS_b1 (xA : List Int) (xB : List Int) (yI1 : Int) : Option ((Int) ⊕ ((Unit) ⊕ (Bool))) :=
 bif (decide (yI1 < (ln xA))) then ((gi xA yI1).bind fun x1 =>
 (gi xB yI1).bind fun x2 =>
 bif (x1 != x2) then (some (.inr (.inr false)))
 else (some (.inl (ad yI1 1))))
 else (some (.inr (.inl ())))
def w_eqIntS (xA : List Int) (xB : List Int) : Option (Bool) :=
 bif ((ln xA) != (ln xB)) then (some false)
 else ((loopO (fun s : Int => w_eqIntS_b1 xA xB s) 0).bind (Sum.elim (fun v1 => (some true)) some))
def w_eqKnot (xA : Knot) (xB : Knot) : Option (Bool) :=
 bif (!(xA.Leaf == xB.Leaf)) then (some false)
 else ((w_eqIntS xA.Kids xB.Kids).bind fun v1 =>
 bif (!v1) then (some false)
 else (some true))
def w_eqKnotS_b1 (xA : List Knot) (xB : List Knot) (yI1 : Int) : Option ((Int) ⊕ ((Unit) ⊕ (Bool))) :=
 bif (decide (yI1 < (ln xA))) then ((gi xA yI1).bind fun x1 =>
 (gi xB yI1).bind fun x2 =>
 (w_eqKnot x1 x2).bind fun v1 =>
 bif (!v1) then (some (.inr (.inr false)))
 else (some (.inl (ad yI1 1))))
 else (some (.inr (.inl ())))
def w_eqKnotS (xA : List Knot) (xB : List Knot) : Option (Bool) :=
 bif ((ln xA) != (ln xB)) then (some false)
 else ((loopO (fun s : Int => w_eqKnotS_b1 xA xB s) 0).bind (Sum.elim (fun v2 => (some true)) some))
def w_eqArena (xA : Arena) (xB : Arena) : Option (Bool) :=
 (w_eqKnotS xA.Knots xB.Knots).bind fun v1 =>
 bif (!v1) then (some false)
 else (some true)
def w_eqStore (xA : Store) (xB : Store) : Option (Bool) :=
 (w_eqVolS xA.Vols xB.Vols).bind fun v1 =>
 bif (!v1) then (some false)
 else ((w_eqArena xA.Arena xB.Arena).bind fun v2 =>
 bif (!v2) then (some false)
 else (bif (xA.Next != xB.Next) then (some false)
 else (some true)))
def w_eqDevice (xA : Device) (xB : Device) : Option (Bool) :=
 (w_eqFlash xA.Flash xB.Flash).bind fun v1 =>
 bif (!v1) then (some false)
 else ((w_eqStore xA.Store xB.Store).bind fun v2 =>
 bif (!v2) then (some false)
 else (bif (xA.Seq != xB.Seq) then (some false)
 else (bif (xA.Tx != xB.Tx) then (some false)
 else (bif (xA.Base != xB.Base) then (some false)
 else (some true)))))
def w_markText_b1 (yK1 : Int) (yOut1 : ByteArray) : Option ((Int × ByteArray) ⊕ (ByteArray)) :=
 bif (decide (yK1 > 0)) then ((cat (strB [(IntKind.u8.wrap (ad 48 (Int.tmod yK1 10)))]) yOut1).bind fun x1 =>
 some (.inl ((qu yK1 10), x1)))
 else (some (.inr yOut1))
def w_markText (xK : Int) : Option (ByteArray) :=
 bif (decide (xK ≤ 0)) then (some (bs [109, 48]))
 else ((loopO (fun s : Int × ByteArray => w_markText_b1 s.1 s.2) (xK, (bs []))).bind fun v1 =>
 (cat (bs [109]) v1).bind fun x2 =>
 some x2)
def w_markLeafS_b1 (yA1 : List Leaf) (yK1 : Int) (yI1 : Int) : Option ((List Leaf × Int × Int) ⊕ (List Leaf × Int)) :=
 bif (decide (yI1 < (ln yA1))) then ((gi yA1 yI1).bind fun x1 =>
 (w_markText (ad yK1 1)).bind fun v1 =>
 (gi (si yA1 yI1 (Leaf.mk yK1 x1.Text)) yI1).bind fun x2 =>
 some (.inl ((si (si yA1 yI1 (Leaf.mk yK1 x1.Text)) yI1 (Leaf.mk x2.Is v1)), (ad (ad yK1 1) 1), (ad yI1 1))))
 else (some (.inr (yA1, yK1)))
def w_markLeafS (xA : List Leaf) (xK : Int) : Option (Int × List Leaf) :=
 (loopO (fun s : List Leaf × Int × Int => w_markLeafS_b1 s.1 s.2.1 s.2.2) (xA, xK, 0)).bind fun v2 =>
 some (v2.2, v2.1)
def w_markBlockS_b1 (yA1 : List Block) (yK1 : Int) (yI1 : Int) : Option ((List Block × Int × Int) ⊕ (List Block × Int)) :=
 bif (decide (yI1 < (ln yA1))) then ((gi yA1 yI1).bind fun x1 =>
 (gi (si yA1 yI1 (Block.mk ((Int.tmod yK1 3) == 0) x1.Wear x1.Leaves)) yI1).bind fun x2 =>
 (gi (si (si yA1 yI1 (Block.mk ((Int.tmod yK1 3) == 0) x1.Wear x1.Leaves)) yI1 (Block.mk x2.Bad (ad yK1 1) x2.Leaves)) yI1).bind fun x3 =>
 (w_markLeafS x3.Leaves (ad (ad yK1 1) 1)).bind fun v1 =>
 some (.inl ((si (si (si yA1 yI1 (Block.mk ((Int.tmod yK1 3) == 0) x1.Wear x1.Leaves)) yI1 (Block.mk x2.Bad (ad yK1 1) x2.Leaves)) yI1 (Block.mk x3.Bad x3.Wear v1.2)), v1.1, (ad yI1 1))))
 else (some (.inr (yA1, yK1)))
def w_markBlockS (xA : List Block) (xK : Int) : Option (Int × List Block) :=
 (loopO (fun s : List Block × Int × Int => w_markBlockS_b1 s.1 s.2.1 s.2.2) (xA, xK, 0)).bind fun v2 =>
 some (v2.2, v2.1)
def w_markFlash (xA : Flash) (xK : Int) : Option (Int) :=
 (w_markBlockS xA.Blocks xK).bind fun v1 =>
 some v1.1
def w_markVolS_b1 (yA1 : List Vol) (yK1 : Int) (yI1 : Int) : Option ((List Vol × Int × Int) ⊕ (List Vol × Int)) :=
 bif (decide (yI1 < (ln yA1))) then ((gi yA1 yI1).bind fun x1 =>
 (gi (si yA1 yI1 (Vol.mk yK1 x1.Root)) yI1).bind fun x2 =>
 some (.inl ((si (si yA1 yI1 (Vol.mk yK1 x1.Root)) yI1 (Vol.mk x2.Id (ad yK1 1))), (ad (ad yK1 1) 1), (ad yI1 1))))
 else (some (.inr (yA1, yK1)))
def w_markVolS (xA : List Vol) (xK : Int) : Option (Int × List Vol) :=
 (loopO (fun s : List Vol × Int × Int => w_markVolS_b1 s.1 s.2.1 s.2.2) (xA, xK, 0)).bind fun v1 =>
 some (v1.2, v1.1)
def w_markIntS_b1 (yA1 : List Int) (yK1 : Int) (yI1 : Int) : Option ((List Int × Int × Int) ⊕ (List Int × Int)) :=
 bif (decide (yI1 < (ln yA1))) then ((gi yA1 yI1).bind fun x1 =>
 some (.inl ((si yA1 yI1 yK1), (ad yK1 1), (ad yI1 1))))
 else (some (.inr (yA1, yK1)))
def w_markIntS (xA : List Int) (xK : Int) : Option (Int × List Int) :=
 (loopO (fun s : List Int × Int × Int => w_markIntS_b1 s.1 s.2.1 s.2.2) (xA, xK, 0)).bind fun v1 =>
 some (v1.2, v1.1)
def w_markKnotS_b1 (yA1 : List Knot) (yK1 : Int) (yI1 : Int) : Option ((List Knot × Int × Int) ⊕ (List Knot × Int)) :=
 bif (decide (yI1 < (ln yA1))) then ((gi yA1 yI1).bind fun x1 =>
 (gi (si yA1 yI1 (Knot.mk ((Int.tmod yK1 3) == 0) x1.Kids)) yI1).bind fun x2 =>
 (w_markIntS x2.Kids (ad yK1 1)).bind fun v1 =>
 some (.inl ((si (si yA1 yI1 (Knot.mk ((Int.tmod yK1 3) == 0) x1.Kids)) yI1 (Knot.mk x2.Leaf v1.2)), v1.1, (ad yI1 1))))
 else (some (.inr (yA1, yK1)))
def w_markKnotS (xA : List Knot) (xK : Int) : Option (Int × List Knot) :=
 (loopO (fun s : List Knot × Int × Int => w_markKnotS_b1 s.1 s.2.1 s.2.2) (xA, xK, 0)).bind fun v2 =>
 some (v2.2, v2.1)
def w_markArena (xA : Arena) (xK : Int) : Option (Int) :=
 (w_markKnotS xA.Knots xK).bind fun v1 =>
 some v1.1
def w_markStore (xA : Store) (xK : Int) : Option (Int) :=
 (w_markVolS xA.Vols xK).bind fun v1 =>
 (w_markArena xA.Arena v1.1).bind fun v2 =>
 some v2
def w_markDevice (xA : Device) (xK : Int) : Option (Int) :=
 (w_markFlash xA.Flash xK).bind fun v1 =>
 (w_markStore xA.Store v1).bind fun v2 =>
 some v2
def w_markRecS_b1 (yA1 : List Rec) (yK1 : Int) (yI1 : Int) : Option ((List Rec × Int × Int) ⊕ (List Rec × Int)) :=
 bif (decide (yI1 < (ln yA1))) then ((gi yA1 yI1).bind fun x1 =>
 (gi (si yA1 yI1 (Rec.mk yK1 x1.Vol x1.Arg x1.Chunk)) yI1).bind fun x2 =>
 (gi (si (si yA1 yI1 (Rec.mk yK1 x1.Vol x1.Arg x1.Chunk)) yI1 (Rec.mk x2.Kind (ad yK1 1) x2.Arg x2.Chunk)) yI1).bind fun x3 =>
 (gi (si (si (si yA1 yI1 (Rec.mk yK1 x1.Vol x1.Arg x1.Chunk)) yI1 (Rec.mk x2.Kind (ad yK1 1) x2.Arg x2.Chunk)) yI1 (Rec.mk x3.Kind x3.Vol (ad (ad yK1 1) 1) x3.Chunk)) yI1).bind fun x4 =>
 some (.inl ((si (si (si (si yA1 yI1 (Rec.mk yK1 x1.Vol x1.Arg x1.Chunk)) yI1 (Rec.mk x2.Kind (ad yK1 1) x2.Arg x2.Chunk)) yI1 (Rec.mk x3.Kind x3.Vol (ad (ad yK1 1) 1) x3.Chunk)) yI1 (Rec.mk x4.Kind x4.Vol x4.Arg (ad (ad (ad yK1 1) 1) 1))), (ad (ad (ad (ad yK1 1) 1) 1) 1), (ad yI1 1))))
 else (some (.inr (yA1, yK1)))
def w_markRecS (xA : List Rec) (xK : Int) : Option (Int × List Rec) :=
 (loopO (fun s : List Rec × Int × Int => w_markRecS_b1 s.1 s.2.1 s.2.2) (xA, xK, 0)).bind fun v1 =>
 some (v1.2, v1.1)
def w_heldRecS_b1 (xA : List Rec) (yK1 : Int) (yI1 : Int) : Option ((Int × Int) ⊕ ((Int) ⊕ (Int))) :=
 bif (decide (yI1 < (ln xA))) then ((gi xA yI1).bind fun x1 =>
 bif (x1.Kind != yK1) then (some (.inr (.inr (-1))))
 else ((gi xA yI1).bind fun x2 =>
 bif (x2.Vol != (ad yK1 1)) then (some (.inr (.inr (-1))))
 else ((gi xA yI1).bind fun x3 =>
 bif (x3.Arg != (ad (ad yK1 1) 1)) then (some (.inr (.inr (-1))))
 else ((gi xA yI1).bind fun x4 =>
 bif (x4.Chunk != (ad (ad (ad yK1 1) 1) 1)) then (some (.inr (.inr (-1))))
 else (some (.inl ((ad (ad (ad (ad yK1 1) 1) 1) 1), (ad yI1 1))))))))
 else (some (.inr (.inl yK1)))
def w_heldRecS (xA : List Rec) (xK : Int) : Option (Int) :=
 (loopO (fun s : Int × Int => w_heldRecS_b1 xA s.1 s.2) (xK, 0)).bind (Sum.elim (fun v1 => (some v1)) some)
def w_FnExactPlanOf (xAD : Device) (xAQ : Ask) : Option (Bool) :=
 (w_szDevice xAD 1048576).bind fun v1 =>
 bif (decide (v1 < 0)) then (some true)
 else ((w_szAsk xAQ v1).bind fun v2 =>
 bif (decide (v2 < 0)) then (some true)
 else (((w_toDevice xAD).bind fun v3 =>
 (w_toAsk xAQ).bind fun v4 =>
 (s_PlanOf v3 v4).bind fun v5 =>
 some (v5.1, v5.2.1, v5.2.2) : Option (List Rec × ByteArray × Int)).bind fun j1 =>
 (w_toDevice xAD).bind fun v6 =>
 ((w_toAsk xAQ).bind fun v7 =>
 (i_PlanOf v6 v7).bind fun v8 =>
 some (v8.1, v8.2.1, v8.2.2) : Option (List Rec × ByteArray × Int)).bind fun j2 =>
 ((w_eqRecS j2.1 j1.1).bind fun v9 =>
 bif (!v9) then (some true)
 else (bif (!(seq j2.2.1 j1.2.1)) then (some true)
 else (some (j2.2.2 != j1.2.2))) : Option (Bool)).bind fun j3 =>
 bif j3 then (some false)
 else ((w_toDevice xAD).bind fun v10 =>
 (w_eqDevice v6 v10).bind fun v11 =>
 bif (!v11) then (some false)
 else ((w_markDevice v6 1).bind fun v12 =>
 (bif (decide (v12 < 0)) then (some true)
 else ((w_eqRecS j2.1 j1.1).bind fun v13 =>
 bif (!v13) then (some true)
 else (bif (!(seq j2.2.1 j1.2.1)) then (some true)
 else (some (j2.2.2 != j1.2.2)))) : Option (Bool)).bind fun j4 =>
 bif j4 then (some false)
 else ((w_markRecS j2.1 1).bind fun v14 =>
 (w_heldRecS v14.2 1).bind fun v15 =>
 bif (decide (v15 < 0)) then (some false)
 else (bif (v15 != v14.1) then (some false)
 else (((w_toDevice xAD).bind fun v16 =>
 (w_toAsk xAQ).bind fun v17 =>
 (i_PlanOf v16 v17).bind fun v18 =>
 some (v18.1, v18.2.1, v18.2.2) : Option (List Rec × ByteArray × Int)).bind fun j5 =>
 ((w_eqRecS j5.1 j1.1).bind fun v19 =>
 bif (!v19) then (some true)
 else (bif (!(seq j5.2.1 j1.2.1)) then (some true)
 else (some (j5.2.2 != j1.2.2))) : Option (Bool)).bind fun j6 =>
 bif j6 then (some false)
 else ((w_heldRecS v14.2 1).bind fun v20 =>
 bif (decide (v20 < 0)) then (some false)
 else (bif (v20 != v14.1) then (some false)
 else (some true))))))))))
end
end Go.TI
