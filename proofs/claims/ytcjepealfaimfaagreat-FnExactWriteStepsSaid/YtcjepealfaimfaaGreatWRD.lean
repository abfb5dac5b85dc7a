/- What functions of the given program compute. No condition. -/
import Derived.Test.YtcjepealfaimfaaGreatWRTID
namespace Go.TI
open Go
set_option linter.unusedVariables false
noncomputable section

structure Leaf where
  Is : Int
  Text : ByteArray

structure Block where
  Bad : Bool
  Wear : Int
  Leaves : List Leaf

structure Flash where
  Blocks : List Block

structure Vol where
  Id : Int
  Root : Int

structure Knot where
  Leaf : Bool
  Kids : List Int

structure Arena where
  Knots : List Knot

structure Store where
  Vols : List Vol
  Arena : Arena
  Next : Int

structure Device where
  Flash : Flash
  Store : Store
  Seq : Int
  Tx : Int
  Base : Int

structure Rec where
  Kind : Int
  Vol : Int
  Arg : Int
  Chunk : Int

structure Page where
  Kind : Int
  Seq : Int
  Tx : Int
  Part : Int
  Count : Int
  Text : ByteArray

structure Step where
  Kind : Int
  Block : Int
  Leaf : Int
  Text : ByteArray

structure stepper where
  f_ : Flash
  steps_ : List Step


def oLeaf (x : Leaf) : Prop := oI x.Is ∧ oS x.Text
def oBlock (x : Block) : Prop := oB x.Bad ∧ oI x.Wear ∧ (ol oLeaf) x.Leaves
def oFlash (x : Flash) : Prop := (ol oBlock) x.Blocks
def oVol (x : Vol) : Prop := oI x.Id ∧ oI x.Root
def oKnot (x : Knot) : Prop := oB x.Leaf ∧ (ol oI) x.Kids
def oArena (x : Arena) : Prop := (ol oKnot) x.Knots
def oStore (x : Store) : Prop := (ol oVol) x.Vols ∧ oArena x.Arena ∧ oI x.Next
def oDevice (x : Device) : Prop := oFlash x.Flash ∧ oStore x.Store ∧ oI x.Seq ∧ oI x.Tx ∧ oI x.Base
def oRec (x : Rec) : Prop := oI x.Kind ∧ oI x.Vol ∧ oI x.Arg ∧ oI x.Chunk

def w_szLeaf (xA : Leaf) (xLeft : Int) : Option (Int) :=
 bif (decide ((sb xLeft (sln xA.Text)) < 0)) then (some (-1))
 else (some (sb xLeft (sln xA.Text)))
def w_szLeafS_b1 (xA : List Leaf) (yLeft1 : Int) (yI1 : Int) : Option ((Int × Int) ⊕ ((Int) ⊕ (Int))) :=
 bif (decide (yI1 < (ln xA))) then ((gi xA yI1).bind fun x1 =>
 (w_szLeaf x1 yLeft1).bind fun v1 =>
 bif (decide (v1 < 0)) then (some (.inr (.inr (-1))))
 else (some (.inl (v1, (ad yI1 1)))))
 else (some (.inr (.inl yLeft1)))
def w_szLeafS (xA : List Leaf) (xLeft : Int) : Option (Int) :=
 bif (decide ((sb xLeft (ln xA)) < 0)) then (some (-1))
 else ((loopO (fun s : Int × Int => w_szLeafS_b1 xA s.1 s.2) ((sb xLeft (ln xA)), 0)).bind (Sum.elim (fun v2 => (some v2)) some))
def w_szBlock (xA : Block) (xLeft : Int) : Option (Int) :=
 (w_szLeafS xA.Leaves xLeft).bind fun v1 =>
 bif (decide (v1 < 0)) then (some (-1))
 else (some v1)
def w_szBlockS_b1 (xA : List Block) (yLeft1 : Int) (yI1 : Int) : Option ((Int × Int) ⊕ ((Int) ⊕ (Int))) :=
 bif (decide (yI1 < (ln xA))) then ((gi xA yI1).bind fun x1 =>
 (w_szBlock x1 yLeft1).bind fun v1 =>
 bif (decide (v1 < 0)) then (some (.inr (.inr (-1))))
 else (some (.inl (v1, (ad yI1 1)))))
 else (some (.inr (.inl yLeft1)))
def w_szBlockS (xA : List Block) (xLeft : Int) : Option (Int) :=
 bif (decide ((sb xLeft (ln xA)) < 0)) then (some (-1))
 else ((loopO (fun s : Int × Int => w_szBlockS_b1 xA s.1 s.2) ((sb xLeft (ln xA)), 0)).bind (Sum.elim (fun v2 => (some v2)) some))
def w_szFlash (xA : Flash) (xLeft : Int) : Option (Int) :=
 (w_szBlockS xA.Blocks xLeft).bind fun v1 =>
 bif (decide (v1 < 0)) then (some (-1))
 else (some v1)
def w_szVolS (xA : List Vol) (xLeft : Int) : Option (Int) :=
 bif (decide ((sb xLeft (ln xA)) < 0)) then (some (-1))
 else (some (sb xLeft (ln xA)))
def w_szIntS (xA : List Int) (xLeft : Int) : Option (Int) :=
 bif (decide ((sb xLeft (ln xA)) < 0)) then (some (-1))
 else (some (sb xLeft (ln xA)))
def w_szKnot (xA : Knot) (xLeft : Int) : Option (Int) :=
 (w_szIntS xA.Kids xLeft).bind fun v1 =>
 bif (decide (v1 < 0)) then (some (-1))
 else (some v1)
def w_szKnotS_b1 (xA : List Knot) (yLeft1 : Int) (yI1 : Int) : Option ((Int × Int) ⊕ ((Int) ⊕ (Int))) :=
 bif (decide (yI1 < (ln xA))) then ((gi xA yI1).bind fun x1 =>
 (w_szKnot x1 yLeft1).bind fun v1 =>
 bif (decide (v1 < 0)) then (some (.inr (.inr (-1))))
 else (some (.inl (v1, (ad yI1 1)))))
 else (some (.inr (.inl yLeft1)))
def w_szKnotS (xA : List Knot) (xLeft : Int) : Option (Int) :=
 bif (decide ((sb xLeft (ln xA)) < 0)) then (some (-1))
 else ((loopO (fun s : Int × Int => w_szKnotS_b1 xA s.1 s.2) ((sb xLeft (ln xA)), 0)).bind (Sum.elim (fun v2 => (some v2)) some))
def w_szArena (xA : Arena) (xLeft : Int) : Option (Int) :=
 (w_szKnotS xA.Knots xLeft).bind fun v1 =>
 bif (decide (v1 < 0)) then (some (-1))
 else (some v1)
def w_szStore (xA : Store) (xLeft : Int) : Option (Int) :=
 (w_szVolS xA.Vols xLeft).bind fun v1 =>
 bif (decide (v1 < 0)) then (some (-1))
 else ((w_szArena xA.Arena v1).bind fun v2 =>
 bif (decide (v2 < 0)) then (some (-1))
 else (some v2))
def w_szDevice (xA : Device) (xLeft : Int) : Option (Int) :=
 (w_szFlash xA.Flash xLeft).bind fun v1 =>
 bif (decide (v1 < 0)) then (some (-1))
 else ((w_szStore xA.Store v1).bind fun v2 =>
 bif (decide (v2 < 0)) then (some (-1))
 else (some v2))
def w_szRecS (xA : List Rec) (xLeft : Int) : Option (Int) :=
 bif (decide ((sb xLeft (ln xA)) < 0)) then (some (-1))
 else (some (sb xLeft (ln xA)))
def w_toLeaf (xA : Leaf) : Option (Leaf) :=
 some xA
def w_toLeafS_b1 (xA : List Leaf) (yOut1 : List Leaf) (yI1 : Int) : Option ((List Leaf × Int) ⊕ (List Leaf)) :=
 bif (decide (yI1 < (ln xA))) then ((gi xA yI1).bind fun x1 =>
 (w_toLeaf x1).bind fun v1 =>
 (gi yOut1 yI1).bind fun x2 =>
 some (.inl ((si yOut1 yI1 v1), (ad yI1 1))))
 else (some (.inr yOut1))
def w_toLeafS (xA : List Leaf) : Option (List Leaf) :=
 (mk 24 (Leaf.mk 0 (bs [])) (ln xA)).bind fun q1 =>
 (loopO (fun s : List Leaf × Int => w_toLeafS_b1 xA s.1 s.2) (q1, 0)).bind fun v2 =>
 some v2
def w_toBlock (xA : Block) : Option (Block) :=
 (w_toLeafS xA.Leaves).bind fun v1 =>
 some (Block.mk xA.Bad xA.Wear v1)
def w_toBlockS_b1 (xA : List Block) (yOut1 : List Block) (yI1 : Int) : Option ((List Block × Int) ⊕ (List Block)) :=
 bif (decide (yI1 < (ln xA))) then ((gi xA yI1).bind fun x1 =>
 (w_toBlock x1).bind fun v1 =>
 (gi yOut1 yI1).bind fun x2 =>
 some (.inl ((si yOut1 yI1 v1), (ad yI1 1))))
 else (some (.inr yOut1))
def w_toBlockS (xA : List Block) : Option (List Block) :=
 (mk 40 (Block.mk false 0 []) (ln xA)).bind fun q1 =>
 (loopO (fun s : List Block × Int => w_toBlockS_b1 xA s.1 s.2) (q1, 0)).bind fun v2 =>
 some v2
def w_toFlash (xA : Flash) : Option (Flash) :=
 (w_toBlockS xA.Blocks).bind fun v1 =>
 some (Flash.mk v1)
def w_toVol (xA : Vol) : Option (Vol) :=
 some xA
def w_toVolS_b1 (xA : List Vol) (yOut1 : List Vol) (yI1 : Int) : Option ((List Vol × Int) ⊕ (List Vol)) :=
 bif (decide (yI1 < (ln xA))) then ((gi xA yI1).bind fun x1 =>
 (w_toVol x1).bind fun v1 =>
 (gi yOut1 yI1).bind fun x2 =>
 some (.inl ((si yOut1 yI1 v1), (ad yI1 1))))
 else (some (.inr yOut1))
def w_toVolS (xA : List Vol) : Option (List Vol) :=
 (mk 16 (Vol.mk 0 0) (ln xA)).bind fun q1 =>
 (loopO (fun s : List Vol × Int => w_toVolS_b1 xA s.1 s.2) (q1, 0)).bind fun v2 =>
 some v2
def w_toIntS_b1 (xA : List Int) (yOut1 : List Int) (yI1 : Int) : Option ((List Int × Int) ⊕ (List Int)) :=
 bif (decide (yI1 < (ln xA))) then ((gi xA yI1).bind fun x1 =>
 (gi yOut1 yI1).bind fun x2 =>
 some (.inl ((si yOut1 yI1 x1), (ad yI1 1))))
 else (some (.inr yOut1))
def w_toIntS (xA : List Int) : Option (List Int) :=
 (mk 8 0 (ln xA)).bind fun q1 =>
 (loopO (fun s : List Int × Int => w_toIntS_b1 xA s.1 s.2) (q1, 0)).bind fun v1 =>
 some v1
def w_toKnot (xA : Knot) : Option (Knot) :=
 (w_toIntS xA.Kids).bind fun v1 =>
 some (Knot.mk xA.Leaf v1)
def w_toKnotS_b1 (xA : List Knot) (yOut1 : List Knot) (yI1 : Int) : Option ((List Knot × Int) ⊕ (List Knot)) :=
 bif (decide (yI1 < (ln xA))) then ((gi xA yI1).bind fun x1 =>
 (w_toKnot x1).bind fun v1 =>
 (gi yOut1 yI1).bind fun x2 =>
 some (.inl ((si yOut1 yI1 v1), (ad yI1 1))))
 else (some (.inr yOut1))
def w_toKnotS (xA : List Knot) : Option (List Knot) :=
 (mk 32 (Knot.mk false []) (ln xA)).bind fun q1 =>
 (loopO (fun s : List Knot × Int => w_toKnotS_b1 xA s.1 s.2) (q1, 0)).bind fun v2 =>
 some v2
def w_toArena (xA : Arena) : Option (Arena) :=
 (w_toKnotS xA.Knots).bind fun v1 =>
 some (Arena.mk v1)
def w_toStore (xA : Store) : Option (Store) :=
 (w_toVolS xA.Vols).bind fun v1 =>
 (w_toArena xA.Arena).bind fun v2 =>
 some (Store.mk v1 v2 xA.Next)
def w_toDevice (xA : Device) : Option (Device) :=
 (w_toFlash xA.Flash).bind fun v1 =>
 (w_toStore xA.Store).bind fun v2 =>
 some (Device.mk v1 v2 xA.Seq xA.Tx xA.Base)
def w_toRec (xA : Rec) : Option (Rec) :=
 some xA
def w_toRecS_b1 (xA : List Rec) (yOut1 : List Rec) (yI1 : Int) : Option ((List Rec × Int) ⊕ (List Rec)) :=
 bif (decide (yI1 < (ln xA))) then ((gi xA yI1).bind fun x1 =>
 (w_toRec x1).bind fun v1 =>
 (gi yOut1 yI1).bind fun x2 =>
 some (.inl ((si yOut1 yI1 v1), (ad yI1 1))))
 else (some (.inr yOut1))
def w_toRecS (xA : List Rec) : Option (List Rec) :=
 (mk 32 (Rec.mk 0 0 0 0) (ln xA)).bind fun q1 =>
 (loopO (fun s : List Rec × Int => w_toRecS_b1 xA s.1 s.2) (q1, 0)).bind fun v2 =>
 some v2
def s_l01In (xX : Int) (xLeast : Int) (xMost : Int) : Option (Bool) :=
 bif (decide (xX ≥ xLeast)) then (some (decide (xX ≤ xMost)))
 else (some false)
def s_PageOk (xP : Page) : Option (Bool) :=
 ((s_l01In xP.Kind 1 2).bind fun v1 =>
 bif (!v1) then (some true)
 else ((s_l01In xP.Seq 1 1000000000).bind fun v2 =>
 bif (!v2) then (some true)
 else ((s_l01In xP.Tx 1 1000000000).bind fun v3 =>
 bif (!v3) then (some true)
 else ((s_l01In xP.Count 1 9).bind fun v4 =>
 bif (!v4) then (some true)
 else ((s_l01In xP.Part 0 (sb xP.Count 1)).bind fun v5 =>
 bif (!v5) then (some true)
 else (some (decide ((sln xP.Text) > 90))))))) : Option (Bool)).bind fun j1 =>
 bif j1 then (some false)
 else (bif (xP.Kind == 2) then (some true)
 else (some (xP.Count == 1)))
def s_l06Byte (xN : Int) : Option (ByteArray) :=
 some (strB [(IntKind.u8.wrap xN)])
def s_l01Var_b1 (yN1 : Int) (yOut1 : List Int) : Option ((Int × List Int) ⊕ (Int × List Int)) :=
 bif (decide (yN1 > 127)) then ((ap 1 yOut1 [(IntKind.u8.wrap (ad (Int.tmod yN1 128) 128))]).bind fun q1 =>
 some (.inl ((qu yN1 128), q1)))
 else (some (.inr (yN1, yOut1)))
def s_l01Var (xN : Int) : Option (ByteArray) :=
 (loopO (fun s : Int × List Int => s_l01Var_b1 s.1 s.2) (xN, [])).bind fun v1 =>
 (ap 1 v1.2 [(IntKind.u8.wrap v1.1)]).bind fun q2 =>
 some (strB q2)
def s_SumMore_b2 (ySum2 : Int) (yK1 : Int) : Option ((Int × Int) ⊕ (Int)) :=
 bif (decide (yK1 < 8)) then (bif ((Int.tmod ySum2 2) == 1) then (some (.inl ((xr (IntKind.u32.wrap (Int.tdiv ySum2 2)) 3558460437), (ad yK1 1))))
 else (some (.inl ((IntKind.u32.wrap (Int.tdiv ySum2 2)), (ad yK1 1)))))
 else (some (.inr ySum2))
def s_SumMore_b1 (xText : ByteArray) (ySum1 : Int) (yI1 : Int) : Option ((Int × Int) ⊕ (Int)) :=
 bif (decide (yI1 < (sln xText))) then ((sx xText yI1).bind fun x1 =>
 (loopO (fun s : Int × Int => s_SumMore_b2 s.1 s.2) ((xr ySum1 (IntKind.u32.wrap x1)), 0)).bind fun v1 =>
 some (.inl (v1, (ad yI1 1))))
 else (some (.inr ySum1))
def s_SumMore (xSum : Int) (xText : ByteArray) : Option (Int) :=
 (loopO (fun s : Int × Int => s_SumMore_b1 xText s.1 s.2) (xSum, 0)).bind fun v2 =>
 some v2
def s_SumOf (xText : ByteArray) : Option (Int) :=
 (s_SumMore 4294967295 xText).bind fun v1 =>
 some v1
def s_l02Four (xX : Int) : Option (ByteArray) :=
 some (strB [(IntKind.u8.wrap (Int.fdiv xX (2 ^ (min (24 : Int).toNat IntKind.u32.bits)))), (IntKind.u8.wrap (Int.fdiv xX (2 ^ (min (16 : Int).toNat IntKind.u32.bits)))), (IntKind.u8.wrap (Int.fdiv xX (2 ^ (min (8 : Int).toNat IntKind.u32.bits)))), (IntKind.u8.wrap xX)])
def s_Sealed (xText : ByteArray) : Option (ByteArray × Bool) :=
 bif (decide ((sln xText) > 20000)) then (some ((bs []), false))
 else ((s_SumOf xText).bind fun v1 =>
 (s_l02Four v1).bind fun v2 =>
 (cat xText v2).bind fun x1 =>
 some (x1, true))
def s_PageText (xP : Page) : Option (ByteArray × Bool) :=
 (s_PageOk xP).bind fun v1 =>
 bif (!v1) then (some ((bs []), false))
 else ((s_l06Byte xP.Kind).bind fun v2 =>
 (s_l01Var xP.Seq).bind fun v3 =>
 (cat v2 v3).bind fun x1 =>
 (s_l01Var xP.Tx).bind fun v4 =>
 (cat x1 v4).bind fun x2 =>
 (s_l01Var xP.Part).bind fun v5 =>
 (cat x2 v5).bind fun x3 =>
 (s_l01Var xP.Count).bind fun v6 =>
 (cat x3 v6).bind fun x4 =>
 (cat x4 xP.Text).bind fun x5 =>
 (s_Sealed x5).bind fun v7 =>
 some (v7.1, v7.2))
def s_l05Leaf (xX : Leaf) : Option (Bool) :=
 bif (xX.Is == 0) then (some (seq xX.Text (bs [])))
 else (bif (xX.Is == 1) then ((s_l01In (sln xX.Text) 1 120).bind fun v1 =>
 some v1)
 else (bif (xX.Is == 2) then (some (decide ((sln xX.Text) ≤ 120)))
 else (some false)))
def s_FlashOk_b2 (x1 : Block) (yK1 : Int) : Option ((Int) ⊕ ((Unit) ⊕ ((Int) ⊕ ((Unit) ⊕ (Bool))))) :=
 bif (decide (yK1 < (ln x1.Leaves))) then (((gi x1.Leaves yK1).bind fun x2 =>
 (s_l05Leaf x2).bind fun v2 =>
 bif (!v2) then (some true)
 else (bif (decide (yK1 > 0)) then ((gi x1.Leaves (sb yK1 1)).bind fun x3 =>
 bif (x3.Is == 0) then ((gi x1.Leaves yK1).bind fun x4 =>
 some (x4.Is != 0))
 else (some false))
 else (some false)) : Option (Bool)).bind fun j2 =>
 bif j2 then (some (.inr (.inr (.inr (.inr false)))))
 else (some (.inl (ad yK1 1))))
 else (some (.inr (.inl ())))
def s_FlashOk_b1 (xF : Flash) (yI1 : Int) : Option ((Int) ⊕ ((Unit) ⊕ (Bool))) :=
 bif (decide (yI1 < (ln xF.Blocks))) then ((gi xF.Blocks yI1).bind fun x1 =>
 (bif ((ln x1.Leaves) != 4) then (some true)
 else ((s_l01In x1.Wear 0 1000000000).bind fun v1 =>
 some (!v1)) : Option (Bool)).bind fun j1 =>
 bif j1 then (some (.inr (.inr false)))
 else ((loopO (fun s : Int => s_FlashOk_b2 x1 s) 0).bind (Sum.elim (fun v3 => (some (.inl (ad yI1 1)))) some)))
 else (some (.inr (.inl ())))
def s_FlashOk (xF : Flash) : Option (Bool) :=
 (loopO (fun s : Int => s_FlashOk_b1 xF s) 0).bind (Sum.elim (fun v4 => ((s_l01In (ln xF.Blocks) 3 10).bind fun v5 =>
 some v5)) some)
def s_OpenBlock_b2 (xF : Flash) (yB1 : Int) (yN1 : Int) (yM1 : Int) (yK1 : Int) : Option ((Int × Int × Int) ⊕ (Int × Int)) :=
 (gi xF.Blocks yB1).bind fun x1 =>
 bif (decide (yK1 < (ln x1.Leaves))) then ((gi xF.Blocks yB1).bind fun x2 =>
 (gi x2.Leaves yK1).bind fun x3 =>
 bif (x3.Is == 0) then (some (.inl ((ad yN1 1), yM1, (ad yK1 1))))
 else (some (.inl (yN1, (ad yM1 1), (ad yK1 1)))))
 else (some (.inr (yN1, yM1)))
def s_OpenBlock_b1 (xF : Flash) (yB1 : Int) : Option ((Int) ⊕ ((Unit) ⊕ (Int))) :=
 bif (decide (yB1 < (ln xF.Blocks))) then ((loopO (fun s : Int × Int × Int => s_OpenBlock_b2 xF yB1 s.1 s.2.1 s.2.2) (0, 0, 0)).bind fun v1 =>
 ((gi xF.Blocks yB1).bind fun x4 =>
 bif (!x4.Bad) then (bif (decide (v1.1 > 0)) then (some (decide (v1.2 > 0)))
 else (some false))
 else (some false) : Option (Bool)).bind fun j1 =>
 bif j1 then (some (.inr (.inr yB1)))
 else (some (.inl (ad yB1 1))))
 else (some (.inr (.inl ())))
def s_OpenBlock (xF : Flash) : Option (Int) :=
 (loopO (fun s : Int => s_OpenBlock_b1 xF s) 0).bind (Sum.elim (fun v2 => (some (-1))) some)
def s_NextBlank_b1 (xB : Block) (yK1 : Int) : Option ((Int) ⊕ ((Unit) ⊕ (Int))) :=
 bif (decide (yK1 < (ln xB.Leaves))) then ((gi xB.Leaves yK1).bind fun x1 =>
 bif (x1.Is == 0) then (some (.inr (.inr yK1)))
 else (some (.inl (ad yK1 1))))
 else (some (.inr (.inl ())))
def s_NextBlank (xB : Block) : Option (Int) :=
 (loopO (fun s : Int => s_NextBlank_b1 xB s) 0).bind (Sum.elim (fun v1 => (some 4)) some)
def s_FreeBlocks_b2 (xF : Flash) (yB1 : Int) (yBlank1 : Bool) (yK1 : Int) : Option ((Bool × Int) ⊕ (Bool)) :=
 (gi xF.Blocks yB1).bind fun x2 =>
 bif (decide (yK1 < (ln x2.Leaves))) then (bif yBlank1 then ((gi xF.Blocks yB1).bind fun x3 =>
 (gi x3.Leaves yK1).bind fun x4 =>
 some (.inl ((x4.Is == 0), (ad yK1 1))))
 else (some (.inl (false, (ad yK1 1)))))
 else (some (.inr yBlank1))
def s_FreeBlocks_b1 (xF : Flash) (yOut1 : List Int) (yB1 : Int) : Option ((List Int × Int) ⊕ (List Int)) :=
 bif (decide (yB1 < (ln xF.Blocks))) then ((gi xF.Blocks yB1).bind fun x1 =>
 (loopO (fun s : Bool × Int => s_FreeBlocks_b2 xF yB1 s.1 s.2) ((!x1.Bad), 0)).bind fun v1 =>
 bif v1 then ((ap 8 yOut1 [yB1]).bind fun q1 =>
 some (.inl (q1, (ad yB1 1))))
 else (some (.inl (yOut1, (ad yB1 1)))))
 else (some (.inr yOut1))
def s_FreeBlocks (xF : Flash) : Option (List Int) :=
 (loopO (fun s : List Int × Int => s_FreeBlocks_b1 xF s.1 s.2) ([], 0)).bind fun v2 =>
 some v2
def s_PlaceOf_b1 (xF : Flash) (v4 : List Int) (yBest1 : Int) (yI1 : Int) : Option ((Int × Int) ⊕ (Int)) :=
 bif (decide (yI1 < (ln v4))) then ((gi v4 yI1).bind fun x3 =>
 (gi xF.Blocks x3).bind fun x4 =>
 (gi xF.Blocks yBest1).bind fun x5 =>
 bif (decide (x4.Wear < x5.Wear)) then ((gi v4 yI1).bind fun x6 =>
 some (.inl (x6, (ad yI1 1))))
 else (some (.inl (yBest1, (ad yI1 1)))))
 else (some (.inr yBest1))
def s_PlaceOf (xF : Flash) : Option (Int × Int × Bool) :=
 (s_FlashOk xF).bind fun v1 =>
 bif (!v1) then (some (0, 0, false))
 else ((s_OpenBlock xF).bind fun v2 =>
 bif (decide (v2 ≥ 0)) then ((gi xF.Blocks v2).bind fun x1 =>
 (s_NextBlank x1).bind fun v3 =>
 some (v2, v3, true))
 else ((s_FreeBlocks xF).bind fun v4 =>
 bif ((ln v4) == 0) then (some (0, 0, false))
 else ((gi v4 0).bind fun x2 =>
 (loopO (fun s : Int × Int => s_PlaceOf_b1 xF v4 s.1 s.2) (x2, 1)).bind fun v5 =>
 some (v5, 0, true))))
def s_l05Copy_b1 (xF : Flash) (yI1 : Int) (yOut01 : List Block) : Option ((Int × List Block) ⊕ (List Block)) :=
 bif (decide (yI1 < (ln xF.Blocks))) then ((gi xF.Blocks yI1).bind fun x1 =>
 (ap 24 [] x1.Leaves).bind fun q1 =>
 (ap 40 yOut01 [(Block.mk x1.Bad x1.Wear q1)]).bind fun q2 =>
 some (.inl ((ad yI1 1), q2)))
 else (some (.inr yOut01))
def s_l05Copy (xF : Flash) : Option (Flash) :=
 (loopO (fun s : Int × List Block => s_l05Copy_b1 xF s.1 s.2) (0, [])).bind fun v1 =>
 some (Flash.mk v1)
def s_l05May (xF : Flash) (xB : Int) (xLeaf : Int) (xText : ByteArray) : Option (Bool) :=
 (s_l01In xB 0 (sb (ln xF.Blocks) 1)).bind fun v1 =>
 bif v1 then ((gi xF.Blocks xB).bind fun x1 =>
 bif (!x1.Bad) then (bif (decide (xLeaf < 4)) then ((gi xF.Blocks xB).bind fun x2 =>
 (s_NextBlank x2).bind fun v2 =>
 bif (xLeaf == v2) then ((s_l01In (sln xText) 1 120).bind fun v3 =>
 some v3)
 else (some false))
 else (some false))
 else (some false))
 else (some false)
def s_Program (xF : Flash) (xB : Int) (xLeaf : Int) (xText : ByteArray) : Option (Flash × Bool) :=
 (s_l05Copy xF).bind fun v1 =>
 ((s_FlashOk xF).bind fun v2 =>
 bif (!v2) then (some true)
 else ((s_l05May xF xB xLeaf xText).bind fun v3 =>
 some (!v3)) : Option (Bool)).bind fun j1 =>
 bif j1 then (some (v1, false))
 else ((gi v1.Blocks xB).bind fun x1 =>
 (gi x1.Leaves xLeaf).bind fun x2 =>
 some ((Flash.mk (si v1.Blocks xB (Block.mk x1.Bad x1.Wear (si x1.Leaves xLeaf (Leaf.mk 1 xText))))), true))
def s_Wipe (xF : Flash) (xB : Int) : Option (Flash × Bool) :=
 (s_l05Copy xF).bind fun v1 =>
 ((s_FlashOk xF).bind fun v2 =>
 bif (!v2) then (some true)
 else ((s_l01In xB 0 (sb (ln xF.Blocks) 1)).bind fun v3 =>
 bif (!v3) then (some true)
 else ((gi xF.Blocks xB).bind fun x1 =>
 bif x1.Bad then (some true)
 else ((gi xF.Blocks xB).bind fun x2 =>
 some (x2.Wear == 1000000000)))) : Option (Bool)).bind fun j1 =>
 bif j1 then (some (v1, false))
 else ((gi xF.Blocks xB).bind fun x3 =>
 (mk 24 (Leaf.mk 0 (bs [])) 4).bind fun q1 =>
 (gi v1.Blocks xB).bind fun x4 =>
 some ((Flash.mk (si v1.Blocks xB (Block.mk false (ad x3.Wear 1) q1))), true))
def s_DoStep (xF : Flash) (xS : Step) : Option (Flash × Bool) :=
 bif (xS.Kind == 1) then ((s_Program xF xS.Block xS.Leaf xS.Text).bind fun v1 =>
 some (v1.1, v1.2))
 else (bif (xS.Kind == 2) then ((s_Wipe xF xS.Block).bind fun v2 =>
 some (v2.1, v2.2))
 else ((s_l05Copy xF).bind fun v3 =>
 some (v3, false)))
def s_l16Put (xF : Flash) (xSteps : List Step) (xP : Page) : Option (Flash × List Step × Bool) :=
 (s_PageText xP).bind fun v1 =>
 (s_PlaceOf xF).bind fun v2 =>
 (bif (!v1.2) then (some true)
 else (some (!v2.2.2)) : Option (Bool)).bind fun j1 =>
 bif j1 then (some (xF, xSteps, false))
 else ((s_DoStep xF (Step.mk 1 v2.1 v2.2.1 v1.1)).bind fun v3 =>
 ((ap 40 xSteps [(Step.mk 1 v2.1 v2.2.1 v1.1)]).bind fun q1 =>
 some q1 : Option (List Step)).bind fun j2 =>
 some (v3.1, j2, v3.2))
def s_RecOk (xR : Rec) : Option (Bool) :=
 (s_l01In xR.Arg 0 1000000000).bind fun v1 =>
 bif (!v1) then (some false)
 else (bif (xR.Kind == 1) then ((bif (xR.Vol == 0) then (some (xR.Chunk == 0))
 else (some false) : Option (Bool)).bind fun j1 =>
 some j1)
 else (((s_l01In xR.Kind 2 5).bind fun v2 =>
 bif (!v2) then (some true)
 else ((s_l01In xR.Vol 1 9).bind fun v3 =>
 bif (!v3) then (some true)
 else (bif (xR.Kind != 4) then (some (xR.Chunk != 0))
 else (some false))) : Option (Bool)).bind fun j2 =>
 bif j2 then (some false)
 else (bif (xR.Kind == 2) then (some (decide (xR.Arg ≤ 9)))
 else (bif (xR.Kind == 3) then (some (xR.Arg == 0))
 else (bif (xR.Kind == 4) then (bif (decide (xR.Arg < 16)) then ((s_l01In xR.Chunk 1 1000000000).bind fun v4 =>
 some v4)
 else (some false))
 else (some (decide (xR.Arg < 16))))))))
def s_RecText (xR : Rec) : Option (ByteArray × Bool) :=
 (s_RecOk xR).bind fun v1 =>
 bif (!v1) then (some ((bs []), false))
 else ((s_l06Byte (ad (ml 16 xR.Kind) xR.Vol)).bind fun v2 =>
 (s_l01Var xR.Arg).bind fun v3 =>
 (cat v2 v3).bind fun x1 =>
 (s_l01Var xR.Chunk).bind fun v4 =>
 (cat x1 v4).bind fun x2 =>
 some (x2, true))
def s_TxPages_b1 (xRecs : List Rec) (yTexts1 : List ByteArray) (yI1 : Int) : Option ((List ByteArray × Int) ⊕ ((List ByteArray) ⊕ ((List Page × Bool)))) :=
 bif (decide (yI1 < (ln xRecs))) then ((gi xRecs yI1).bind fun x1 =>
 (s_RecText x1).bind fun v1 =>
 bif (!v1.2) then (some (.inr (.inr ([], false))))
 else ((gi yTexts1 (sb (ln yTexts1) 1)).bind fun x2 =>
 bif (decide ((ad (sln x2) (sln v1.1)) > 90)) then ((ap 16 yTexts1 [v1.1]).bind fun q1 =>
 some (.inl (q1, (ad yI1 1))))
 else ((gi yTexts1 (sb (ln yTexts1) 1)).bind fun x3 =>
 (cat x3 v1.1).bind fun x4 =>
 (gi yTexts1 (sb (ln yTexts1) 1)).bind fun x5 =>
 some (.inl ((si yTexts1 (sb (ln yTexts1) 1) x4), (ad yI1 1))))))
 else (some (.inr (.inl yTexts1)))
def s_TxPages_b2 (xSeq : Int) (xTx : Int) (v2 : List ByteArray) (yOut1 : List Page) (yI2 : Int) : Option ((List Page × Int) ⊕ (List Page)) :=
 bif (decide (yI2 < (ln v2))) then ((gi v2 yI2).bind fun x6 =>
 (ap 56 yOut1 [(Page.mk 2 (ad xSeq yI2) xTx yI2 (ln v2) x6)]).bind fun q2 =>
 some (.inl (q2, (ad yI2 1))))
 else (some (.inr yOut1))
def s_TxPages (xSeq : Int) (xTx : Int) (xRecs : List Rec) : Option (List Page × Bool) :=
 (loopO (fun s : List ByteArray × Int => s_TxPages_b1 xRecs s.1 s.2) ([(bs [])], 0)).bind (Sum.elim (fun v2 => ((bif (decide ((ln v2) > 9)) then (some true)
 else ((s_l01In xSeq 1 (ad (sb 1000000000 (ln v2)) 1)).bind fun v3 =>
 bif (!v3) then (some true)
 else ((s_l01In xTx 1 1000000000).bind fun v4 =>
 some (!v4))) : Option (Bool)).bind fun j1 =>
 bif j1 then (some ([], false))
 else ((loopO (fun s : List Page × Int => s_TxPages_b2 xSeq xTx v2 s.1 s.2) ([], 0)).bind fun v5 =>
 some (v5, true)))) some)
def s_WriteSteps_b1 (v2 : List Page × Bool) (ySteps1 : List Step) (yOk1 : Bool) (yI1 : Int) (yF01 : List Block) : Option ((List Step × Bool × Int × List Block) ⊕ (List Step × Bool)) :=
 (bif (decide (yI1 < (ln v2.1))) then (some yOk1)
 else (some false) : Option (Bool)).bind fun j3 =>
 bif j3 then (((gi v2.1 yI1).bind fun x2 =>
 (s_l16Put (Flash.mk yF01) ySteps1 x2).bind fun v3 =>
 some (v3.2.1, v3.2.2, v3.1.Blocks) : Option (List Step × Bool × List Block)).bind fun j4 =>
 some (.inl (j4.1, j4.2.1, (ad yI1 1), j4.2.2)))
 else (some (.inr (ySteps1, yOk1)))
def s_WriteSteps (xD : Device) (xRecs : List Rec) (xText : ByteArray) : Option (List Step × Bool) :=
 bif ((ln xRecs) == 0) then (some ([], true))
 else ((bif (!(seq xText (bs []))) then (((gi xRecs (sb (ln xRecs) 1)).bind fun x1 =>
 (s_l16Put xD.Flash [] (Page.mk 1 xD.Seq x1.Chunk 0 1 xText)).bind fun v1 =>
 some (v1.2.1, v1.2.2, v1.1.Blocks) : Option (List Step × Bool × List Block)).bind fun j2 =>
 some (j2.1, (ad xD.Seq 1), j2.2.1, j2.2.2))
 else (some ([], xD.Seq, true, xD.Flash.Blocks)) : Option (List Step × Int × Bool × List Block)).bind fun j1 =>
 (s_TxPages j1.2.1 xD.Tx xRecs).bind fun v2 =>
 (loopO (fun s : List Step × Bool × Int × List Block => s_WriteSteps_b1 v2 s.1 s.2.1 s.2.2.1 s.2.2.2) (j1.1, j1.2.2.1, 0, j1.2.2.2)).bind fun v4 =>
 (bif (!v4.2) then (some true)
 else (some (!v2.2)) : Option (Bool)).bind fun j5 =>
 bif j5 then (some ([], false))
 else (some (v4.1, true)))
def i_in (xN : Int) (xLow : Int) (xHigh : Int) : Option (Bool) :=
 bif (decide (xN ≥ xLow)) then (some (decide (xN ≤ xHigh)))
 else (some false)
def i_PageOk (xP : Page) : Option (Bool) :=
 ((i_in xP.Seq 1 1000000000).bind fun v1 =>
 bif (!v1) then (some true)
 else ((i_in xP.Tx 1 1000000000).bind fun v2 =>
 bif (!v2) then (some true)
 else ((i_in xP.Count 1 9).bind fun v3 =>
 bif (!v3) then (some true)
 else ((i_in xP.Part 0 (sb xP.Count 1)).bind fun v4 =>
 bif (!v4) then (some true)
 else (some (decide ((sln xP.Text) > 90)))))) : Option (Bool)).bind fun j1 =>
 bif j1 then (some false)
 else (bif (xP.Kind == 2) then (some true)
 else (bif (xP.Kind == 1) then (some (xP.Count == 1))
 else (some false)))
def i_VarText_b1 (yN1 : Int) (yOut1 : List Int) : Option ((Int × List Int) ⊕ (Int × List Int)) :=
 bif (decide (yN1 > 127)) then ((ap 1 yOut1 [(IntKind.u8.wrap (ad (Int.tmod yN1 128) 128))]).bind fun q1 =>
 some (.inl ((qu yN1 128), q1)))
 else (some (.inr (yN1, yOut1)))
def i_VarText (xN : Int) : Option (ByteArray × Bool) :=
 (i_in xN 0 1000000000).bind fun v1 =>
 bif (!v1) then (some ((bs []), false))
 else ((loopO (fun s : Int × List Int => i_VarText_b1 s.1 s.2) (xN, [])).bind fun v2 =>
 (ap 1 v2.2 [(IntKind.u8.wrap v2.1)]).bind fun q2 =>
 some ((strB q2), true))
def i_varOf (xN : Int) : Option (ByteArray) :=
 (i_VarText xN).bind fun v1 =>
 some v1.1
def i_SumMore_b2 (ySum2 : Int) (y1 : Int) : Option ((Int × Int) ⊕ (Int)) :=
 bif (decide (y1 < 8)) then (bif ((an ySum2 1) == 1) then (some (.inl ((xr (Int.fdiv ySum2 (2 ^ (min (1 : Int).toNat IntKind.u32.bits))) 3558460437), (ad y1 1))))
 else (some (.inl ((Int.fdiv ySum2 (2 ^ (min (1 : Int).toNat IntKind.u32.bits))), (ad y1 1)))))
 else (some (.inr ySum2))
def i_SumMore_b1 (xText : ByteArray) (ySum1 : Int) (yI1 : Int) : Option ((Int × Int) ⊕ (Int)) :=
 bif (decide (yI1 < (sln xText))) then ((sx xText yI1).bind fun x1 =>
 (loopO (fun s : Int × Int => i_SumMore_b2 s.1 s.2) ((xr ySum1 (IntKind.u32.wrap x1)), 0)).bind fun v1 =>
 some (.inl (v1, (ad yI1 1))))
 else (some (.inr ySum1))
def i_SumMore (xSum : Int) (xText : ByteArray) : Option (Int) :=
 (loopO (fun s : Int × Int => i_SumMore_b1 xText s.1 s.2) (xSum, 0)).bind fun v2 =>
 some v2
def i_SumOf (xText : ByteArray) : Option (Int) :=
 (i_SumMore 4294967295 xText).bind fun v1 =>
 some v1
def i_Sealed (xText : ByteArray) : Option (ByteArray × Bool) :=
 bif (decide ((sln xText) > 20000)) then (some ((bs []), false))
 else ((i_SumOf xText).bind fun v1 =>
 (cat xText (strB [(IntKind.u8.wrap (Int.fdiv v1 (2 ^ (min (24 : Int).toNat IntKind.u32.bits)))), (IntKind.u8.wrap (Int.fdiv v1 (2 ^ (min (16 : Int).toNat IntKind.u32.bits)))), (IntKind.u8.wrap (Int.fdiv v1 (2 ^ (min (8 : Int).toNat IntKind.u32.bits)))), (IntKind.u8.wrap v1)])).bind fun x1 =>
 some (x1, true))
def i_PageText (xP : Page) : Option (ByteArray × Bool) :=
 (i_PageOk xP).bind fun v1 =>
 bif (!v1) then (some ((bs []), false))
 else (((i_varOf xP.Seq).bind fun v2 =>
 (cat (strB [(IntKind.u8.wrap xP.Kind)]) v2).bind fun x1 =>
 (i_varOf xP.Tx).bind fun v3 =>
 (cat x1 v3).bind fun x2 =>
 (i_varOf xP.Part).bind fun v4 =>
 (cat x2 v4).bind fun x3 =>
 (i_varOf xP.Count).bind fun v5 =>
 (cat x3 v5).bind fun x4 =>
 (cat x4 xP.Text).bind fun x5 =>
 (i_Sealed x5).bind fun v6 =>
 some (v6.1, v6.2) : Option (ByteArray × Bool)).bind fun j1 =>
 some (j1.1, j1.2))
def i_leafOk (xX : Leaf) : Option (Bool) :=
 bif (xX.Is == 0) then (some (seq xX.Text (bs [])))
 else (bif (xX.Is == 1) then ((i_in (sln xX.Text) 1 120).bind fun v1 =>
 some v1)
 else (bif (xX.Is == 2) then (some (decide ((sln xX.Text) ≤ 120)))
 else (some false)))
def i_FlashOk_b2 (x1 : Block) (y2 : Int) : Option ((Int) ⊕ ((Unit) ⊕ ((Int) ⊕ ((Unit) ⊕ (Bool))))) :=
 bif (decide (y2 < (ln x1.Leaves))) then ((gi x1.Leaves y2).bind fun x2 =>
 ((i_leafOk x2).bind fun v2 =>
 bif (!v2) then (some true)
 else (bif (decide (y2 > 0)) then ((gi x1.Leaves (sb y2 1)).bind fun x3 =>
 bif (x3.Is == 0) then (some (x2.Is != 0))
 else (some false))
 else (some false)) : Option (Bool)).bind fun j2 =>
 bif j2 then (some (.inr (.inr (.inr (.inr false)))))
 else (some (.inl (ad y2 1))))
 else (some (.inr (.inl ())))
def i_FlashOk_b1 (xF : Flash) (y1 : Int) : Option ((Int) ⊕ ((Unit) ⊕ (Bool))) :=
 bif (decide (y1 < (ln xF.Blocks))) then ((gi xF.Blocks y1).bind fun x1 =>
 (bif ((ln x1.Leaves) != 4) then (some true)
 else ((i_in x1.Wear 0 1000000000).bind fun v1 =>
 some (!v1)) : Option (Bool)).bind fun j1 =>
 bif j1 then (some (.inr (.inr false)))
 else ((loopO (fun s : Int => i_FlashOk_b2 x1 s) 0).bind (Sum.elim (fun v3 => (some (.inl (ad y1 1)))) some)))
 else (some (.inr (.inl ())))
def i_FlashOk (xF : Flash) : Option (Bool) :=
 (loopO (fun s : Int => i_FlashOk_b1 xF s) 0).bind (Sum.elim (fun v4 => ((i_in (ln xF.Blocks) 3 10).bind fun v5 =>
 some v5)) some)
def i_blanks_b1 (xB : Block) (yN1 : Int) (y1 : Int) : Option ((Int × Int) ⊕ (Int)) :=
 bif (decide (y1 < (ln xB.Leaves))) then ((gi xB.Leaves y1).bind fun x1 =>
 bif (x1.Is == 0) then (some (.inl ((ad yN1 1), (ad y1 1))))
 else (some (.inl (yN1, (ad y1 1)))))
 else (some (.inr yN1))
def i_blanks (xB : Block) : Option (Int) :=
 (loopO (fun s : Int × Int => i_blanks_b1 xB s.1 s.2) (0, 0)).bind fun v1 =>
 some v1
def i_OpenBlock_b1 (xF : Flash) (y1 : Int) : Option ((Int) ⊕ ((Unit) ⊕ (Int))) :=
 bif (decide (y1 < (ln xF.Blocks))) then ((gi xF.Blocks y1).bind fun x1 =>
 (i_blanks x1).bind fun v1 =>
 (bif (!x1.Bad) then (bif (decide (v1 > 0)) then (some (decide (v1 < (ln x1.Leaves))))
 else (some false))
 else (some false) : Option (Bool)).bind fun j1 =>
 bif j1 then (some (.inr (.inr y1)))
 else (some (.inl (ad y1 1))))
 else (some (.inr (.inl ())))
def i_OpenBlock (xF : Flash) : Option (Int) :=
 (loopO (fun s : Int => i_OpenBlock_b1 xF s) 0).bind (Sum.elim (fun v2 => (some (-1))) some)
def i_NextBlank_b1 (xB : Block) (y1 : Int) : Option ((Int) ⊕ ((Unit) ⊕ (Int))) :=
 bif (decide (y1 < (ln xB.Leaves))) then ((gi xB.Leaves y1).bind fun x1 =>
 bif (x1.Is == 0) then (some (.inr (.inr y1)))
 else (some (.inl (ad y1 1))))
 else (some (.inr (.inl ())))
def i_NextBlank (xB : Block) : Option (Int) :=
 (loopO (fun s : Int => i_NextBlank_b1 xB s) 0).bind (Sum.elim (fun v1 => (some 4)) some)
def i_FreeBlocks_b1 (xF : Flash) (yOut1 : List Int) (y1 : Int) : Option ((List Int × Int) ⊕ (List Int)) :=
 bif (decide (y1 < (ln xF.Blocks))) then ((gi xF.Blocks y1).bind fun x1 =>
 (bif (!x1.Bad) then ((i_blanks x1).bind fun v1 =>
 some (v1 == (ln x1.Leaves)))
 else (some false) : Option (Bool)).bind fun j1 =>
 bif j1 then ((ap 8 yOut1 [y1]).bind fun q1 =>
 some (.inl (q1, (ad y1 1))))
 else (some (.inl (yOut1, (ad y1 1)))))
 else (some (.inr yOut1))
def i_FreeBlocks (xF : Flash) : Option (List Int) :=
 (loopO (fun s : List Int × Int => i_FreeBlocks_b1 xF s.1 s.2) ([], 0)).bind fun v2 =>
 some v2
def i_PlaceOf_b1 (xF : Flash) (v4 : List Int) (yBest1 : Int) (y1 : Int) : Option ((Int × Int) ⊕ (Int)) :=
 bif (decide (y1 < (ln v4))) then ((gi v4 y1).bind fun x2 =>
 bif (decide (yBest1 < 0)) then (some (.inl (x2, (ad y1 1))))
 else ((gi xF.Blocks x2).bind fun x3 =>
 (gi xF.Blocks yBest1).bind fun x4 =>
 bif (decide (x3.Wear < x4.Wear)) then (some (.inl (x2, (ad y1 1))))
 else (some (.inl (yBest1, (ad y1 1))))))
 else (some (.inr yBest1))
def i_PlaceOf (xF : Flash) : Option (Int × Int × Bool) :=
 (i_FlashOk xF).bind fun v1 =>
 bif (!v1) then (some (0, 0, false))
 else ((i_OpenBlock xF).bind fun v2 =>
 bif (decide (v2 ≥ 0)) then ((gi xF.Blocks v2).bind fun x1 =>
 (i_NextBlank x1).bind fun v3 =>
 some (v2, v3, true))
 else ((i_FreeBlocks xF).bind fun v4 =>
 (loopO (fun s : Int × Int => i_PlaceOf_b1 xF v4 s.1 s.2) ((-1), 0)).bind fun v5 =>
 bif (decide (v5 < 0)) then (some (0, 0, false))
 else (some (v5, 0, true))))
def i_copyFlash_b1 (xF : Flash) (y1 : Int) (yOut01 : List Block) : Option ((Int × List Block) ⊕ (List Block)) :=
 bif (decide (y1 < (ln xF.Blocks))) then ((gi xF.Blocks y1).bind fun x1 =>
 (ap 24 [] x1.Leaves).bind fun q1 =>
 (ap 40 yOut01 [(Block.mk x1.Bad x1.Wear q1)]).bind fun q2 =>
 some (.inl ((ad y1 1), q2)))
 else (some (.inr yOut01))
def i_copyFlash (xF : Flash) : Option (Flash) :=
 (loopO (fun s : Int × List Block => i_copyFlash_b1 xF s.1 s.2) (0, [])).bind fun v1 =>
 some (Flash.mk v1)
def i_usable (xF : Flash) (xB : Int) : Option (Bool) :=
 (i_FlashOk xF).bind fun v1 =>
 bif v1 then ((i_in xB 0 (sb (ln xF.Blocks) 1)).bind fun v2 =>
 bif v2 then ((gi xF.Blocks xB).bind fun x1 =>
 some (!x1.Bad))
 else (some false))
 else (some false)
def i_Program (xF : Flash) (xB : Int) (xLeaf : Int) (xText : ByteArray) : Option (Flash × Bool) :=
 (i_copyFlash xF).bind fun v1 =>
 ((i_usable xF xB).bind fun v2 =>
 bif (!v2) then (some true)
 else ((i_in xLeaf 0 3).bind fun v3 =>
 bif (!v3) then (some true)
 else ((gi xF.Blocks xB).bind fun x1 =>
 (i_NextBlank x1).bind fun v4 =>
 bif (xLeaf != v4) then (some true)
 else ((i_in (sln xText) 1 120).bind fun v5 =>
 some (!v5)))) : Option (Bool)).bind fun j1 =>
 bif j1 then (some (v1, false))
 else ((gi v1.Blocks xB).bind fun x2 =>
 (gi x2.Leaves xLeaf).bind fun x3 =>
 some ((Flash.mk (si v1.Blocks xB (Block.mk x2.Bad x2.Wear (si x2.Leaves xLeaf (Leaf.mk 1 xText))))), true))
def i_blankLeaves  : Option (List Leaf) :=
 (mk 24 (Leaf.mk 0 (bs [])) 4).bind fun q1 =>
 some q1
def i_Wipe (xF : Flash) (xB : Int) : Option (Flash × Bool) :=
 (i_copyFlash xF).bind fun v1 =>
 ((i_usable xF xB).bind fun v2 =>
 bif (!v2) then (some true)
 else ((gi xF.Blocks xB).bind fun x1 =>
 some (x1.Wear == 1000000000)) : Option (Bool)).bind fun j1 =>
 bif j1 then (some (v1, false))
 else ((i_blankLeaves).bind fun v3 =>
 (gi v1.Blocks xB).bind fun x2 =>
 (gi (si v1.Blocks xB (Block.mk x2.Bad x2.Wear v3)) xB).bind fun x3 =>
 (gi (si v1.Blocks xB (Block.mk x2.Bad x2.Wear v3)) xB).bind fun x4 =>
 some ((Flash.mk (si (si v1.Blocks xB (Block.mk x2.Bad x2.Wear v3)) xB (Block.mk x4.Bad (ad x3.Wear 1) x4.Leaves))), true))
def i_DoStep (xF : Flash) (xS : Step) : Option (Flash × Bool) :=
 bif (xS.Kind == 1) then ((i_Program xF xS.Block xS.Leaf xS.Text).bind fun v1 =>
 some (v1.1, v1.2))
 else (bif (xS.Kind == 2) then ((i_Wipe xF xS.Block).bind fun v2 =>
 some (v2.1, v2.2))
 else ((i_copyFlash xF).bind fun v3 =>
 some (v3, false)))
def i_stepper_write (xW : stepper) (xP : Page) (xBut : Int) : Option (Bool × stepper) :=
 (i_PageText xP).bind fun v1 =>
 (i_PlaceOf xW.f_).bind fun v2 =>
 (bif (!v1.2) then (some true)
 else (bif (!v2.2.2) then (some true)
 else (some (v2.1 == xBut))) : Option (Bool)).bind fun j1 =>
 bif j1 then (some (false, xW))
 else (((i_DoStep xW.f_ (Step.mk 1 v2.1 v2.2.1 v1.1)).bind fun v3 =>
 some (v3.2, v3.1.Blocks) : Option (Bool × List Block)).bind fun j2 =>
 (ap 40 xW.steps_ [(Step.mk 1 v2.1 v2.2.1 v1.1)]).bind fun q1 =>
 some (j2.1, (stepper.mk (Flash.mk j2.2) q1)))
def i_RecOk (xR : Rec) : Option (Bool) :=
 bif (xR.Kind == 1) then ((bif (xR.Vol == 0) then ((i_in xR.Arg 0 1000000000).bind fun v1 =>
 bif v1 then (some (xR.Chunk == 0))
 else (some false))
 else (some false) : Option (Bool)).bind fun j1 =>
 some j1)
 else (((i_in xR.Vol 1 9).bind fun v2 =>
 bif (!v2) then (some true)
 else (bif (xR.Kind != 4) then (some (xR.Chunk != 0))
 else (some false)) : Option (Bool)).bind fun j2 =>
 bif j2 then (some false)
 else (bif (xR.Kind == 2) then ((i_in xR.Arg 0 9).bind fun v3 =>
 some v3)
 else (bif (xR.Kind == 3) then (some (xR.Arg == 0))
 else (bif (xR.Kind == 4) then ((i_in xR.Arg 0 15).bind fun v4 =>
 bif v4 then ((i_in xR.Chunk 1 1000000000).bind fun v5 =>
 some v5)
 else (some false))
 else (bif (xR.Kind == 5) then ((i_in xR.Arg 0 15).bind fun v6 =>
 some v6)
 else (some false))))))
def i_RecText (xR : Rec) : Option (ByteArray × Bool) :=
 (i_RecOk xR).bind fun v1 =>
 bif (!v1) then (some ((bs []), false))
 else ((i_varOf xR.Arg).bind fun v2 =>
 (cat (strB [(IntKind.u8.wrap (ad (ml 16 xR.Kind) xR.Vol))]) v2).bind fun x1 =>
 (i_varOf xR.Chunk).bind fun v3 =>
 (cat x1 v3).bind fun x2 =>
 some (x2, true))
def i_TxPages_b1 (xRecs : List Rec) (yTexts1 : List ByteArray) (y1 : Int) : Option ((List ByteArray × Int) ⊕ ((List ByteArray) ⊕ ((List Page × Bool)))) :=
 bif (decide (y1 < (ln xRecs))) then ((gi xRecs y1).bind fun x1 =>
 (i_RecText x1).bind fun v1 =>
 bif (!v1.2) then (some (.inr (.inr ([], false))))
 else ((gi yTexts1 (sb (ln yTexts1) 1)).bind fun x2 =>
 (bif (decide ((ad (sln x2) (sln v1.1)) > 90)) then ((ap 16 yTexts1 [(bs [])]).bind fun q1 =>
 some (q1, (ad (sb (ln yTexts1) 1) 1)))
 else (some (yTexts1, (sb (ln yTexts1) 1))) : Option (List ByteArray × Int)).bind fun j1 =>
 (gi j1.1 j1.2).bind fun x3 =>
 (cat x3 v1.1).bind fun x4 =>
 (gi j1.1 j1.2).bind fun x5 =>
 some (.inl ((si j1.1 j1.2 x4), (ad y1 1)))))
 else (some (.inr (.inl yTexts1)))
def i_TxPages_b2 (xSeq : Int) (xTx : Int) (v2 : List ByteArray) (yOut1 : List Page) (y2 : Int) : Option ((List Page × Int) ⊕ (List Page)) :=
 bif (decide (y2 < (ln v2))) then ((gi v2 y2).bind fun x6 =>
 (ap 56 yOut1 [(Page.mk 2 (ad xSeq y2) xTx y2 (ln v2) x6)]).bind fun q2 =>
 some (.inl (q2, (ad y2 1))))
 else (some (.inr yOut1))
def i_TxPages (xSeq : Int) (xTx : Int) (xRecs : List Rec) : Option (List Page × Bool) :=
 (loopO (fun s : List ByteArray × Int => i_TxPages_b1 xRecs s.1 s.2) ([(bs [])], 0)).bind (Sum.elim (fun v2 => ((bif (decide ((ln v2) > 9)) then (some true)
 else ((i_in xSeq 1 (ad (sb 1000000000 (ln v2)) 1)).bind fun v3 =>
 bif (!v3) then (some true)
 else ((i_in xTx 1 1000000000).bind fun v4 =>
 some (!v4))) : Option (Bool)).bind fun j2 =>
 bif j2 then (some ([], false))
 else ((loopO (fun s : List Page × Int => i_TxPages_b2 xSeq xTx v2 s.1 s.2) ([], 0)).bind fun v5 =>
 some (v5, true)))) some)
def i_WriteSteps_b1 (v2 : List Page × Bool) (yOk1 : Bool) (y1 : Int) (y01 : List Block) (y11 : List Step) : Option ((Bool × Int × List Block × List Step) ⊕ (Bool × List Block × List Step)) :=
 bif (decide (y1 < (ln v2.1))) then ((gi v2.1 y1).bind fun x2 =>
 bif yOk1 then ((i_stepper_write (stepper.mk (Flash.mk y01) y11) x2 (-1)).bind fun v3 =>
 some (.inl (v3.1, (ad y1 1), v3.2.f_.Blocks, v3.2.steps_)))
 else (some (.inl (false, (ad y1 1), y01, y11))))
 else (some (.inr (yOk1, y01, y11)))
def i_WriteSteps (xD : Device) (xRecs : List Rec) (xText : ByteArray) : Option (List Step × Bool) :=
 bif ((ln xRecs) == 0) then (some ([], true))
 else ((bif (!(seq xText (bs []))) then ((gi xRecs (sb (ln xRecs) 1)).bind fun x1 =>
 (i_stepper_write (stepper.mk xD.Flash []) (Page.mk 1 xD.Seq x1.Chunk 0 1 xText) (-1)).bind fun v1 =>
 bif (!v1.1) then (some (.inr ([], false)))
 else (some (.inl ((ad xD.Seq 1), v1.2.f_.Blocks, v1.2.steps_))))
 else (some (.inl (xD.Seq, xD.Flash.Blocks, []))) : Option ((Int × List Block × List Step) ⊕ ((List Step × Bool)))).bind (Sum.elim (fun j1 => ((i_TxPages j1.1 xD.Tx xRecs).bind fun v2 =>
 (loopO (fun s : Bool × Int × List Block × List Step => i_WriteSteps_b1 v2 s.1 s.2.1 s.2.2.1 s.2.2.2) (v2.2, 0, j1.2.1, j1.2.2)).bind fun v4 =>
 bif (!v4.1) then (some ([], false))
 else (some (v4.2.2, true)))) some))
def w_eqStep (xA : Step) (xB : Step) : Option (Bool) :=
 bif (xA.Kind != xB.Kind) then (some false)
 else (bif (xA.Block != xB.Block) then (some false)
 else (bif (xA.Leaf != xB.Leaf) then (some false)
 else (bif (!(seq xA.Text xB.Text)) then (some false)
 else (some true))))
def w_eqStepS_b1 (xA : List Step) (xB : List Step) (yI1 : Int) : Option ((Int) ⊕ ((Unit) ⊕ (Bool))) :=
 bif (decide (yI1 < (ln xA))) then ((gi xA yI1).bind fun x1 =>
 (gi xB yI1).bind fun x2 =>
 (w_eqStep x1 x2).bind fun v1 =>
 bif (!v1) then (some (.inr (.inr false)))
 else (some (.inl (ad yI1 1))))
 else (some (.inr (.inl ())))
def w_eqStepS (xA : List Step) (xB : List Step) : Option (Bool) :=
 bif ((ln xA) != (ln xB)) then (some false)
 else ((loopO (fun s : Int => w_eqStepS_b1 xA xB s) 0).bind (Sum.elim (fun v2 => (some true)) some))
def w_eqLeaf (xA : Leaf) (xB : Leaf) : Option (Bool) :=
 bif (xA.Is != xB.Is) then (some false)
 else (bif (!(seq xA.Text xB.Text)) then (some false)
 else (some true))
def w_eqLeafS_b1 (xA : List Leaf) (xB : List Leaf) (yI1 : Int) : Option ((Int) ⊕ ((Unit) ⊕ (Bool))) :=
 bif (decide (yI1 < (ln xA))) then ((gi xA yI1).bind fun x1 =>
 (gi xB yI1).bind fun x2 =>
 (w_eqLeaf x1 x2).bind fun v1 =>
 bif (!v1) then (some (.inr (.inr false)))
 else (some (.inl (ad yI1 1))))
 else (some (.inr (.inl ())))
def w_eqLeafS (xA : List Leaf) (xB : List Leaf) : Option (Bool) :=
 bif ((ln xA) != (ln xB)) then (some false)
 else ((loopO (fun s : Int => w_eqLeafS_b1 xA xB s) 0).bind (Sum.elim (fun v2 => (some true)) some))
def w_eqBlock (xA : Block) (xB : Block) : Option (Bool) :=
 bif (!(xA.Bad == xB.Bad)) then (some false)
 else (bif (xA.Wear != xB.Wear) then (some false)
 else ((w_eqLeafS xA.Leaves xB.Leaves).bind fun v1 =>
 bif (!v1) then (some false)
 else (some true)))
def w_eqBlockS_b1 (xA : List Block) (xB : List Block) (yI1 : Int) : Option ((Int) ⊕ ((Unit) ⊕ (Bool))) :=
 bif (decide (yI1 < (ln xA))) then ((gi xA yI1).bind fun x1 =>
 (gi xB yI1).bind fun x2 =>
 (w_eqBlock x1 x2).bind fun v1 =>
 bif (!v1) then (some (.inr (.inr false)))
 else (some (.inl (ad yI1 1))))
 else (some (.inr (.inl ())))
def w_eqBlockS (xA : List Block) (xB : List Block) : Option (Bool) :=
 bif ((ln xA) != (ln xB)) then (some false)
 else ((loopO (fun s : Int => w_eqBlockS_b1 xA xB s) 0).bind (Sum.elim (fun v2 => (some true)) some))
def w_eqFlash (xA : Flash) (xB : Flash) : Option (Bool) :=
 (w_eqBlockS xA.Blocks xB.Blocks).bind fun v1 =>
 bif (!v1) then (some false)
 else (some true)
def w_eqVol (xA : Vol) (xB : Vol) : Option (Bool) :=
 bif (xA.Id != xB.Id) then (some false)
 else (bif (xA.Root != xB.Root) then (some false)
 else (some true))
def w_eqVolS_b1 (xA : List Vol) (xB : List Vol) (yI1 : Int) : Option ((Int) ⊕ ((Unit) ⊕ (Bool))) :=
 bif (decide (yI1 < (ln xA))) then ((gi xA yI1).bind fun x1 =>
 (gi xB yI1).bind fun x2 =>
 (w_eqVol x1 x2).bind fun v1 =>
 bif (!v1) then (some (.inr (.inr false)))
 else (some (.inl (ad yI1 1))))
 else (some (.inr (.inl ())))
def w_eqVolS (xA : List Vol) (xB : List Vol) : Option (Bool) :=
 bif ((ln xA) != (ln xB)) then (some false)
 else ((loopO (fun s : Int => w_eqVolS_b1 xA xB s) 0).bind (Sum.elim (fun v2 => (some true)) some))
def w_eqIntS_b1 (xA : List Int) (xB : List Int) (yI1 : Int) : Option ((Int) ⊕ ((Unit) ⊕ (Bool))) :=
 bif (decide (yI1 < (ln xA))) then ((gi xA yI1).bind fun x1 =>
 (gi xB yI1).bind fun x2 =>
 bif (x1 != x2) then (some (.inr (.inr false)))
 else (some (.inl (ad yI1 1))))
 else (some (.inr (.inl ())))
def w_eqIntS (xA : List Int) (xB : List Int) : Option (Bool) :=
 bif ((ln xA) != (ln xB)) then (some false)
 else ((loopO (fun s : Int => w_eqIntS_b1 xA xB s) 0).bind (Sum.elim (fun v1 => (some true)) some))
def w_eqKnot (xA : Knot) (xB : Knot) : Option (Bool) :=
 bif (!(xA.Leaf == xB.Leaf)) then (some false)
 else ((w_eqIntS xA.Kids xB.Kids).bind fun v1 =>
 bif (!v1) then (some false)
 else (some true))
def w_eqKnotS_b1 (xA : List Knot) (xB : List Knot) (yI1 : Int) : Option ((Int) ⊕ ((Unit) ⊕ (Bool))) :=
 bif (decide (yI1 < (ln xA))) then ((gi xA yI1).bind fun x1 =>
 (gi xB yI1).bind fun x2 =>
 (w_eqKnot x1 x2).bind fun v1 =>
 bif (!v1) then (some (.inr (.inr false)))
 else (some (.inl (ad yI1 1))))
 else (some (.inr (.inl ())))
def w_eqKnotS (xA : List Knot) (xB : List Knot) : Option (Bool) :=
 bif ((ln xA) != (ln xB)) then (some false)
 else ((loopO (fun s : Int => w_eqKnotS_b1 xA xB s) 0).bind (Sum.elim (fun v2 => (some true)) some))
def w_eqArena (xA : Arena) (xB : Arena) : Option (Bool) :=
 (w_eqKnotS xA.Knots xB.Knots).bind fun v1 =>
 bif (!v1) then (some false)
 else (some true)
def w_eqStore (xA : Store) (xB : Store) : Option (Bool) :=
 (w_eqVolS xA.Vols xB.Vols).bind fun v1 =>
 bif (!v1) then (some false)
 else ((w_eqArena xA.Arena xB.Arena).bind fun v2 =>
 bif (!v2) then (some false)
 else (bif (xA.Next != xB.Next) then (some false)
 else (some true)))
def w_eqDevice (xA : Device) (xB : Device) : Option (Bool) :=
 (w_eqFlash xA.Flash xB.Flash).bind fun v1 =>
 bif (!v1) then (some false)
 else ((w_eqStore xA.Store xB.Store).bind fun v2 =>
 bif (!v2) then (some false)
 else (bif (xA.Seq != xB.Seq) then (some false)
 else (bif (xA.Tx != xB.Tx) then (some false)
 else (bif (xA.Base != xB.Base) then (some false)
 else (some true)))))
def w_eqRec (xA : Rec) (xB : Rec) : Option (Bool) :=
 bif (xA.Kind != xB.Kind) then (some false)
 else (bif (xA.Vol != xB.Vol) then (some false)
 else (bif (xA.Arg != xB.Arg) then (some false)
 else (bif (xA.Chunk != xB.Chunk) then (some false)
 else (some true))))
def w_eqRecS_b1 (xA : List Rec) (xB : List Rec) (yI1 : Int) : Option ((Int) ⊕ ((Unit) ⊕ (Bool))) :=
 bif (decide (yI1 < (ln xA))) then ((gi xA yI1).bind fun x1 =>
 (gi xB yI1).bind fun x2 =>
 (w_eqRec x1 x2).bind fun v1 =>
 bif (!v1) then (some (.inr (.inr false)))
 else (some (.inl (ad yI1 1))))
 else (some (.inr (.inl ())))
def w_eqRecS (xA : List Rec) (xB : List Rec) : Option (Bool) :=
 bif ((ln xA) != (ln xB)) then (some false)
 else ((loopO (fun s : Int => w_eqRecS_b1 xA xB s) 0).bind (Sum.elim (fun v2 => (some true)) some))
def w_markText_b1 (yK1 : Int) (yOut1 : ByteArray) : Option ((Int × ByteArray) ⊕ (ByteArray)) :=
 bif (decide (yK1 > 0)) then ((cat (strB [(IntKind.u8.wrap (ad 48 (Int.tmod yK1 10)))]) yOut1).bind fun x1 =>
 some (.inl ((qu yK1 10), x1)))
 else (some (.inr yOut1))
def w_markText (xK : Int) : Option (ByteArray) :=
 bif (decide (xK ≤ 0)) then (some (bs [109, 48]))
 else ((loopO (fun s : Int × ByteArray => w_markText_b1 s.1 s.2) (xK, (bs []))).bind fun v1 =>
 (cat (bs [109]) v1).bind fun x2 =>
 some x2)
def w_markLeafS_b1 (yA1 : List Leaf) (yK1 : Int) (yI1 : Int) : Option ((List Leaf × Int × Int) ⊕ (List Leaf × Int)) :=
 bif (decide (yI1 < (ln yA1))) then ((gi yA1 yI1).bind fun x1 =>
 (w_markText (ad yK1 1)).bind fun v1 =>
 (gi (si yA1 yI1 (Leaf.mk yK1 x1.Text)) yI1).bind fun x2 =>
 some (.inl ((si (si yA1 yI1 (Leaf.mk yK1 x1.Text)) yI1 (Leaf.mk x2.Is v1)), (ad (ad yK1 1) 1), (ad yI1 1))))
 else (some (.inr (yA1, yK1)))
def w_markLeafS (xA : List Leaf) (xK : Int) : Option (Int × List Leaf) :=
 (loopO (fun s : List Leaf × Int × Int => w_markLeafS_b1 s.1 s.2.1 s.2.2) (xA, xK, 0)).bind fun v2 =>
 some (v2.2, v2.1)
def w_markBlockS_b1 (yA1 : List Block) (yK1 : Int) (yI1 : Int) : Option ((List Block × Int × Int) ⊕ (List Block × Int)) :=
 bif (decide (yI1 < (ln yA1))) then ((gi yA1 yI1).bind fun x1 =>
 (gi (si yA1 yI1 (Block.mk ((Int.tmod yK1 3) == 0) x1.Wear x1.Leaves)) yI1).bind fun x2 =>
 (gi (si (si yA1 yI1 (Block.mk ((Int.tmod yK1 3) == 0) x1.Wear x1.Leaves)) yI1 (Block.mk x2.Bad (ad yK1 1) x2.Leaves)) yI1).bind fun x3 =>
 (w_markLeafS x3.Leaves (ad (ad yK1 1) 1)).bind fun v1 =>
 some (.inl ((si (si (si yA1 yI1 (Block.mk ((Int.tmod yK1 3) == 0) x1.Wear x1.Leaves)) yI1 (Block.mk x2.Bad (ad yK1 1) x2.Leaves)) yI1 (Block.mk x3.Bad x3.Wear v1.2)), v1.1, (ad yI1 1))))
 else (some (.inr (yA1, yK1)))
def w_markBlockS (xA : List Block) (xK : Int) : Option (Int × List Block) :=
 (loopO (fun s : List Block × Int × Int => w_markBlockS_b1 s.1 s.2.1 s.2.2) (xA, xK, 0)).bind fun v2 =>
 some (v2.2, v2.1)
def w_markFlash (xA : Flash) (xK : Int) : Option (Int) :=
 (w_markBlockS xA.Blocks xK).bind fun v1 =>
 some v1.1
def w_markVolS_b1 (yA1 : List Vol) (yK1 : Int) (yI1 : Int) : Option ((List Vol × Int × Int) ⊕ (List Vol × Int)) :=
 bif (decide (yI1 < (ln yA1))) then ((gi yA1 yI1).bind fun x1 =>
 (gi (si yA1 yI1 (Vol.mk yK1 x1.Root)) yI1).bind fun x2 =>
 some (.inl ((si (si yA1 yI1 (Vol.mk yK1 x1.Root)) yI1 (Vol.mk x2.Id (ad yK1 1))), (ad (ad yK1 1) 1), (ad yI1 1))))
 else (some (.inr (yA1, yK1)))
def w_markVolS (xA : List Vol) (xK : Int) : Option (Int × List Vol) :=
 (loopO (fun s : List Vol × Int × Int => w_markVolS_b1 s.1 s.2.1 s.2.2) (xA, xK, 0)).bind fun v1 =>
 some (v1.2, v1.1)
def w_markIntS_b1 (yA1 : List Int) (yK1 : Int) (yI1 : Int) : Option ((List Int × Int × Int) ⊕ (List Int × Int)) :=
 bif (decide (yI1 < (ln yA1))) then ((gi yA1 yI1).bind fun x1 =>
 some (.inl ((si yA1 yI1 yK1), (ad yK1 1), (ad yI1 1))))
 else (some (.inr (yA1, yK1)))
def w_markIntS (xA : List Int) (xK : Int) : Option (Int × List Int) :=
 (loopO (fun s : List Int × Int × Int => w_markIntS_b1 s.1 s.2.1 s.2.2) (xA, xK, 0)).bind fun v1 =>
 some (v1.2, v1.1)
def w_markKnotS_b1 (yA1 : List Knot) (yK1 : Int) (yI1 : Int) : Option ((List Knot × Int × Int) ⊕ (List Knot × Int)) :=
 bif (decide (yI1 < (ln yA1))) then ((gi yA1 yI1).bind fun x1 =>
 (gi (si yA1 yI1 (Knot.mk ((Int.tmod yK1 3) == 0) x1.Kids)) yI1).bind fun x2 =>
 (w_markIntS x2.Kids (ad yK1 1)).bind fun v1 =>
 some (.inl ((si (si yA1 yI1 (Knot.mk ((Int.tmod yK1 3) == 0) x1.Kids)) yI1 (Knot.mk x2.Leaf v1.2)), v1.1, (ad yI1 1))))
 else (some (.inr (yA1, yK1)))
def w_markKnotS (xA : List Knot) (xK : Int) : Option (Int × List Knot) :=
 (loopO (fun s : List Knot × Int × Int => w_markKnotS_b1 s.1 s.2.1 s.2.2) (xA, xK, 0)).bind fun v2 =>
 some (v2.2, v2.1)
def w_markArena (xA : Arena) (xK : Int) : Option (Int) :=
 (w_markKnotS xA.Knots xK).bind fun v1 =>
 some v1.1
def w_markStore (xA : Store) (xK : Int) : Option (Int) :=
 (w_markVolS xA.Vols xK).bind fun v1 =>
 (w_markArena xA.Arena v1.1).bind fun v2 =>
 some v2
def w_markDevice (xA : Device) (xK : Int) : Option (Int) :=
 (w_markFlash xA.Flash xK).bind fun v1 =>
 (w_markStore xA.Store v1).bind fun v2 =>
 some v2
def w_markRecS_b1 (yA1 : List Rec) (yK1 : Int) (yI1 : Int) : Option ((List Rec × Int × Int) ⊕ (List Rec × Int)) :=
 bif (decide (yI1 < (ln yA1))) then ((gi yA1 yI1).bind fun x1 =>
 (gi (si yA1 yI1 (Rec.mk yK1 x1.Vol x1.Arg x1.Chunk)) yI1).bind fun x2 =>
 (gi (si (si yA1 yI1 (Rec.mk yK1 x1.Vol x1.Arg x1.Chunk)) yI1 (Rec.mk x2.Kind (ad yK1 1) x2.Arg x2.Chunk)) yI1).bind fun x3 =>
 (gi (si (si (si yA1 yI1 (Rec.mk yK1 x1.Vol x1.Arg x1.Chunk)) yI1 (Rec.mk x2.Kind (ad yK1 1) x2.Arg x2.Chunk)) yI1 (Rec.mk x3.Kind x3.Vol (ad (ad yK1 1) 1) x3.Chunk)) yI1).bind fun x4 =>
 some (.inl ((si (si (si (si yA1 yI1 (Rec.mk yK1 x1.Vol x1.Arg x1.Chunk)) yI1 (Rec.mk x2.Kind (ad yK1 1) x2.Arg x2.Chunk)) yI1 (Rec.mk x3.Kind x3.Vol (ad (ad yK1 1) 1) x3.Chunk)) yI1 (Rec.mk x4.Kind x4.Vol x4.Arg (ad (ad (ad yK1 1) 1) 1))), (ad (ad (ad (ad yK1 1) 1) 1) 1), (ad yI1 1))))
 else (some (.inr (yA1, yK1)))
def w_markRecS (xA : List Rec) (xK : Int) : Option (Int × List Rec) :=
 (loopO (fun s : List Rec × Int × Int => w_markRecS_b1 s.1 s.2.1 s.2.2) (xA, xK, 0)).bind fun v1 =>
 some (v1.2, v1.1)
def w_markStepS_b1 (yA1 : List Step) (yK1 : Int) (yI1 : Int) : Option ((List Step × Int × Int) ⊕ (List Step × Int)) :=
 bif (decide (yI1 < (ln yA1))) then ((gi yA1 yI1).bind fun x1 =>
 (gi (si yA1 yI1 (Step.mk yK1 x1.Block x1.Leaf x1.Text)) yI1).bind fun x2 =>
 (gi (si (si yA1 yI1 (Step.mk yK1 x1.Block x1.Leaf x1.Text)) yI1 (Step.mk x2.Kind (ad yK1 1) x2.Leaf x2.Text)) yI1).bind fun x3 =>
 (w_markText (ad (ad (ad yK1 1) 1) 1)).bind fun v1 =>
 (gi (si (si (si yA1 yI1 (Step.mk yK1 x1.Block x1.Leaf x1.Text)) yI1 (Step.mk x2.Kind (ad yK1 1) x2.Leaf x2.Text)) yI1 (Step.mk x3.Kind x3.Block (ad (ad yK1 1) 1) x3.Text)) yI1).bind fun x4 =>
 some (.inl ((si (si (si (si yA1 yI1 (Step.mk yK1 x1.Block x1.Leaf x1.Text)) yI1 (Step.mk x2.Kind (ad yK1 1) x2.Leaf x2.Text)) yI1 (Step.mk x3.Kind x3.Block (ad (ad yK1 1) 1) x3.Text)) yI1 (Step.mk x4.Kind x4.Block x4.Leaf v1)), (ad (ad (ad (ad yK1 1) 1) 1) 1), (ad yI1 1))))
 else (some (.inr (yA1, yK1)))
def w_markStepS (xA : List Step) (xK : Int) : Option (Int × List Step) :=
 (loopO (fun s : List Step × Int × Int => w_markStepS_b1 s.1 s.2.1 s.2.2) (xA, xK, 0)).bind fun v2 =>
 some (v2.2, v2.1)
def w_heldStepS_b1 (xA : List Step) (yK1 : Int) (yI1 : Int) : Option ((Int × Int) ⊕ ((Int) ⊕ (Int))) :=
 bif (decide (yI1 < (ln xA))) then ((gi xA yI1).bind fun x1 =>
 bif (x1.Kind != yK1) then (some (.inr (.inr (-1))))
 else ((gi xA yI1).bind fun x2 =>
 bif (x2.Block != (ad yK1 1)) then (some (.inr (.inr (-1))))
 else ((gi xA yI1).bind fun x3 =>
 bif (x3.Leaf != (ad (ad yK1 1) 1)) then (some (.inr (.inr (-1))))
 else ((gi xA yI1).bind fun x4 =>
 (w_markText (ad (ad (ad yK1 1) 1) 1)).bind fun v1 =>
 bif (!(seq x4.Text v1)) then (some (.inr (.inr (-1))))
 else (some (.inl ((ad (ad (ad (ad yK1 1) 1) 1) 1), (ad yI1 1))))))))
 else (some (.inr (.inl yK1)))
def w_heldStepS (xA : List Step) (xK : Int) : Option (Int) :=
 (loopO (fun s : Int × Int => w_heldStepS_b1 xA s.1 s.2) (xK, 0)).bind (Sum.elim (fun v2 => (some v2)) some)
def w_FnExactWriteSteps (xAD : Device) (xARecs : List Rec) (xAText : ByteArray) : Option (Bool) :=
 bif (decide ((sln xAText) > 1048576)) then (some true)
 else ((w_szDevice xAD 1048576).bind fun v1 =>
 bif (decide (v1 < 0)) then (some true)
 else ((w_szRecS xARecs v1).bind fun v2 =>
 bif (decide (v2 < 0)) then (some true)
 else ((w_toDevice xAD).bind fun v3 =>
 (w_toRecS xARecs).bind fun v4 =>
 (s_WriteSteps v3 v4 xAText).bind fun v5 =>
 (w_toDevice xAD).bind fun v6 =>
 (w_toRecS xARecs).bind fun v7 =>
 (i_WriteSteps v6 v7 xAText).bind fun v8 =>
 ((w_eqStepS v8.1 v5.1).bind fun v9 =>
 bif (!v9) then (some true)
 else (some (!(v8.2 == v5.2))) : Option (Bool)).bind fun j1 =>
 bif j1 then (some false)
 else ((w_toDevice xAD).bind fun v10 =>
 (w_eqDevice v6 v10).bind fun v11 =>
 bif (!v11) then (some false)
 else ((w_toRecS xARecs).bind fun v12 =>
 (w_eqRecS v7 v12).bind fun v13 =>
 bif (!v13) then (some false)
 else ((w_markDevice v6 1).bind fun v14 =>
 (w_markRecS v7 v14).bind fun v15 =>
 (bif (decide (v15.1 < 0)) then (some true)
 else ((w_eqStepS v8.1 v5.1).bind fun v16 =>
 bif (!v16) then (some true)
 else (some (!(v8.2 == v5.2)))) : Option (Bool)).bind fun j2 =>
 bif j2 then (some false)
 else ((w_markStepS v8.1 1).bind fun v17 =>
 (w_heldStepS v17.2 1).bind fun v18 =>
 bif (decide (v18 < 0)) then (some false)
 else (bif (v18 != v17.1) then (some false)
 else ((w_toDevice xAD).bind fun v19 =>
 (w_toRecS xARecs).bind fun v20 =>
 (i_WriteSteps v19 v20 xAText).bind fun v21 =>
 ((w_eqStepS v21.1 v5.1).bind fun v22 =>
 bif (!v22) then (some true)
 else (some (!(v21.2 == v5.2))) : Option (Bool)).bind fun j3 =>
 bif j3 then (some false)
 else ((w_heldStepS v17.2 1).bind fun v23 =>
 bif (decide (v23 < 0)) then (some false)
 else (bif (v23 != v17.1) then (some false)
 else (some true))))))))))))
end
end Go.TI
