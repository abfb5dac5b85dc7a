/- What functions of the given program compute. No condition. -/
import Derived.Test.YtngfcadblnecpaaTIC
namespace Go.TI
open Go
set_option linter.unusedVariables false
noncomputable section

structure Shelf where
  Vol : Int
  Texts : List ByteArray


def oShelf (x : Shelf) : Prop := oI x.Vol ∧ (ol oS) x.Texts

/-- laws.szStringS -/
def w_szStringS_b1 (xA : List ByteArray) (yLeft1 : Int) (yI1 : Int) : Option ((Int × Int) ⊕ ((Int) ⊕ (Int))) :=
 bif (decide (yI1 < (ln xA))) then ((gi xA yI1).bind fun x1 =>
 bif (decide ((sb yLeft1 (sln x1)) < 0)) then (some (.inr (.inr (-1))))
 else (some (.inl ((sb yLeft1 (sln x1)), (ad yI1 1)))))
 else (some (.inr (.inl yLeft1)))
def w_szStringS (xA : List ByteArray) (xLeft : Int) : Option (Int) :=
 bif (decide ((sb xLeft (ln xA)) < 0)) then (some (-1))
 else ((loopO (fun s : Int × Int => w_szStringS_b1 xA s.1 s.2) ((sb xLeft (ln xA)), 0)).bind (Sum.elim (fun v1 => (some v1)) some))
/-- laws.szShelf -/
def w_szShelf (xA : Shelf) (xLeft : Int) : Option (Int) :=
 (w_szStringS xA.Texts xLeft).bind fun v1 =>
 bif (decide (v1 < 0)) then (some (-1))
 else (some v1)
/-- laws.szShelfS -/
def w_szShelfS_b1 (xA : List Shelf) (yLeft1 : Int) (yI1 : Int) : Option ((Int × Int) ⊕ ((Int) ⊕ (Int))) :=
 bif (decide (yI1 < (ln xA))) then ((gi xA yI1).bind fun x1 =>
 (w_szShelf x1 yLeft1).bind fun v1 =>
 bif (decide (v1 < 0)) then (some (.inr (.inr (-1))))
 else (some (.inl (v1, (ad yI1 1)))))
 else (some (.inr (.inl yLeft1)))
def w_szShelfS (xA : List Shelf) (xLeft : Int) : Option (Int) :=
 bif (decide ((sb xLeft (ln xA)) < 0)) then (some (-1))
 else ((loopO (fun s : Int × Int => w_szShelfS_b1 xA s.1 s.2) ((sb xLeft (ln xA)), 0)).bind (Sum.elim (fun v2 => (some v2)) some))
/-- laws.toStringS -/
def w_toStringS_b1 (xA : List ByteArray) (yOut1 : List ByteArray) (yI1 : Int) : Option ((List ByteArray × Int) ⊕ (List ByteArray)) :=
 bif (decide (yI1 < (ln xA))) then ((gi xA yI1).bind fun x1 =>
 (gi yOut1 yI1).bind fun x2 =>
 some (.inl ((si yOut1 yI1 x1), (ad yI1 1))))
 else (some (.inr yOut1))
def w_toStringS (xA : List ByteArray) : Option (List ByteArray) :=
 (mk 16 (bs []) (ln xA)).bind fun c1 =>
 (loopO (fun s : List ByteArray × Int => w_toStringS_b1 xA s.1 s.2) (c1, 0)).bind fun v1 =>
 some v1
/-- laws.toShelf -/
def w_toShelf (xA : Shelf) : Option (Shelf) :=
 (w_toStringS xA.Texts).bind fun v1 =>
 some (Shelf.mk xA.Vol v1)
/-- laws.toShelfS -/
def w_toShelfS_b1 (xA : List Shelf) (yOut1 : List Shelf) (yI1 : Int) : Option ((List Shelf × Int) ⊕ (List Shelf)) :=
 bif (decide (yI1 < (ln xA))) then ((gi xA yI1).bind fun x1 =>
 (w_toShelf x1).bind fun v1 =>
 (gi yOut1 yI1).bind fun x2 =>
 some (.inl ((si yOut1 yI1 v1), (ad yI1 1))))
 else (some (.inr yOut1))
def w_toShelfS (xA : List Shelf) : Option (List Shelf) :=
 (mk 32 (Shelf.mk 0 []) (ln xA)).bind fun c1 =>
 (loopO (fun s : List Shelf × Int => w_toShelfS_b1 xA s.1 s.2) (c1, 0)).bind fun v2 =>
 some v2
/-- spec.l20SameTexts -/
def s_l20SameTexts_b1 (xA : List ByteArray) (xB : List ByteArray) (yI1 : Int) : Option ((Int) ⊕ ((Unit) ⊕ (Bool))) :=
 bif (decide (yI1 < (ln xA))) then ((gi xA yI1).bind fun x1 =>
 (gi xB yI1).bind fun x2 =>
 bif (!(seq x1 x2)) then (some (.inr (.inr false)))
 else (some (.inl (ad yI1 1))))
 else (some (.inr (.inl ())))
def s_l20SameTexts (xA : List ByteArray) (xB : List ByteArray) : Option (Bool) :=
 bif ((ln xA) != (ln xB)) then (some false)
 else ((loopO (fun s : Int => s_l20SameTexts_b1 xA xB s) 0).bind (Sum.elim (fun v1 => (some true)) some))
/-- spec.SameModel -/
def s_SameModel_b1 (xA : List Shelf) (xB : List Shelf) (yI1 : Int) : Option ((Int) ⊕ ((Unit) ⊕ (Bool))) :=
 bif (decide (yI1 < (ln xA))) then ((gi xA yI1).bind fun x1 =>
 (gi xB yI1).bind fun x2 =>
 bif (x1.Vol != x2.Vol) then (some (.inr (.inr false)))
 else ((gi xA yI1).bind fun x3 =>
 (gi xB yI1).bind fun x4 =>
 (s_l20SameTexts x3.Texts x4.Texts).bind fun v1 =>
 bif (!v1) then (some (.inr (.inr false)))
 else (some (.inl (ad yI1 1)))))
 else (some (.inr (.inl ())))
def s_SameModel (xA : List Shelf) (xB : List Shelf) : Option (Bool) :=
 bif ((ln xA) != (ln xB)) then (some false)
 else ((loopO (fun s : Int => s_SameModel_b1 xA xB s) 0).bind (Sum.elim (fun v2 => (some true)) some))
/-- spec.WholeOrNot -/
def s_WholeOrNot (xBefore : List Shelf) (xAfter : List Shelf) (xNow : List Shelf) : Option (Bool) :=
 (s_SameModel xNow xBefore).bind fun v1 =>
 bif v1 then (some true)
 else ((s_SameModel xNow xAfter).bind fun v2 =>
 some v2)
/-- impl.SameModel -/
def i_SameModel_b2 (xA : List Shelf) (xB : List Shelf) (y1 : Int) (x5 : Shelf) (y2 : Int) : Option ((Int) ⊕ ((Unit) ⊕ ((Int) ⊕ ((Unit) ⊕ (Bool))))) :=
 bif (decide (y2 < (ln x5.Texts))) then ((gi xA y1).bind fun x6 =>
 (gi x6.Texts y2).bind fun x7 =>
 (gi xB y1).bind fun x8 =>
 (gi x8.Texts y2).bind fun x9 =>
 bif (!(seq x7 x9)) then (some (.inr (.inr (.inr (.inr false)))))
 else (some (.inl (ad y2 1))))
 else (some (.inr (.inl ())))
def i_SameModel_b1 (xA : List Shelf) (xB : List Shelf) (y1 : Int) : Option ((Int) ⊕ ((Unit) ⊕ (Bool))) :=
 bif (decide (y1 < (ln xA))) then (((gi xA y1).bind fun x1 =>
 (gi xB y1).bind fun x2 =>
 bif (x1.Vol != x2.Vol) then (some true)
 else ((gi xA y1).bind fun x3 =>
 (gi xB y1).bind fun x4 =>
 some ((ln x3.Texts) != (ln x4.Texts))) : Option (Bool)).bind fun j1 =>
 bif j1 then (some (.inr (.inr false)))
 else ((gi xA y1).bind fun x5 =>
 (loopO (fun s : Int => i_SameModel_b2 xA xB y1 x5 s) 0).bind (Sum.elim (fun v1 => (some (.inl (ad y1 1)))) some)))
 else (some (.inr (.inl ())))
def i_SameModel (xA : List Shelf) (xB : List Shelf) : Option (Bool) :=
 bif ((ln xA) != (ln xB)) then (some false)
 else ((loopO (fun s : Int => i_SameModel_b1 xA xB s) 0).bind (Sum.elim (fun v2 => (some true)) some))
/-- impl.WholeOrNot -/
def i_WholeOrNot (xBefore : List Shelf) (xAfter : List Shelf) (xNow : List Shelf) : Option (Bool) :=
 (i_SameModel xNow xBefore).bind fun v1 =>
 bif v1 then (some true)
 else ((i_SameModel xNow xAfter).bind fun v2 =>
 some v2)
/-- laws.eqStringS -/
def w_eqStringS_b1 (xA : List ByteArray) (xB : List ByteArray) (yI1 : Int) : Option ((Int) ⊕ ((Unit) ⊕ (Bool))) :=
 bif (decide (yI1 < (ln xA))) then ((gi xA yI1).bind fun x1 =>
 (gi xB yI1).bind fun x2 =>
 bif (!(seq x1 x2)) then (some (.inr (.inr false)))
 else (some (.inl (ad yI1 1))))
 else (some (.inr (.inl ())))
def w_eqStringS (xA : List ByteArray) (xB : List ByteArray) : Option (Bool) :=
 bif ((ln xA) != (ln xB)) then (some false)
 else ((loopO (fun s : Int => w_eqStringS_b1 xA xB s) 0).bind (Sum.elim (fun v1 => (some true)) some))
/-- laws.eqShelf -/
def w_eqShelf (xA : Shelf) (xB : Shelf) : Option (Bool) :=
 bif (xA.Vol != xB.Vol) then (some false)
 else ((w_eqStringS xA.Texts xB.Texts).bind fun v1 =>
 bif (!v1) then (some false)
 else (some true))
/-- laws.eqShelfS -/
def w_eqShelfS_b1 (xA : List Shelf) (xB : List Shelf) (yI1 : Int) : Option ((Int) ⊕ ((Unit) ⊕ (Bool))) :=
 bif (decide (yI1 < (ln xA))) then ((gi xA yI1).bind fun x1 =>
 (gi xB yI1).bind fun x2 =>
 (w_eqShelf x1 x2).bind fun v1 =>
 bif (!v1) then (some (.inr (.inr false)))
 else (some (.inl (ad yI1 1))))
 else (some (.inr (.inl ())))
def w_eqShelfS (xA : List Shelf) (xB : List Shelf) : Option (Bool) :=
 bif ((ln xA) != (ln xB)) then (some false)
 else ((loopO (fun s : Int => w_eqShelfS_b1 xA xB s) 0).bind (Sum.elim (fun v2 => (some true)) some))
/-- laws.FnExactWholeOrNot -/
def w_FnExactWholeOrNot (xABefore : List Shelf) (xAAfter : List Shelf) (xANow : List Shelf) : Option (Bool) :=
 (w_szShelfS xABefore 1048576).bind fun v1 =>
 bif (decide (v1 < 0)) then (some true)
 else ((w_szShelfS xAAfter v1).bind fun v2 =>
 bif (decide (v2 < 0)) then (some true)
 else ((w_szShelfS xANow v2).bind fun v3 =>
 bif (decide (v3 < 0)) then (some true)
 else ((w_toShelfS xABefore).bind fun v4 =>
 (w_toShelfS xAAfter).bind fun v5 =>
 (w_toShelfS xANow).bind fun v6 =>
 (s_WholeOrNot v4 v5 v6).bind fun v7 =>
 (w_toShelfS xABefore).bind fun v8 =>
 (w_toShelfS xAAfter).bind fun v9 =>
 (w_toShelfS xANow).bind fun v10 =>
 (i_WholeOrNot v8 v9 v10).bind fun v11 =>
 bif (!(v11 == v7)) then (some false)
 else ((w_toShelfS xABefore).bind fun v12 =>
 (w_eqShelfS v8 v12).bind fun v13 =>
 bif (!v13) then (some false)
 else ((w_toShelfS xAAfter).bind fun v14 =>
 (w_eqShelfS v9 v14).bind fun v15 =>
 bif (!v15) then (some false)
 else ((w_toShelfS xANow).bind fun v16 =>
 (w_eqShelfS v10 v16).bind fun v17 =>
 bif (!v17) then (some false)
 else (some true)))))))
end
end Go.TI
