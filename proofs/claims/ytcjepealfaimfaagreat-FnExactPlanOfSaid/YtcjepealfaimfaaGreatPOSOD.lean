/- What functions of sort compute. No condition. -/
import Derived.Test.YtcjepealfaimfaaGreatPOTIE
namespace Go.TI
open Go
set_option linter.unusedVariables false
noncomputable section
def sort_swapRange_func_b1 {γ : Type} (lt : γ → γ → Bool) (xA : Int) (xB : Int) (xN : Int) (yI1 : Int) (yL1 : List γ) : Option ((Int × List γ) ⊕ (List γ)) :=
 bif (decide (yI1 < xN)) then ((swp yL1 (ad xA yI1) (ad xB yI1)).bind fun v1 =>
 some (.inl ((ad yI1 1), v1)))
 else (some (.inr yL1))
def sort_swapRange_func {γ : Type} (lt : γ → γ → Bool) (xL : List γ) (xA : Int) (xB : Int) (xN : Int) : Option (List γ) :=
 (loopO (fun s : Int × List γ => sort_swapRange_func_b1 lt xA xB xN s.1 s.2) (0, xL)).bind fun v2 =>
 some v2
def sort_rotate_func_b1 {γ : Type} (lt : γ → γ → Bool) (xM : Int) (yI1 : Int) (yJ1 : Int) (yL1 : List γ) : Option ((Int × Int × List γ) ⊕ (Int × List γ)) :=
 bif (yI1 != yJ1) then (bif (decide (yI1 > yJ1)) then ((sort_swapRange_func lt yL1 (sb xM yI1) xM yJ1).bind fun v1 =>
 some (.inl ((sb yI1 yJ1), yJ1, v1)))
 else ((sort_swapRange_func lt yL1 (sb xM yI1) (sb (ad xM yJ1) yI1) yI1).bind fun v2 =>
 some (.inl (yI1, (sb yJ1 yI1), v2))))
 else (some (.inr (yI1, yL1)))
def sort_rotate_func {γ : Type} (lt : γ → γ → Bool) (xL : List γ) (xA : Int) (xM : Int) (xB : Int) : Option (List γ) :=
 (loopO (fun s : Int × Int × List γ => sort_rotate_func_b1 lt xM s.1 s.2.1 s.2.2) ((sb xM xA), (sb xB xM), xL)).bind fun v3 =>
 (sort_swapRange_func lt v3.2 (sb xM v3.1) xM v3.1).bind fun v4 =>
 some v4
def sort_insertionSort_func_b2 {γ : Type} (lt : γ → γ → Bool) (xA : Int) (yJ1 : Int) (yL2 : List γ) : Option ((Int × List γ) ⊕ (List γ)) :=
 (bif (decide (yJ1 > xA)) then ((gi2 yL2 yJ1 (sb yJ1 1)).bind fun v1 =>
 some (lt v1.1 v1.2))
 else (some false) : Option (Bool)).bind fun j1 =>
 bif j1 then ((swp yL2 yJ1 (sb yJ1 1)).bind fun v2 =>
 some (.inl ((sb yJ1 1), v2)))
 else (some (.inr yL2))
def sort_insertionSort_func_b1 {γ : Type} (lt : γ → γ → Bool) (xA : Int) (xB : Int) (yI1 : Int) (yL1 : List γ) : Option ((Int × List γ) ⊕ (List γ)) :=
 bif (decide (yI1 < xB)) then ((loopO (fun s : Int × List γ => sort_insertionSort_func_b2 lt xA s.1 s.2) (yI1, yL1)).bind fun v3 =>
 some (.inl ((ad yI1 1), v3)))
 else (some (.inr yL1))
def sort_insertionSort_func {γ : Type} (lt : γ → γ → Bool) (xL : List γ) (xA : Int) (xB : Int) : Option (List γ) :=
 (loopO (fun s : Int × List γ => sort_insertionSort_func_b1 lt xA xB s.1 s.2) ((ad xA 1), xL)).bind fun v4 =>
 some v4
def sort_symMerge_func_b1 {γ : Type} (lt : γ → γ → Bool) (xL : List γ) (xA : Int) (yI1 : Int) (yJ1 : Int) : Option ((Int × Int) ⊕ (Int)) :=
 bif (decide (yI1 < yJ1)) then ((gi2 xL (IntKind.i64.wrap (Int.fdiv (IntKind.u64.wrap (ad yI1 yJ1)) (2 ^ (min (1 : Int).toNat IntKind.u64.bits)))) xA).bind fun v1 =>
 bif (lt v1.1 v1.2) then (some (.inl ((ad (IntKind.i64.wrap (Int.fdiv (IntKind.u64.wrap (ad yI1 yJ1)) (2 ^ (min (1 : Int).toNat IntKind.u64.bits)))) 1), yJ1)))
 else (some (.inl (yI1, (IntKind.i64.wrap (Int.fdiv (IntKind.u64.wrap (ad yI1 yJ1)) (2 ^ (min (1 : Int).toNat IntKind.u64.bits))))))))
 else (some (.inr yI1))
def sort_symMerge_func_b2 {γ : Type} (lt : γ → γ → Bool) (v2 : Int) (yK1 : Int) (yL1 : List γ) : Option ((Int × List γ) ⊕ (List γ)) :=
 bif (decide (yK1 < (sb v2 1))) then ((swp yL1 yK1 (ad yK1 1)).bind fun v3 =>
 some (.inl ((ad yK1 1), v3)))
 else (some (.inr yL1))
def sort_symMerge_func_b3 {γ : Type} (lt : γ → γ → Bool) (xL : List γ) (xM : Int) (yI2 : Int) (yJ2 : Int) : Option ((Int × Int) ⊕ (Int)) :=
 bif (decide (yI2 < yJ2)) then ((gi2 xL xM (IntKind.i64.wrap (Int.fdiv (IntKind.u64.wrap (ad yI2 yJ2)) (2 ^ (min (1 : Int).toNat IntKind.u64.bits))))).bind fun v5 =>
 bif (!(lt v5.1 v5.2)) then (some (.inl ((ad (IntKind.i64.wrap (Int.fdiv (IntKind.u64.wrap (ad yI2 yJ2)) (2 ^ (min (1 : Int).toNat IntKind.u64.bits)))) 1), yJ2)))
 else (some (.inl (yI2, (IntKind.i64.wrap (Int.fdiv (IntKind.u64.wrap (ad yI2 yJ2)) (2 ^ (min (1 : Int).toNat IntKind.u64.bits))))))))
 else (some (.inr yI2))
def sort_symMerge_func_b4 {γ : Type} (lt : γ → γ → Bool) (v6 : Int) (yK2 : Int) (yL2 : List γ) : Option ((Int × List γ) ⊕ (List γ)) :=
 bif (decide (yK2 > v6)) then ((swp yL2 yK2 (sb yK2 1)).bind fun v7 =>
 some (.inl ((sb yK2 1), v7)))
 else (some (.inr yL2))
def sort_symMerge_func_b5 {γ : Type} (lt : γ → γ → Bool) (xL : List γ) (xA : Int) (xM : Int) (xB : Int) (yStart1 : Int) (yR1 : Int) : Option ((Int × Int) ⊕ (Int)) :=
 bif (decide (yStart1 < yR1)) then ((gi2 xL (sb (sb (ad (IntKind.i64.wrap (Int.fdiv (IntKind.u64.wrap (ad xA xB)) (2 ^ (min (1 : Int).toNat IntKind.u64.bits)))) xM) 1) (IntKind.i64.wrap (Int.fdiv (IntKind.u64.wrap (ad yStart1 yR1)) (2 ^ (min (1 : Int).toNat IntKind.u64.bits))))) (IntKind.i64.wrap (Int.fdiv (IntKind.u64.wrap (ad yStart1 yR1)) (2 ^ (min (1 : Int).toNat IntKind.u64.bits))))).bind fun v9 =>
 bif (!(lt v9.1 v9.2)) then (some (.inl ((ad (IntKind.i64.wrap (Int.fdiv (IntKind.u64.wrap (ad yStart1 yR1)) (2 ^ (min (1 : Int).toNat IntKind.u64.bits)))) 1), yR1)))
 else (some (.inl (yStart1, (IntKind.i64.wrap (Int.fdiv (IntKind.u64.wrap (ad yStart1 yR1)) (2 ^ (min (1 : Int).toNat IntKind.u64.bits))))))))
 else (some (.inr yStart1))
def sort_symMerge_func {γ : Type} (lt : γ → γ → Bool) : Nat → (List γ) → Int → Int → Int → Option (List γ)
 | 0, _, _, _, _ => none
 | n + 1, xL, xA, xM, xB =>
 bif ((sb xM xA) == 1) then ((loopO (fun s : Int × Int => sort_symMerge_func_b1 lt xL xA s.1 s.2) (xM, xB)).bind fun v2 =>
 (loopO (fun s : Int × List γ => sort_symMerge_func_b2 lt v2 s.1 s.2) (xA, xL)).bind fun v4 =>
 some v4)
 else (bif ((sb xB xM) == 1) then ((loopO (fun s : Int × Int => sort_symMerge_func_b3 lt xL xM s.1 s.2) (xA, xM)).bind fun v6 =>
 (loopO (fun s : Int × List γ => sort_symMerge_func_b4 lt v6 s.1 s.2) (xM, xL)).bind fun v8 =>
 some v8)
 else ((bif (decide (xM > (IntKind.i64.wrap (Int.fdiv (IntKind.u64.wrap (ad xA xB)) (2 ^ (min (1 : Int).toNat IntKind.u64.bits)))))) then (some ((sb (ad (IntKind.i64.wrap (Int.fdiv (IntKind.u64.wrap (ad xA xB)) (2 ^ (min (1 : Int).toNat IntKind.u64.bits)))) xM) xB), (IntKind.i64.wrap (Int.fdiv (IntKind.u64.wrap (ad xA xB)) (2 ^ (min (1 : Int).toNat IntKind.u64.bits))))))
 else (some (xA, xM)) : Option (Int × Int)).bind fun j1 =>
 (loopO (fun s : Int × Int => sort_symMerge_func_b5 lt xL xA xM xB s.1 s.2) (j1.1, j1.2)).bind fun v10 =>
 (bif (decide (v10 < xM)) then (some (decide (xM < (sb (ad (IntKind.i64.wrap (Int.fdiv (IntKind.u64.wrap (ad xA xB)) (2 ^ (min (1 : Int).toNat IntKind.u64.bits)))) xM) v10))))
 else (some false) : Option (Bool)).bind fun j2 =>
 (bif j2 then ((sort_rotate_func lt xL v10 xM (sb (ad (IntKind.i64.wrap (Int.fdiv (IntKind.u64.wrap (ad xA xB)) (2 ^ (min (1 : Int).toNat IntKind.u64.bits)))) xM) v10)).bind fun v11 =>
 some v11)
 else (some xL) : Option (List γ)).bind fun j3 =>
 (bif (decide (xA < v10)) then (some (decide (v10 < (IntKind.i64.wrap (Int.fdiv (IntKind.u64.wrap (ad xA xB)) (2 ^ (min (1 : Int).toNat IntKind.u64.bits)))))))
 else (some false) : Option (Bool)).bind fun j4 =>
 (bif j4 then ((sort_symMerge_func lt n j3 xA v10 (IntKind.i64.wrap (Int.fdiv (IntKind.u64.wrap (ad xA xB)) (2 ^ (min (1 : Int).toNat IntKind.u64.bits))))).bind fun v12 =>
 some v12)
 else (some j3) : Option (List γ)).bind fun j5 =>
 bif (decide ((IntKind.i64.wrap (Int.fdiv (IntKind.u64.wrap (ad xA xB)) (2 ^ (min (1 : Int).toNat IntKind.u64.bits)))) < (sb (ad (IntKind.i64.wrap (Int.fdiv (IntKind.u64.wrap (ad xA xB)) (2 ^ (min (1 : Int).toNat IntKind.u64.bits)))) xM) v10))) then (bif (decide ((sb (ad (IntKind.i64.wrap (Int.fdiv (IntKind.u64.wrap (ad xA xB)) (2 ^ (min (1 : Int).toNat IntKind.u64.bits)))) xM) v10) < xB)) then ((sort_symMerge_func lt n j5 (IntKind.i64.wrap (Int.fdiv (IntKind.u64.wrap (ad xA xB)) (2 ^ (min (1 : Int).toNat IntKind.u64.bits)))) (sb (ad (IntKind.i64.wrap (Int.fdiv (IntKind.u64.wrap (ad xA xB)) (2 ^ (min (1 : Int).toNat IntKind.u64.bits)))) xM) v10) xB).bind fun v13 =>
 some v13)
 else (some j5))
 else (some j5)))
def sort_stable_func_b1 {γ : Type} (lt : γ → γ → Bool) (xN : Int) (yA1 : Int) (yB1 : Int) (yL1 : List γ) : Option ((Int × Int × List γ) ⊕ (Int × List γ)) :=
 bif (decide (yB1 ≤ xN)) then ((sort_insertionSort_func lt yL1 yA1 yB1).bind fun v1 =>
 some (.inl (yB1, (ad yB1 20), v1)))
 else (some (.inr (yA1, yL1)))
def sort_stable_func_b3 {γ : Type} (lt : γ → γ → Bool) (xN : Int) (yBlockSize1 : Int) (yA2 : Int) (yB2 : Int) (yL3 : List γ) : Option ((Int × Int × List γ) ⊕ (Int × List γ)) :=
 bif (decide (yB2 ≤ xN)) then ((sort_symMerge_func lt (List.length yL3 + 1) yL3 yA2 (ad yA2 yBlockSize1) yB2).bind fun v4 =>
 some (.inl (yB2, (ad yB2 (ml 2 yBlockSize1)), v4)))
 else (some (.inr (yA2, yL3)))
def sort_stable_func_b2 {γ : Type} (lt : γ → γ → Bool) (xN : Int) (yBlockSize1 : Int) (yL2 : List γ) : Option ((Int × List γ) ⊕ (List γ)) :=
 bif (decide (yBlockSize1 < xN)) then ((loopO (fun s : Int × Int × List γ => sort_stable_func_b3 lt xN yBlockSize1 s.1 s.2.1 s.2.2) (0, (ml 2 yBlockSize1), yL2)).bind fun v5 =>
 bif (decide ((ad v5.1 yBlockSize1) < xN)) then ((sort_symMerge_func lt (List.length v5.2 + 1) v5.2 v5.1 (ad v5.1 yBlockSize1) xN).bind fun v6 =>
 some (.inl ((ml yBlockSize1 2), v6)))
 else (some (.inl ((ml yBlockSize1 2), v5.2))))
 else (some (.inr yL2))
def sort_stable_func {γ : Type} (lt : γ → γ → Bool) (xL : List γ) (xN : Int) : Option (List γ) :=
 (loopO (fun s : Int × Int × List γ => sort_stable_func_b1 lt xN s.1 s.2.1 s.2.2) (0, 20, xL)).bind fun v2 =>
 (sort_insertionSort_func lt v2.2 v2.1 xN).bind fun v3 =>
 (loopO (fun s : Int × List γ => sort_stable_func_b2 lt xN s.1 s.2) (20, v3)).bind fun v7 =>
 some v7
end
end Go.TI
