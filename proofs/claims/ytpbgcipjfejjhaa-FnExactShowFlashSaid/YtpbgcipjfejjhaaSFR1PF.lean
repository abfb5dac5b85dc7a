/- Flash: when it is right. No condition. -/
import Derived.Test.YtpbgcipjfejjhaaSFD
import Derived.Test.YtpbgcipjfejjhaaPL
namespace Go.TI
open Go
set_option linter.unusedSimpArgs false
set_option linter.unusedVariables false

theorem eq_in : i_in = s_l01In := rfl
theorem eq_leafOk : i_leafOk = s_l05Leaf := rfl
theorem gi_eq_some {α : Type} {l : List α} {i : Int} {x : α} (h : gi l i = some x) : 0 ≤ i ∧ l[i.toNat]? = some x := by
  unfold gi at h
  split at h
  · exact ⟨by assumption, h⟩
  · cases h
theorem eq_FlashOk : i_FlashOk = s_FlashOk := by
  have h2 : i_FlashOk_b2 = s_FlashOk_b2 := by
    funext x y
    unfold i_FlashOk_b2 s_FlashOk_b2
    cases decide (y < ln x.Leaves) with
    | false => rfl
    | true =>
      simp only [cond_true]
      cases gi x.Leaves y with
      | none => rfl
      | some z => rfl
  funext f
  unfold i_FlashOk s_FlashOk
  have : i_FlashOk_b1 f = s_FlashOk_b1 f := by
    funext i
    unfold i_FlashOk_b1 s_FlashOk_b1
    rw [h2]
    rfl
  rw [this]
  rfl

/-- Bounds in which nothing is too much. -/
def capF (f : Flash) : Prop := f.Blocks.length ≤ 1048576 ∧ ∀ b ∈ f.Blocks, b.Leaves.length ≤ 1048576
theorem in_eq (x a b : Int) : s_l01In x a b = some (decide (a ≤ x) && decide (x ≤ b)) := by
  unfold s_l01In
  by_cases h : x ≥ a
  · rw [decide_eq_true h, cond_true, Bool.true_and]
  · rw [decide_eq_false h, cond_false, Bool.false_and]
theorem leaf_ex (x : Leaf) : ∃ v, s_l05Leaf x = some v := by
  unfold s_l05Leaf
  cases x.Is == 0
  · simp only [cond_false]
    cases x.Is == 1
    · simp only [cond_false]
      cases x.Is == 2 <;> exact ⟨_, rfl⟩
    · simp only [cond_true, in_eq, Option.bind_some]
      exact ⟨_, rfl⟩
  · exact ⟨_, rfl⟩
theorem FlashOk_ex (f : Flash) (h : capF f) : ∃ v, s_FlashOk f = some v ∧ (v = true → f.Blocks.length ≤ 10 ∧ ∀ b ∈ f.Blocks, b.Leaves.length = 4) := by
  have key := loop_ex (body := fun s : Int => s_FlashOk_b1 f s) (fun (_ : Unit) i => i) f.Blocks.length (fun i _ => ∀ j b, j < i → f.Blocks[j]? = some b → b.Leaves.length = 4) (fun r => r = .inr false ∨ r = .inl () ∧ ∀ b ∈ f.Blocks, b.Leaves.length = 4)
    (fun s i hi hs => by
      obtain ⟨x, hx⟩ : ∃ x, f.Blocks[i]? = some x := ⟨_, List.getElem?_eq_getElem hi⟩
      have hM := h.1
      have hL := h.2 x (List.mem_of_getElem? hx)
      simp only [s_FlashOk_b1, lt_ln, decide_eq_true hi, cond_true, gi_nat, hx, Option.bind_some, in_eq]
      by_cases h4 : x.Leaves.length = 4
      · have e1 : (ln x.Leaves != 4) = false := by simp [ln, h4]
        simp only [e1, cond_false, Option.bind_some]
        cases hw : (decide (0 ≤ x.Wear) && decide (x.Wear ≤ 1000000000)) with
        | false => exact .inr ⟨_, rfl, .inl rfl⟩
        | true =>
          simp only [Bool.not_true, cond_false]
          obtain ⟨r, h5, h6⟩ := loop_ex (body := fun s : Int => s_FlashOk_b2 x s) (fun (_ : Unit) i => i) x.Leaves.length (fun _ _ => True) (fun r => r = .inl () ∨ r = .inr (.inr (.inr false)))
            (fun s k hk _ => by
              obtain ⟨y, hy⟩ : ∃ y, x.Leaves[k]? = some y := ⟨_, List.getElem?_eq_getElem hk⟩
              obtain ⟨v, hv⟩ := leaf_ex y
              simp only [s_FlashOk_b2, lt_ln, decide_eq_true hk, cond_true, gi_nat, hy, Option.bind_some, hv]
              have fin : ∀ j : Bool, (∃ s' : Unit, (bif j then some (.inr (.inr (.inr (.inr false)))) else some (.inl (ad (k : Int) 1)) : Option (Int ⊕ (Unit ⊕ (Int ⊕ (Unit ⊕ Bool))))) = some (.inl (((k + 1 : Nat)) : Int)) ∧ True) ∨ ∃ b, (bif j then some (.inr (.inr (.inr (.inr false)))) else some (.inl (ad (k : Int) 1)) : Option (Int ⊕ (Unit ⊕ (Int ⊕ (Unit ⊕ Bool))))) = some (.inr b) ∧ (b = .inl () ∨ b = .inr (.inr (.inr false))) := by
                intro j
                cases j with
                | true => exact .inr ⟨_, rfl, .inr rfl⟩
                | false => exact .inl ⟨(), by rw [cond_false, ad1 (by omega)], trivial⟩
              cases v with
              | false => exact fin true
              | true =>
                simp only [Bool.not_true, cond_false]
                by_cases hk0 : 0 < k
                · rw [decide_eq_true (by omega : (k : Int) > 0), cond_true, sb_eq (by omega) (by omega), gi_ok (by omega) (by omega), Option.bind_some]
                  cases (x.Leaves[((k : Int) - 1).toNat]'(by omega)).Is == 0
                  · exact fin false
                  · exact fin (y.Is != 0)
                · rw [decide_eq_false (by omega : ¬(k : Int) > 0)]
                  exact fin false)
            (fun s _ => ⟨_, by simp only [s_FlashOk_b2, lt_ln, Nat.lt_irrefl, decide_false, cond_false], .inl rfl⟩) (s := ()) trivial
          rw [h5, Option.bind_some]
          rcases h6 with rfl | rfl
          · refine .inl ⟨(), by rw [Sum.elim_inl, ad1 (by omega)], ?_⟩
            intro j b hj hb
            by_cases e : j = i
            · subst e; rw [hx] at hb; injection hb with hb; rw [← hb]; exact h4
            · exact hs j b (by omega) hb
          · exact .inr ⟨_, rfl, .inl rfl⟩
      · have e1 : (ln x.Leaves != 4) = true := by simp [ln]; omega
        simp only [e1, cond_true, Option.bind_some]
        exact .inr ⟨_, rfl, .inl rfl⟩)
    (fun s hs => ⟨_, by simp only [s_FlashOk_b1, lt_ln, Nat.lt_irrefl, decide_false, cond_false], .inr ⟨rfl, fun b hb => by
      obtain ⟨j, hj, e⟩ := List.getElem_of_mem hb
      exact hs j b hj (by rw [← e]; exact List.getElem?_eq_getElem hj)⟩⟩) (s := ()) (fun j b hj => absurd hj (by omega))
  obtain ⟨r, h1, h2⟩ := key
  unfold s_FlashOk
  rw [h1, Option.bind_some]
  rcases h2 with rfl | ⟨rfl, h2⟩
  · exact ⟨false, rfl, by simp⟩
  · simp only [Sum.elim_inl, in_eq, Option.bind_some]
    refine ⟨_, rfl, fun e => ⟨?_, h2⟩⟩
    rw [Bool.and_eq_true, decide_eq_true_eq, decide_eq_true_eq, ln_eq] at e
    omega
end Go.TI
