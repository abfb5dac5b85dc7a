/- Lawful: flash, its steps, and what they do: the program's and the reference's answer the same. No condition. -/
import Derived.Test.YtngfcadblnecpaaLWD
import Derived.Test.YtngfcadblnecpaaPL
namespace Go.TI
open Go
set_option linter.unusedSimpArgs false
set_option linter.unusedVariables false

theorem eq_in : i_in = s_l01In := rfl
theorem eq_copyFlash : i_copyFlash = s_l05Copy := rfl
theorem eq_leafOk : i_leafOk = s_l05Leaf := rfl
theorem eq_NextBlank : i_NextBlank = s_NextBlank := rfl
def blank4 : List Leaf := List.replicate 4 (Leaf.mk 0 (bs []))
theorem mk_blank4 : mk 24 (Leaf.mk 0 (bs [])) 4 = some blank4 := mk_nat (n := 4) (by omega) (by omega)
theorem blankLeaves_eq : i_blankLeaves = some blank4 := by unfold i_blankLeaves; rw [mk_blank4]; rfl
theorem eq_FlashNew : i_FlashNew = s_FlashNew := by
  funext n
  unfold i_FlashNew s_FlashNew
  have : i_FlashNew_b1 n = s_FlashNew_b1 n := by
    funext a b
    unfold i_FlashNew_b1 s_FlashNew_b1
    rw [blankLeaves_eq, mk_blank4]
  rw [this]
  rfl
theorem gi_eq_some {α : Type} {l : List α} {i : Int} {x : α} (h : gi l i = some x) : 0 ≤ i ∧ l[i.toNat]? = some x := by
  unfold gi at h
  split at h
  · exact ⟨by assumption, h⟩
  · cases h
theorem eq_FlashOk : i_FlashOk = s_FlashOk := by
  have h2 : i_FlashOk_b2 = s_FlashOk_b2 := by
    funext x y
    unfold i_FlashOk_b2 s_FlashOk_b2
    cases decide (y < ln x.Leaves) with
    | false => rfl
    | true =>
      simp only [cond_true]
      cases gi x.Leaves y with
      | none => rfl
      | some z => rfl
  funext f
  unfold i_FlashOk s_FlashOk
  have : i_FlashOk_b1 f = s_FlashOk_b1 f := by
    funext i
    unfold i_FlashOk_b1 s_FlashOk_b1
    rw [h2]
    rfl
  rw [this]
  rfl

/-- Bounds in which nothing is too much. -/
def capF (f : Flash) : Prop := f.Blocks.length ≤ 1048576 ∧ ∀ b ∈ f.Blocks, b.Leaves.length ≤ 1048576
theorem copyFlash_eq (f : Flash) (h : capF f) : s_l05Copy f = some f := by
  unfold s_l05Copy
  have := loop_map (body := fun s : Int × List Block => s_l05Copy_b1 f s.1 s.2) f.Blocks (fun x => x)
    (fun i x out hx ho => by
      have hlt := (List.getElem?_eq_some_iff.1 hx).1
      have h1 := h.1
      have h2 := h.2 x (List.mem_of_getElem? hx)
      unfold s_l05Copy_b1
      simp only [lt_ln, decide_eq_true hlt, cond_true, gi_nat, hx, Option.bind_some]
      rw [ap_eq (by simp only [List.length_nil]; omega), Option.bind_some, ap_eq (by simp only [List.length_singleton]; omega), Option.bind_some, ad1 (by omega), List.nil_append])
    (fun out => by
      unfold s_l05Copy_b1
      simp only [lt_ln, Nat.lt_irrefl, decide_false, cond_false])
  rw [this, Option.bind_some, List.map_id']
theorem in_eq (x a b : Int) : s_l01In x a b = some (decide (a ≤ x) && decide (x ≤ b)) := by
  unfold s_l01In
  by_cases h : x ≥ a
  · rw [decide_eq_true h, cond_true, Bool.true_and]
  · rw [decide_eq_false h, cond_false, Bool.false_and]
theorem leaf_ex (x : Leaf) : ∃ v, s_l05Leaf x = some v := by
  unfold s_l05Leaf
  cases x.Is == 0
  · simp only [cond_false]
    cases x.Is == 1
    · simp only [cond_false]
      cases x.Is == 2 <;> exact ⟨_, rfl⟩
    · simp only [cond_true, in_eq, Option.bind_some]
      exact ⟨_, rfl⟩
  · exact ⟨_, rfl⟩
theorem FlashOk_ex (f : Flash) (h : capF f) : ∃ v, s_FlashOk f = some v ∧ (v = true → f.Blocks.length ≤ 10 ∧ ∀ b ∈ f.Blocks, b.Leaves.length = 4) := by
  have key := loop_ex (body := fun s : Int => s_FlashOk_b1 f s) (fun (_ : Unit) i => i) f.Blocks.length (fun i _ => ∀ j b, j < i → f.Blocks[j]? = some b → b.Leaves.length = 4) (fun r => r = .inr false ∨ r = .inl () ∧ ∀ b ∈ f.Blocks, b.Leaves.length = 4)
    (fun s i hi hs => by
      obtain ⟨x, hx⟩ : ∃ x, f.Blocks[i]? = some x := ⟨_, List.getElem?_eq_getElem hi⟩
      have hM := h.1
      have hL := h.2 x (List.mem_of_getElem? hx)
      simp only [s_FlashOk_b1, lt_ln, decide_eq_true hi, cond_true, gi_nat, hx, Option.bind_some, in_eq]
      by_cases h4 : x.Leaves.length = 4
      · have e1 : (ln x.Leaves != 4) = false := by simp [ln, h4]
        simp only [e1, cond_false, Option.bind_some]
        cases hw : (decide (0 ≤ x.Wear) && decide (x.Wear ≤ 1000000000)) with
        | false => exact .inr ⟨_, rfl, .inl rfl⟩
        | true =>
          simp only [Bool.not_true, cond_false]
          obtain ⟨r, h5, h6⟩ := loop_ex (body := fun s : Int => s_FlashOk_b2 x s) (fun (_ : Unit) i => i) x.Leaves.length (fun _ _ => True) (fun r => r = .inl () ∨ r = .inr (.inr (.inr false)))
            (fun s k hk _ => by
              obtain ⟨y, hy⟩ : ∃ y, x.Leaves[k]? = some y := ⟨_, List.getElem?_eq_getElem hk⟩
              obtain ⟨v, hv⟩ := leaf_ex y
              simp only [s_FlashOk_b2, lt_ln, decide_eq_true hk, cond_true, gi_nat, hy, Option.bind_some, hv]
              have fin : ∀ j : Bool, (∃ s' : Unit, (bif j then some (.inr (.inr (.inr (.inr false)))) else some (.inl (ad (k : Int) 1)) : Option (Int ⊕ (Unit ⊕ (Int ⊕ (Unit ⊕ Bool))))) = some (.inl (((k + 1 : Nat)) : Int)) ∧ True) ∨ ∃ b, (bif j then some (.inr (.inr (.inr (.inr false)))) else some (.inl (ad (k : Int) 1)) : Option (Int ⊕ (Unit ⊕ (Int ⊕ (Unit ⊕ Bool))))) = some (.inr b) ∧ (b = .inl () ∨ b = .inr (.inr (.inr false))) := by
                intro j
                cases j with
                | true => exact .inr ⟨_, rfl, .inr rfl⟩
                | false => exact .inl ⟨(), by rw [cond_false, ad1 (by omega)], trivial⟩
              cases v with
              | false => exact fin true
              | true =>
                simp only [Bool.not_true, cond_false]
                by_cases hk0 : 0 < k
                · rw [decide_eq_true (by omega : (k : Int) > 0), cond_true, sb_eq (by omega) (by omega), gi_ok (by omega) (by omega), Option.bind_some]
                  cases (x.Leaves[((k : Int) - 1).toNat]'(by omega)).Is == 0
                  · exact fin false
                  · exact fin (y.Is != 0)
                · rw [decide_eq_false (by omega : ¬(k : Int) > 0)]
                  exact fin false)
            (fun s _ => ⟨_, by simp only [s_FlashOk_b2, lt_ln, Nat.lt_irrefl, decide_false, cond_false], .inl rfl⟩) (s := ()) trivial
          rw [h5, Option.bind_some]
          rcases h6 with rfl | rfl
          · refine .inl ⟨(), by rw [Sum.elim_inl, ad1 (by omega)], ?_⟩
            intro j b hj hb
            by_cases e : j = i
            · subst e; rw [hx] at hb; injection hb with hb; rw [← hb]; exact h4
            · exact hs j b (by omega) hb
          · exact .inr ⟨_, rfl, .inl rfl⟩
      · have e1 : (ln x.Leaves != 4) = true := by simp [ln]; omega
        simp only [e1, cond_true, Option.bind_some]
        exact .inr ⟨_, rfl, .inl rfl⟩)
    (fun s hs => ⟨_, by simp only [s_FlashOk_b1, lt_ln, Nat.lt_irrefl, decide_false, cond_false], .inr ⟨rfl, fun b hb => by
      obtain ⟨j, hj, e⟩ := List.getElem_of_mem hb
      exact hs j b hj (by rw [← e]; exact List.getElem?_eq_getElem hj)⟩⟩) (s := ()) (fun j b hj => absurd hj (by omega))
  obtain ⟨r, h1, h2⟩ := key
  unfold s_FlashOk
  rw [h1, Option.bind_some]
  rcases h2 with rfl | ⟨rfl, h2⟩
  · exact ⟨false, rfl, by simp⟩
  · simp only [Sum.elim_inl, in_eq, Option.bind_some]
    refine ⟨_, rfl, fun e => ⟨?_, h2⟩⟩
    rw [Bool.and_eq_true, decide_eq_true_eq, decide_eq_true_eq, ln_eq] at e
    omega
theorem NextBlank_ex (b : Block) (h : b.Leaves.length ≤ 1048576) : ∃ v, s_NextBlank b = some v ∧ 0 ≤ v ∧ (v < b.Leaves.length ∨ v = 4) := by
  obtain ⟨r, h1, h2⟩ := loop_ex (body := fun s : Int => s_NextBlank_b1 b s) (fun (_ : Unit) i => i) b.Leaves.length (fun _ _ => True) (fun r => r = .inl () ∨ ∃ k : Nat, k < b.Leaves.length ∧ r = .inr (k : Int))
    (fun s i hi _ => by
      simp only [s_NextBlank_b1, lt_ln, decide_eq_true hi, cond_true, gi_nat, List.getElem?_eq_getElem hi, Option.bind_some]
      cases b.Leaves[i].Is == 0
      · exact .inl ⟨(), by rw [cond_false, ad1 (by omega)], trivial⟩
      · exact .inr ⟨_, rfl, .inr ⟨i, hi, rfl⟩⟩)
    (fun s _ => ⟨_, by simp only [s_NextBlank_b1, lt_ln, Nat.lt_irrefl, decide_false, cond_false], .inl rfl⟩) (s := ()) trivial
  unfold s_NextBlank
  rw [h1, Option.bind_some]
  rcases h2 with rfl | ⟨k, hk, rfl⟩
  · exact ⟨4, rfl, by omega, .inr rfl⟩
  · exact ⟨_, rfl, by omega, .inl (by omega)⟩

/-- Flash with room for what steps do. -/
def wellF (f : Flash) : Prop := f.Blocks.length ≤ 1048576 ∧ ∀ b ∈ f.Blocks, b.Leaves.length = 4
theorem wellF.cap {f : Flash} (h : wellF f) : capF f := ⟨h.1, fun b hb => by rw [h.2 b hb]; omega⟩
theorem wellF_si {f : Flash} {i : Int} {b : Block} (h : wellF f) (hb : b.Leaves.length = 4) : wellF (Flash.mk (si f.Blocks i b)) := by
  refine ⟨by unfold si; rw [List.length_set]; exact h.1, fun c hc => ?_⟩
  rcases List.mem_or_eq_of_mem_set hc with hc | rfl
  · exact h.2 c hc
  · exact hb
theorem Program_eq (f : Flash) (b l : Int) (t : ByteArray) (h : capF f) : ∃ g v, s_Program f b l t = some (g, v) ∧ i_Program f b l t = some (g, v) ∧ (v = false ∧ g = f ∨ v = true ∧ wellF g) := by
  unfold s_Program i_Program
  rw [eq_copyFlash, copyFlash_eq f h]
  unfold i_usable s_l05May
  rw [eq_FlashOk, eq_NextBlank, eq_in]
  obtain ⟨ok, h1, h2⟩ := FlashOk_ex f h
  simp only [h1, Option.bind_some, in_eq]
  cases ok with
  | false => exact ⟨f, false, rfl, rfl, .inl ⟨rfl, rfl⟩⟩
  | true =>
    obtain ⟨h3, h4⟩ := h2 rfl
    simp only [Bool.not_true, cond_false, cond_true, Option.bind_some]
    have eln : sb (ln f.Blocks) 1 = (f.Blocks.length : Int) - 1 := by rw [ln_eq, sb_eq (by omega) (by omega)]
    rw [eln]
    cases hb : (decide (0 ≤ b) && decide (b ≤ (f.Blocks.length : Int) - 1)) with
    | false => exact ⟨f, false, rfl, rfl, .inl ⟨rfl, rfl⟩⟩
    | true =>
      simp at hb
      have hbi : b < (f.Blocks.length : Int) := by omega
      simp only [cond_true, gi_ok hb.1 hbi, Option.bind_some]
      have hm : f.Blocks[b.toNat]'(by omega) ∈ f.Blocks := List.getElem_mem _
      have hL := h4 _ hm
      generalize f.Blocks[b.toNat]'(by omega) = x at hL
      cases x.Bad with
      | true => exact ⟨f, false, rfl, rfl, .inl ⟨rfl, rfl⟩⟩
      | false =>
        obtain ⟨k, h5, h6, h7⟩ := NextBlank_ex x (by omega)
        simp only [Bool.not_false, Bool.not_true, cond_true, cond_false, h5, Option.bind_some]
        by_cases hl : 0 ≤ l ∧ l ≤ 3
        · have e1 : (decide (0 ≤ l) && decide (l ≤ 3)) = true := by simp [hl]
          have e2 : decide (l < 4) = true := by simp; omega
          simp only [e1, e2, cond_true, cond_false, Bool.not_true]
          by_cases hk : l = k
          · have e3 : (l == k) = true := by simp [hk]
            have e4 : (l != k) = false := by simp [hk]
            simp only [e3, e4, cond_true, cond_false, Option.bind_some]
            cases hs : (decide (1 ≤ sln t) && decide (sln t ≤ 120)) with
            | false => exact ⟨f, false, rfl, rfl, .inl ⟨rfl, rfl⟩⟩
            | true =>
              simp only [Bool.not_true, cond_false]
              rw [gi_ok (l := x.Leaves) hl.1 (by omega), Option.bind_some]
              refine ⟨_, _, rfl, rfl, .inr ⟨rfl, wellF_si ⟨by omega, h4⟩ (by simp only [si, List.length_set]; exact hL)⟩⟩
          · have e3 : (l == k) = false := by simp [hk]
            have e4 : (l != k) = true := by simp [hk]
            simp only [e3, e4, cond_true, cond_false, Option.bind_some]
            exact ⟨f, false, rfl, rfl, .inl ⟨rfl, rfl⟩⟩
        · have e1 : (decide (0 ≤ l) && decide (l ≤ 3)) = false := by simp; omega
          simp only [e1, Bool.not_false, cond_true, Option.bind_some]
          by_cases h4' : l < 4
          · have e2 : decide (l < 4) = true := by simp; omega
            have e3 : (l == k) = false := by simp; omega
            simp only [e2, e3, cond_true, cond_false, Option.bind_some, Bool.not_false]
            exact ⟨f, false, rfl, rfl, .inl ⟨rfl, rfl⟩⟩
          · have e2 : decide (l < 4) = false := by simp; omega
            simp only [e2, cond_true, cond_false, Option.bind_some, Bool.not_false]
            exact ⟨f, false, rfl, rfl, .inl ⟨rfl, rfl⟩⟩
theorem Wipe_eq (f : Flash) (b : Int) (h : capF f) : ∃ g v, s_Wipe f b = some (g, v) ∧ i_Wipe f b = some (g, v) ∧ (v = false ∧ g = f ∨ v = true ∧ wellF g) := by
  unfold s_Wipe i_Wipe
  rw [eq_copyFlash, copyFlash_eq f h, blankLeaves_eq, mk_blank4]
  unfold i_usable
  rw [eq_FlashOk, eq_in]
  obtain ⟨ok, h1, h2⟩ := FlashOk_ex f h
  simp only [h1, Option.bind_some, in_eq]
  cases ok with
  | false => exact ⟨f, false, rfl, rfl, .inl ⟨rfl, rfl⟩⟩
  | true =>
    obtain ⟨h3, h4⟩ := h2 rfl
    simp only [Bool.not_true, cond_false, cond_true, Option.bind_some]
    have eln : sb (ln f.Blocks) 1 = (f.Blocks.length : Int) - 1 := by rw [ln_eq, sb_eq (by omega) (by omega)]
    rw [eln]
    cases hb : (decide (0 ≤ b) && decide (b ≤ (f.Blocks.length : Int) - 1)) with
    | false => exact ⟨f, false, rfl, rfl, .inl ⟨rfl, rfl⟩⟩
    | true =>
      simp at hb
      have hbi : b < (f.Blocks.length : Int) := by omega
      simp only [cond_true, gi_ok hb.1 hbi, Option.bind_some, Bool.not_true, cond_false]
      cases hbad : (f.Blocks[b.toNat]'(by omega)).Bad with
      | true => exact ⟨f, false, rfl, rfl, .inl ⟨rfl, rfl⟩⟩
      | false =>
        simp only [Bool.not_false, Bool.not_true, cond_true, cond_false, Option.bind_some]
        cases (f.Blocks[b.toNat]'(by omega)).Wear == 1000000000 with
        | true => exact ⟨f, false, rfl, rfl, .inl ⟨rfl, rfl⟩⟩
        | false =>
          simp only [cond_false]
          have hgs : ∀ x, gi (si f.Blocks b x) b = some x := by
            intro x
            unfold gi si
            rw [if_pos hb.1, List.getElem?_set_self (by omega)]
          simp only [hgs, Option.bind_some, hbad]
          refine ⟨_, _, rfl, ?_, .inr ⟨rfl, wellF_si ⟨by omega, h4⟩ (by simp [blank4])⟩⟩
          simp only [si, List.set_set]
theorem DoStep_eq (f : Flash) (s : Step) (h : capF f) : ∃ g v, s_DoStep f s = some (g, v) ∧ i_DoStep f s = some (g, v) ∧ (v = false ∧ g = f ∨ v = true ∧ wellF g) := by
  unfold s_DoStep i_DoStep
  cases s.Kind == 1 with
  | true =>
    obtain ⟨g, v, h1, h2, h3⟩ := Program_eq f s.Block s.Leaf s.Text h
    exact ⟨g, v, by simp only [cond_true, h1, Option.bind_some], by simp only [cond_true, h2, Option.bind_some], h3⟩
  | false =>
    simp only [cond_false]
    cases s.Kind == 2 with
    | true =>
      obtain ⟨g, v, h1, h2, h3⟩ := Wipe_eq f s.Block h
      exact ⟨g, v, by simp only [cond_true, h1, Option.bind_some], by simp only [cond_true, h2, Option.bind_some], h3⟩
    | false =>
      simp only [cond_false, eq_copyFlash, copyFlash_eq f h, Option.bind_some]
      exact ⟨_, _, rfl, rfl, .inl ⟨rfl, rfl⟩⟩
theorem DoSteps_eq (f : Flash) (l : List Step) (h : capF f) (hl : l.length ≤ 1048576) : ∃ g n, s_DoSteps f l = some (g, n) ∧ i_DoSteps f l = some (g, n) ∧ capF g ∧ 0 ≤ n ∧ n ≤ l.length := by
  unfold s_DoSteps i_DoSteps
  rw [eq_copyFlash, copyFlash_eq f h, Option.bind_some, Option.bind_some]
  obtain ⟨r, h1, h2, h3⟩ := loop_ex2 (body := fun s : Int × List Block => s_DoSteps_b1 l s.1 s.2) (body' := fun s : Int × List Block => i_DoSteps_b1 l s.1 s.2) (fun (s : List Block) i => (i, s)) l.length (fun _ s => capF (Flash.mk s)) (fun r => (∃ b, r = .inl b ∧ capF (Flash.mk b)) ∨ ∃ (g : Flash) (n : Nat), r = .inr (g, (n : Int)) ∧ capF g ∧ n ≤ l.length)
    (fun s i hi hs => by
      obtain ⟨g, v, h1, h2, h3⟩ := DoStep_eq (Flash.mk s) l[i] hs
      simp only [s_DoSteps_b1, i_DoSteps_b1, lt_ln, decide_eq_true hi, cond_true, gi_nat, List.getElem?_eq_getElem hi, Option.bind_some, h1, h2]
      refine ⟨trivial, ?_⟩
      rcases h3 with ⟨rfl, rfl⟩ | ⟨rfl, h3⟩
      · exact .inr ⟨_, rfl, .inr ⟨_, i, rfl, hs, by omega⟩⟩
      · refine .inl ⟨g.Blocks, ?_, h3.cap⟩
        simp only [Bool.not_true, cond_false]
        rw [ad1 (by omega)])
    (fun s hs => by
      simp only [s_DoSteps_b1, i_DoSteps_b1, lt_ln, Nat.lt_irrefl, decide_false, cond_false]
      exact ⟨trivial, _, rfl, .inl ⟨s, rfl, hs⟩⟩) (s := f.Blocks) h
  rw [h1, h2]
  simp only [Option.bind_some]
  rcases h3 with ⟨b, rfl, h3⟩ | ⟨g, n, rfl, h3, h4⟩
  · exact ⟨_, _, rfl, rfl, h3, by rw [ln_eq]; omega, by rw [ln_eq]; omega⟩
  · exact ⟨_, _, rfl, rfl, h3, by omega, by omega⟩
theorem FlashNew_ex (n : Int) : ∃ g v, s_FlashNew n = some (g, v) ∧ wellF g := by
  unfold s_FlashNew
  simp only [in_eq, Option.bind_some]
  cases h : (decide (3 ≤ n) && decide (n ≤ 10)) with
  | false => exact ⟨_, _, rfl, by simp [wellF]⟩
  | true =>
    simp only [Bool.not_true, cond_false]
    rw [Bool.and_eq_true, decide_eq_true_eq, decide_eq_true_eq] at h
    obtain ⟨k, rfl⟩ := Int.eq_ofNat_of_zero_le (by omega : 0 ≤ n)
    have := loop_times (body := fun s : Int × List Block => s_FlashNew_b1 (k : Int) s.1 s.2) k (fun _ => Block.mk false 0 blank4)
      (fun i out hi ho => by
        simp only [s_FlashNew_b1, mk_blank4, Option.bind_some]
        rw [decide_eq_true (by omega : (i : Int) < k), cond_true, ap_eq (by simp only [List.length_singleton]; omega), Option.bind_some, ad1 (by omega)])
      (fun out => by simp only [s_FlashNew_b1, Int.lt_irrefl, decide_false, cond_false])
    rw [this, Option.bind_some]
    refine ⟨_, _, rfl, ?_⟩
    simp only [wellF, List.length_map, List.length_range]
    refine ⟨by omega, fun b hb => ?_⟩
    obtain ⟨_, _, rfl⟩ := List.mem_map.1 hb
    rfl
theorem Lawful_eq (n : Int) (l : List Step) (hl : l.length ≤ 1048576) : ∃ v, s_Lawful n l = some v ∧ i_Lawful n l = some v := by
  unfold s_Lawful i_Lawful
  rw [eq_FlashNew]
  obtain ⟨g, ok, h1, h2⟩ := FlashNew_ex n
  obtain ⟨g', k, h3, h4, _⟩ := DoSteps_eq g l h2.cap hl
  simp only [h1, Option.bind_some, h3, h4]
  cases ok <;> exact ⟨_, rfl, rfl⟩

def zStep (x : Step) : Nat := x.Text.size
theorem szStep_eq (x : Step) (h : oStep x) : Weighs zStep w_szStep x := by
  intro left h0 h1
  have hx : x.Text.size ≤ 9223372036854775807 := h.2.2.2
  have e : sln x.Text = (x.Text.size : Int) := rfl
  unfold w_szStep
  rw [sb_eq (by rw [e]; omega) (by rw [e]; omega), e]
  unfold zStep
  by_cases hc : (x.Text.size : Int) ≤ left
  · rw [decide_eq_false (by omega), cond_false]
    exact ⟨_, rfl, by rw [if_pos hc]⟩
  · rw [decide_eq_true (by omega), cond_true]
    exact ⟨_, rfl, by rw [if_neg hc]; omega⟩
theorem szStepS_eq (l : List Step) (h : ol oStep l) : Weighs (zl zStep) w_szStepS l :=
  Weighs.list (sz_listF zStep w_szStep l h.1 (fun x hx => szStep_eq x (h.2 x hx)) (fun _ _ => rfl) (fun _ => rfl))
theorem toStepS_eq (l : List Step) (h : zl zStep l ≤ 1048576) : w_toStepS l = some l := by
  have := zl_len (z := zStep) (l := l)
  exact to_listF w_toStep l (by omega) (by omega) (fun _ _ => rfl) (fun _ _ => rfl) rfl
theorem eqStep_eq (a b : Step) : Tells (w_eqStep a b) a b := by
  cases a with
  | mk a1 a2 a3 a4 =>
  cases b with
  | mk b1 b2 b3 b4 =>
  have : Says (w_eqStep (Step.mk a1 a2 a3 a4) (Step.mk b1 b2 b3 b4)) (a1 = b1 ∧ a2 = b2 ∧ a3 = b3 ∧ a4 = b4 ∧ True) :=
    says_and (by simp) (says_and (by simp) (says_and (by simp) (says_and seq_ne says_true)))
  simpa only [Tells, Says, Step.mk.injEq, and_true] using this
theorem eqStepS_eq (a b : List Step) (h : zl zStep a ≤ 1048576) : Tells (w_eqStepS a b) a b := by
  have := zl_len (z := zStep) (l := a)
  exact eq_listF w_eqStep a b (by omega) (fun x _ y _ => eqStep_eq x y) (fun _ => rfl) rfl
theorem lawful_true (n : Int) (l : List Step) (_ : oI n) (hl : ol oStep l) : w_FnExactLawful n l = some true := by
  unfold w_FnExactLawful
  obtain ⟨v, h1, h2⟩ := szStepS_eq l hl 1048576 (by omega) (by omega)
  rw [h1, Option.bind_some]
  split at h2
  · rename_i hc
    rw [decide_eq_false (by omega), cond_false]
    have z : zl zStep l ≤ 1048576 := by omega
    have := zl_len (z := zStep) (l := l)
    obtain ⟨u, h3, h4⟩ := Lawful_eq n l (by omega)
    simp only [toStepS_eq l z, Option.bind_some, h3, h4, tells_self (eqStepS_eq l l z), beq_self_eq_true, Bool.not_true, cond_false]
  · rw [decide_eq_true h2, cond_true]
end Go.TI
