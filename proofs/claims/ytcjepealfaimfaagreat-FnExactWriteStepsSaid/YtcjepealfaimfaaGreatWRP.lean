/- Pages of records, places, steps that write; WriteSteps: the law holds, for all arguments. No condition. -/
import Derived.Test.YtcjepealfaimfaaGreatWRD
import Derived.Test.YtcjepealfaimfaaGreatWRPL

namespace Go.TI
open Go
set_option linter.unusedSimpArgs false
set_option linter.unusedVariables false

theorem eq_in : i_in = s_l01In := rfl
theorem eq_FlashOk : i_FlashOk = s_FlashOk := by
  have h2 : i_FlashOk_b2 = s_FlashOk_b2 := by
    funext x y
    unfold i_FlashOk_b2 s_FlashOk_b2
    cases decide (y < ln x.Leaves) with
    | false => rfl
    | true =>
      simp only [cond_true]
      cases gi x.Leaves y with
      | none => rfl
      | some z => rfl
  funext f
  unfold i_FlashOk s_FlashOk
  have : i_FlashOk_b1 f = s_FlashOk_b1 f := by
    funext i
    unfold i_FlashOk_b1 s_FlashOk_b1
    rw [h2]
    rfl
  rw [this]
  rfl

def capF (f : Flash) : Prop := f.Blocks.length ≤ 1048576 ∧ ∀ b ∈ f.Blocks, b.Leaves.length ≤ 1048576
theorem in_eq (x a b : Int) : s_l01In x a b = some (decide (a ≤ x) && decide (x ≤ b)) := by
  unfold s_l01In
  by_cases h : x ≥ a
  · rw [decide_eq_true h, cond_true, Bool.true_and]
  · rw [decide_eq_false h, cond_false, Bool.false_and]
theorem leaf_ex (x : Leaf) : ∃ v, s_l05Leaf x = some v := by
  unfold s_l05Leaf
  cases x.Is == 0
  · simp only [cond_false]
    cases x.Is == 1
    · simp only [cond_false]
      cases x.Is == 2 <;> exact ⟨_, rfl⟩
    · simp only [cond_true, in_eq, Option.bind_some]
      exact ⟨_, rfl⟩
  · exact ⟨_, rfl⟩
theorem FlashOk_ex (f : Flash) (h : capF f) : ∃ v, s_FlashOk f = some v ∧ (v = true → f.Blocks.length ≤ 10 ∧ ∀ b ∈ f.Blocks, b.Leaves.length = 4) := by
  have key := loop_ex (body := fun s : Int => s_FlashOk_b1 f s) (fun (_ : Unit) i => i) f.Blocks.length (fun i _ => ∀ j b, j < i → f.Blocks[j]? = some b → b.Leaves.length = 4) (fun r => r = .inr false ∨ r = .inl () ∧ ∀ b ∈ f.Blocks, b.Leaves.length = 4)
    (fun s i hi hs => by
      obtain ⟨x, hx⟩ : ∃ x, f.Blocks[i]? = some x := ⟨_, List.getElem?_eq_getElem hi⟩
      have hM := h.1
      have hL := h.2 x (List.mem_of_getElem? hx)
      simp only [s_FlashOk_b1, lt_ln, decide_eq_true hi, cond_true, gi_nat, hx, Option.bind_some, in_eq]
      by_cases h4 : x.Leaves.length = 4
      · have e1 : (ln x.Leaves != 4) = false := by simp [ln, h4]
        simp only [e1, cond_false, Option.bind_some]
        cases hw : (decide (0 ≤ x.Wear) && decide (x.Wear ≤ 1000000000)) with
        | false => exact .inr ⟨_, rfl, .inl rfl⟩
        | true =>
          simp only [Bool.not_true, cond_false]
          obtain ⟨r, h5, h6⟩ := loop_ex (body := fun s : Int => s_FlashOk_b2 x s) (fun (_ : Unit) i => i) x.Leaves.length (fun _ _ => True) (fun r => r = .inl () ∨ r = .inr (.inr (.inr false)))
            (fun s k hk _ => by
              obtain ⟨y, hy⟩ : ∃ y, x.Leaves[k]? = some y := ⟨_, List.getElem?_eq_getElem hk⟩
              obtain ⟨v, hv⟩ := leaf_ex y
              simp only [s_FlashOk_b2, lt_ln, decide_eq_true hk, cond_true, gi_nat, hy, Option.bind_some, hv]
              have fin : ∀ j : Bool, (∃ s' : Unit, (bif j then some (.inr (.inr (.inr (.inr false)))) else some (.inl (ad (k : Int) 1)) : Option (Int ⊕ (Unit ⊕ (Int ⊕ (Unit ⊕ Bool))))) = some (.inl (((k + 1 : Nat)) : Int)) ∧ True) ∨ ∃ b, (bif j then some (.inr (.inr (.inr (.inr false)))) else some (.inl (ad (k : Int) 1)) : Option (Int ⊕ (Unit ⊕ (Int ⊕ (Unit ⊕ Bool))))) = some (.inr b) ∧ (b = .inl () ∨ b = .inr (.inr (.inr false))) := by
                intro j
                cases j with
                | true => exact .inr ⟨_, rfl, .inr rfl⟩
                | false => exact .inl ⟨(), by rw [cond_false, ad1 (by omega)], trivial⟩
              cases v with
              | false => exact fin true
              | true =>
                simp only [Bool.not_true, cond_false]
                by_cases hk0 : 0 < k
                · rw [decide_eq_true (by omega : (k : Int) > 0), cond_true, sb_eq (by omega) (by omega), gi_ok (by omega) (by omega), Option.bind_some]
                  cases (x.Leaves[((k : Int) - 1).toNat]'(by omega)).Is == 0
                  · exact fin false
                  · exact fin (y.Is != 0)
                · rw [decide_eq_false (by omega : ¬(k : Int) > 0)]
                  exact fin false)
            (fun s _ => ⟨_, by simp only [s_FlashOk_b2, lt_ln, Nat.lt_irrefl, decide_false, cond_false], .inl rfl⟩) (s := ()) trivial
          rw [h5, Option.bind_some]
          rcases h6 with rfl | rfl
          · refine .inl ⟨(), by rw [Sum.elim_inl, ad1 (by omega)], ?_⟩
            intro j b hj hb
            by_cases e : j = i
            · subst e; rw [hx] at hb; injection hb with hb; rw [← hb]; exact h4
            · exact hs j b (by omega) hb
          · exact .inr ⟨_, rfl, .inl rfl⟩
      · have e1 : (ln x.Leaves != 4) = true := by simp [ln]; omega
        simp only [e1, cond_true, Option.bind_some]
        exact .inr ⟨_, rfl, .inl rfl⟩)
    (fun s hs => ⟨_, by simp only [s_FlashOk_b1, lt_ln, Nat.lt_irrefl, decide_false, cond_false], .inr ⟨rfl, fun b hb => by
      obtain ⟨j, hj, e⟩ := List.getElem_of_mem hb
      exact hs j b hj (by rw [← e]; exact List.getElem?_eq_getElem hj)⟩⟩) (s := ()) (fun j b hj => absurd hj (by omega))
  obtain ⟨r, h1, h2⟩ := key
  unfold s_FlashOk
  rw [h1, Option.bind_some]
  rcases h2 with rfl | ⟨rfl, h2⟩
  · exact ⟨false, rfl, by simp⟩
  · simp only [Sum.elim_inl, in_eq, Option.bind_some]
    refine ⟨_, rfl, fun e => ⟨?_, h2⟩⟩
    rw [Bool.and_eq_true, decide_eq_true_eq, decide_eq_true_eq, ln_eq] at e
    omega
end Go.TI


namespace Go.TI
open Go
set_option linter.unusedSimpArgs false
set_option linter.unusedVariables false

theorem eq_copyFlash : i_copyFlash = s_l05Copy := rfl
theorem eq_NextBlank : i_NextBlank = s_NextBlank := rfl
def blank4 : List Leaf := List.replicate 4 (Leaf.mk 0 (bs []))
theorem mk_blank4 : mk 24 (Leaf.mk 0 (bs [])) 4 = some blank4 := mk_nat (n := 4) (by omega) (by omega)
theorem blankLeaves_eq : i_blankLeaves = some blank4 := by unfold i_blankLeaves; rw [mk_blank4]; rfl
theorem copyFlash_eq (f : Flash) (h : capF f) : s_l05Copy f = some f := by
  unfold s_l05Copy
  have := loop_map (body := fun s : Int × List Block => s_l05Copy_b1 f s.1 s.2) f.Blocks (fun x => x)
    (fun i x out hx ho => by
      have hlt := (List.getElem?_eq_some_iff.1 hx).1
      have h1 := h.1
      have h2 := h.2 x (List.mem_of_getElem? hx)
      unfold s_l05Copy_b1
      simp only [lt_ln, decide_eq_true hlt, cond_true, gi_nat, hx, Option.bind_some]
      rw [ap_eq (by simp only [List.length_nil]; omega), Option.bind_some, ap_eq (by simp only [List.length_singleton]; omega), Option.bind_some, ad1 (by omega), List.nil_append])
    (fun out => by
      unfold s_l05Copy_b1
      simp only [lt_ln, Nat.lt_irrefl, decide_false, cond_false])
  rw [this, Option.bind_some, List.map_id']
theorem NextBlank_ex (b : Block) (h : b.Leaves.length ≤ 1048576) : ∃ v, s_NextBlank b = some v ∧ 0 ≤ v ∧ (v < b.Leaves.length ∨ v = 4) := by
  obtain ⟨r, h1, h2⟩ := loop_ex (body := fun s : Int => s_NextBlank_b1 b s) (fun (_ : Unit) i => i) b.Leaves.length (fun _ _ => True) (fun r => r = .inl () ∨ ∃ k : Nat, k < b.Leaves.length ∧ r = .inr (k : Int))
    (fun s i hi _ => by
      simp only [s_NextBlank_b1, lt_ln, decide_eq_true hi, cond_true, gi_nat, List.getElem?_eq_getElem hi, Option.bind_some]
      cases b.Leaves[i].Is == 0
      · exact .inl ⟨(), by rw [cond_false, ad1 (by omega)], trivial⟩
      · exact .inr ⟨_, rfl, .inr ⟨i, hi, rfl⟩⟩)
    (fun s _ => ⟨_, by simp only [s_NextBlank_b1, lt_ln, Nat.lt_irrefl, decide_false, cond_false], .inl rfl⟩) (s := ()) trivial
  unfold s_NextBlank
  rw [h1, Option.bind_some]
  rcases h2 with rfl | ⟨k, hk, rfl⟩
  · exact ⟨4, rfl, by omega, .inr rfl⟩
  · exact ⟨_, rfl, by omega, .inl (by omega)⟩

def wellF (f : Flash) : Prop := f.Blocks.length ≤ 1048576 ∧ ∀ b ∈ f.Blocks, b.Leaves.length = 4
theorem wellF.cap {f : Flash} (h : wellF f) : capF f := ⟨h.1, fun b hb => by rw [h.2 b hb]; omega⟩
theorem wellF_si {f : Flash} {i : Int} {b : Block} (h : wellF f) (hb : b.Leaves.length = 4) : wellF (Flash.mk (si f.Blocks i b)) := by
  refine ⟨by unfold si; rw [List.length_set]; exact h.1, fun c hc => ?_⟩
  rcases List.mem_or_eq_of_mem_set hc with hc | rfl
  · exact h.2 c hc
  · exact hb
theorem Program_eq (f : Flash) (b l : Int) (t : ByteArray) (h : capF f) : ∃ g v, s_Program f b l t = some (g, v) ∧ i_Program f b l t = some (g, v) ∧ (v = false ∧ g = f ∨ v = true ∧ wellF g) := by
  unfold s_Program i_Program
  rw [eq_copyFlash, copyFlash_eq f h]
  unfold i_usable s_l05May
  rw [eq_FlashOk, eq_NextBlank, eq_in]
  obtain ⟨ok, h1, h2⟩ := FlashOk_ex f h
  simp only [h1, Option.bind_some, in_eq]
  cases ok with
  | false => exact ⟨f, false, rfl, rfl, .inl ⟨rfl, rfl⟩⟩
  | true =>
    obtain ⟨h3, h4⟩ := h2 rfl
    simp only [Bool.not_true, cond_false, cond_true, Option.bind_some]
    have eln : sb (ln f.Blocks) 1 = (f.Blocks.length : Int) - 1 := by rw [ln_eq, sb_eq (by omega) (by omega)]
    rw [eln]
    cases hb : (decide (0 ≤ b) && decide (b ≤ (f.Blocks.length : Int) - 1)) with
    | false => exact ⟨f, false, rfl, rfl, .inl ⟨rfl, rfl⟩⟩
    | true =>
      simp at hb
      have hbi : b < (f.Blocks.length : Int) := by omega
      simp only [cond_true, gi_ok hb.1 hbi, Option.bind_some]
      have hm : f.Blocks[b.toNat]'(by omega) ∈ f.Blocks := List.getElem_mem _
      have hL := h4 _ hm
      generalize f.Blocks[b.toNat]'(by omega) = x at hL
      cases x.Bad with
      | true => exact ⟨f, false, rfl, rfl, .inl ⟨rfl, rfl⟩⟩
      | false =>
        obtain ⟨k, h5, h6, h7⟩ := NextBlank_ex x (by omega)
        simp only [Bool.not_false, Bool.not_true, cond_true, cond_false, h5, Option.bind_some]
        by_cases hl : 0 ≤ l ∧ l ≤ 3
        · have e1 : (decide (0 ≤ l) && decide (l ≤ 3)) = true := by simp [hl]
          have e2 : decide (l < 4) = true := by simp; omega
          simp only [e1, e2, cond_true, cond_false, Bool.not_true]
          by_cases hk : l = k
          · have e3 : (l == k) = true := by simp [hk]
            have e4 : (l != k) = false := by simp [hk]
            simp only [e3, e4, cond_true, cond_false, Option.bind_some]
            cases hs : (decide (1 ≤ sln t) && decide (sln t ≤ 120)) with
            | false => exact ⟨f, false, rfl, rfl, .inl ⟨rfl, rfl⟩⟩
            | true =>
              simp only [Bool.not_true, cond_false]
              rw [gi_ok (l := x.Leaves) hl.1 (by omega), Option.bind_some]
              refine ⟨_, _, rfl, rfl, .inr ⟨rfl, wellF_si ⟨by omega, h4⟩ (by simp only [si, List.length_set]; exact hL)⟩⟩
          · have e3 : (l == k) = false := by simp [hk]
            have e4 : (l != k) = true := by simp [hk]
            simp only [e3, e4, cond_true, cond_false, Option.bind_some]
            exact ⟨f, false, rfl, rfl, .inl ⟨rfl, rfl⟩⟩
        · have e1 : (decide (0 ≤ l) && decide (l ≤ 3)) = false := by simp; omega
          simp only [e1, Bool.not_false, cond_true, Option.bind_some]
          by_cases h4' : l < 4
          · have e2 : decide (l < 4) = true := by simp; omega
            have e3 : (l == k) = false := by simp; omega
            simp only [e2, e3, cond_true, cond_false, Option.bind_some, Bool.not_false]
            exact ⟨f, false, rfl, rfl, .inl ⟨rfl, rfl⟩⟩
          · have e2 : decide (l < 4) = false := by simp; omega
            simp only [e2, cond_true, cond_false, Option.bind_some, Bool.not_false]
            exact ⟨f, false, rfl, rfl, .inl ⟨rfl, rfl⟩⟩
theorem Wipe_eq (f : Flash) (b : Int) (h : capF f) : ∃ g v, s_Wipe f b = some (g, v) ∧ i_Wipe f b = some (g, v) ∧ (v = false ∧ g = f ∨ v = true ∧ wellF g) := by
  unfold s_Wipe i_Wipe
  rw [eq_copyFlash, copyFlash_eq f h, blankLeaves_eq, mk_blank4]
  unfold i_usable
  rw [eq_FlashOk, eq_in]
  obtain ⟨ok, h1, h2⟩ := FlashOk_ex f h
  simp only [h1, Option.bind_some, in_eq]
  cases ok with
  | false => exact ⟨f, false, rfl, rfl, .inl ⟨rfl, rfl⟩⟩
  | true =>
    obtain ⟨h3, h4⟩ := h2 rfl
    simp only [Bool.not_true, cond_false, cond_true, Option.bind_some]
    have eln : sb (ln f.Blocks) 1 = (f.Blocks.length : Int) - 1 := by rw [ln_eq, sb_eq (by omega) (by omega)]
    rw [eln]
    cases hb : (decide (0 ≤ b) && decide (b ≤ (f.Blocks.length : Int) - 1)) with
    | false => exact ⟨f, false, rfl, rfl, .inl ⟨rfl, rfl⟩⟩
    | true =>
      simp at hb
      have hbi : b < (f.Blocks.length : Int) := by omega
      simp only [cond_true, gi_ok hb.1 hbi, Option.bind_some, Bool.not_true, cond_false]
      cases hbad : (f.Blocks[b.toNat]'(by omega)).Bad with
      | true => exact ⟨f, false, rfl, rfl, .inl ⟨rfl, rfl⟩⟩
      | false =>
        simp only [Bool.not_false, Bool.not_true, cond_true, cond_false, Option.bind_some]
        cases (f.Blocks[b.toNat]'(by omega)).Wear == 1000000000 with
        | true => exact ⟨f, false, rfl, rfl, .inl ⟨rfl, rfl⟩⟩
        | false =>
          simp only [cond_false]
          have hgs : ∀ x, gi (si f.Blocks b x) b = some x := by
            intro x
            unfold gi si
            rw [if_pos hb.1, List.getElem?_set_self (by omega)]
          simp only [hgs, Option.bind_some, hbad]
          refine ⟨_, _, rfl, ?_, .inr ⟨rfl, wellF_si ⟨by omega, h4⟩ (by simp [blank4])⟩⟩
          simp only [si, List.set_set]
theorem DoStep_eq (f : Flash) (s : Step) (h : capF f) : ∃ g v, s_DoStep f s = some (g, v) ∧ i_DoStep f s = some (g, v) ∧ (v = false ∧ g = f ∨ v = true ∧ wellF g) := by
  unfold s_DoStep i_DoStep
  cases s.Kind == 1 with
  | true =>
    obtain ⟨g, v, h1, h2, h3⟩ := Program_eq f s.Block s.Leaf s.Text h
    exact ⟨g, v, by simp only [cond_true, h1, Option.bind_some], by simp only [cond_true, h2, Option.bind_some], h3⟩
  | false =>
    simp only [cond_false]
    cases s.Kind == 2 with
    | true =>
      obtain ⟨g, v, h1, h2, h3⟩ := Wipe_eq f s.Block h
      exact ⟨g, v, by simp only [cond_true, h1, Option.bind_some], by simp only [cond_true, h2, Option.bind_some], h3⟩
    | false =>
      simp only [cond_false, eq_copyFlash, copyFlash_eq f h, Option.bind_some]
      exact ⟨_, _, rfl, rfl, .inl ⟨rfl, rfl⟩⟩
theorem eqStep_eq (a b : Step) : Tells (w_eqStep a b) a b := by
  cases a with
  | mk a1 a2 a3 a4 =>
  cases b with
  | mk b1 b2 b3 b4 =>
  have : Says (w_eqStep (Step.mk a1 a2 a3 a4) (Step.mk b1 b2 b3 b4)) (a1 = b1 ∧ a2 = b2 ∧ a3 = b3 ∧ a4 = b4 ∧ True) :=
    says_and (by simp) (says_and (by simp) (says_and (by simp) (says_and seq_ne says_true)))
  simpa only [Tells, Says, Step.mk.injEq, and_true] using this
end Go.TI


namespace Go.TI
open Go
set_option linter.unusedSimpArgs false
set_option linter.unusedVariables false

def u32 (s : Int) : Prop := 0 ≤ s ∧ s < 4294967296
theorem SumBits_eq (s : Int) (hs : u32 s) : ∃ v, loopO (fun s : Int × Int => s_SumMore_b2 s.1 s.2) (s, 0) = some v ∧ loopO (fun s : Int × Int => i_SumMore_b2 s.1 s.2) (s, 0) = some v ∧ u32 v :=
  loop_ex2 (body := fun s : Int × Int => s_SumMore_b2 s.1 s.2) (body' := fun s : Int × Int => i_SumMore_b2 s.1 s.2) (fun (s : Int) i => (s, i)) 8 (fun _ s => u32 s) u32
    (fun s i hi hs => by
      simp only [s_SumMore_b2, i_SumMore_b2]
      rw [decide_eq_true (by omega : (i : Int) < 8), cond_true, cond_true, an1 hs.1 hs.2, ← tdiv2 hs.1 hs.2]
      refine ⟨rfl, .inl ?_⟩
      have hw : u32 (IntKind.u32.wrap (Int.tdiv s 2)) := by rw [IntKind.wrap_u32]; constructor <;> omega
      cases Int.tmod s 2 == 1
      · exact ⟨_, by rw [cond_false, ad1 (by omega)], hw⟩
      · exact ⟨_, by rw [cond_true, ad1 (by omega)], xr_in _ _⟩)
    (fun s hs => by
      simp only [s_SumMore_b2, i_SumMore_b2]
      exact ⟨rfl, s, rfl, hs⟩) (s := s) hs
theorem SumMore_eq (s : Int) (t : ByteArray) (hs : u32 s) (ht : (L t).length ≤ 9223372036854775806) : ∃ v, s_SumMore s t = some v ∧ i_SumMore s t = some v ∧ u32 v := by
  obtain ⟨v, h1, h2, h3⟩ := loop_ex2 (body := fun s : Int × Int => s_SumMore_b1 t s.1 s.2) (body' := fun s : Int × Int => i_SumMore_b1 t s.1 s.2) (fun (s : Int) i => (s, i)) (L t).length (fun _ s => u32 s) u32
    (fun s i hi hs => by
      obtain ⟨v, h1, h2, h3⟩ := SumBits_eq (xr s (IntKind.u32.wrap ((L t)[i]).toNat)) (xr_in _ _)
      simp only [s_SumMore_b1, i_SumMore_b1]
      rw [decide_eq_true (by rw [sln_eq]; omega : (i : Int) < sln t), cond_true, cond_true, sx_nat t hi, Option.bind_some, Option.bind_some, h1, h2]
      exact ⟨rfl, .inl ⟨v, by rw [Option.bind_some, ad1 (by omega)], h3⟩⟩)
    (fun s hs => by
      simp only [s_SumMore_b1, i_SumMore_b1]
      rw [decide_eq_false (by rw [sln_eq]; omega : ¬((L t).length : Int) < sln t), cond_false, cond_false]
      exact ⟨rfl, s, rfl, hs⟩) (s := s) hs
  unfold s_SumMore i_SumMore
  rw [h1, h2]
  exact ⟨v, rfl, rfl, h3⟩
theorem SumOf_eq (t : ByteArray) (ht : (L t).length ≤ 9223372036854775806) : ∃ v, s_SumOf t = some v ∧ i_SumOf t = some v ∧ u32 v := by
  obtain ⟨v, h1, h2, h3⟩ := SumMore_eq 4294967295 t ⟨by omega, by omega⟩ ht
  unfold s_SumOf i_SumOf
  rw [h1, h2]
  exact ⟨v, rfl, rfl, h3⟩
def four (v : Int) : ByteArray := strB [(IntKind.u8.wrap (Int.fdiv v (2 ^ (min (24 : Int).toNat IntKind.u32.bits)))), (IntKind.u8.wrap (Int.fdiv v (2 ^ (min (16 : Int).toNat IntKind.u32.bits)))), (IntKind.u8.wrap (Int.fdiv v (2 ^ (min (8 : Int).toNat IntKind.u32.bits)))), (IntKind.u8.wrap v)]
theorem four_len (v : Int) : (L (four v)).length = 4 := by rw [four, L_strB]; rfl
theorem Sealed_eq (t : ByteArray) : i_Sealed t = s_Sealed t := by
  unfold i_Sealed s_Sealed
  by_cases h : (sln t) > 20000
  · rw [decide_eq_true h]; rfl
  · rw [decide_eq_false h, cond_false, cond_false]
    rw [sln_eq] at h
    obtain ⟨v, h1, h2, _⟩ := SumOf_eq t (by omega)
    rw [h1, h2]
    rfl
theorem Sealed_ex (t : ByteArray) : (20000 < (L t).length → s_Sealed t = some (bs [], false)) ∧ ((L t).length ≤ 20000 → ∃ v, s_SumOf t = some v ∧ s_Sealed t = some (t ++ four v, true)) := by
  unfold s_Sealed
  rw [sln_eq]
  refine ⟨fun h => by rw [decide_eq_true (by omega), cond_true], fun h => ?_⟩
  obtain ⟨v, h1, h2, _⟩ := SumOf_eq t (by omega)
  rw [decide_eq_false (by omega), cond_false, h1]
  refine ⟨v, rfl, ?_⟩
  have : s_l02Four v = some (four v) := rfl
  rw [Option.bind_some, this, Option.bind_some, cat_eq _ _ (by rw [four_len]; omega), Option.bind_some]
theorem l01Var_eq (n : Nat) (h : n ≤ 1099511627776) : ∃ s, s_l01Var (n : Int) = some s ∧ L s = encV n := by
  unfold s_l01Var
  obtain ⟨m, o, h1, h2, h3, h4⟩ := encV_loop (body := fun s : Int × List Int => s_l01Var_b1 s.1 s.2) (fun _ _ => rfl) n [] (by simpa using h)
  rw [h1, Option.bind_some]
  have : IntKind.u8.wrap (m : Int) = m := by rw [IntKind.wrap_u8]; omega
  rw [this, ap_eq (by simp only [List.length_singleton, List.length_nil] at h3 ⊢; omega), Option.bind_some]
  refine ⟨_, rfl, ?_⟩
  rw [L_strB, h4]
  simp

end Go.TI


namespace Go.TI
open Go
set_option linter.unusedSimpArgs false
set_option linter.unusedVariables false

theorem PageOk_eq (p : Page) : ∃ v, s_PageOk p = some v ∧ i_PageOk p = some v ∧ (v = true → (p.Kind = 1 ∨ p.Kind = 2) ∧ (1 ≤ p.Seq ∧ p.Seq ≤ 1000000000) ∧ (1 ≤ p.Tx ∧ p.Tx ≤ 1000000000) ∧ (1 ≤ p.Count ∧ p.Count ≤ 9) ∧ (0 ≤ p.Part ∧ p.Part < p.Count) ∧ sln p.Text ≤ 90) := by
  unfold s_PageOk i_PageOk
  rw [eq_in]
  simp only [in_eq, Option.bind_some]
  by_cases h1 : 1 ≤ p.Seq ∧ p.Seq ≤ 1000000000
  · by_cases h2 : 1 ≤ p.Tx ∧ p.Tx ≤ 1000000000
    · by_cases h3 : 1 ≤ p.Count ∧ p.Count ≤ 9
      · have e : sb p.Count 1 = p.Count - 1 := sb_eq (by omega) (by omega)
        rw [e]
        by_cases h4 : 0 ≤ p.Part ∧ p.Part ≤ p.Count - 1
        · by_cases h5 : sln p.Text > 90
          · refine ⟨false, ?_, ?_, by simp⟩
            · cases hk : (decide (1 ≤ p.Kind) && decide (p.Kind ≤ 2)) <;> simp [h1, h2, h3, h4, h5]
            · simp [h1, h2, h3, h4, h5]
          · by_cases k2 : p.Kind = 2
            · exact ⟨true, by simp [h1, h2, h3, h4, h5, k2], by simp [h1, h2, h3, h4, h5, k2], fun _ => ⟨.inr k2, h1, h2, h3, ⟨h4.1, by omega⟩, by omega⟩⟩
            · by_cases k1 : p.Kind = 1
              · exact ⟨p.Count == 1, by simp [h1, h2, h3, h4, h5, k1], by simp [h1, h2, h3, h4, h5, k1], fun _ => ⟨.inl k1, h1, h2, h3, ⟨h4.1, by omega⟩, by omega⟩⟩
              · have hk : (decide (1 ≤ p.Kind) && decide (p.Kind ≤ 2)) = false := by
                  rw [Bool.and_eq_false_iff, decide_eq_false_iff_not, decide_eq_false_iff_not]; omega
                have e1 : (p.Kind == 1) = false := by simpa using k1
                have e2 : (p.Kind == 2) = false := by simpa using k2
                exact ⟨false, by simp [hk], by simp [h1, h2, h3, h4, h5, e1, e2], by simp⟩
        · have e4 : (decide (0 ≤ p.Part) && decide (p.Part ≤ p.Count - 1)) = false := by
            rw [Bool.and_eq_false_iff, decide_eq_false_iff_not, decide_eq_false_iff_not]; omega
          refine ⟨false, ?_, ?_, by simp⟩
          · cases hk : (decide (1 ≤ p.Kind) && decide (p.Kind ≤ 2)) <;> simp [h1, h2, h3, e4]
          · simp [h1, h2, h3, e4]
      · have e3 : (decide (1 ≤ p.Count) && decide (p.Count ≤ 9)) = false := by
          rw [Bool.and_eq_false_iff, decide_eq_false_iff_not, decide_eq_false_iff_not]; omega
        refine ⟨false, ?_, ?_, by simp⟩
        · cases hk : (decide (1 ≤ p.Kind) && decide (p.Kind ≤ 2)) <;> simp [h1, h2, e3]
        · simp [h1, h2, e3]
    · have e2 : (decide (1 ≤ p.Tx) && decide (p.Tx ≤ 1000000000)) = false := by
        rw [Bool.and_eq_false_iff, decide_eq_false_iff_not, decide_eq_false_iff_not]; omega
      refine ⟨false, ?_, ?_, by simp⟩
      · cases hk : (decide (1 ≤ p.Kind) && decide (p.Kind ≤ 2)) <;> simp [h1, e2]
      · simp [h1, e2]
  · have e1 : (decide (1 ≤ p.Seq) && decide (p.Seq ≤ 1000000000)) = false := by
      rw [Bool.and_eq_false_iff, decide_eq_false_iff_not, decide_eq_false_iff_not]; omega
    refine ⟨false, ?_, ?_, by simp⟩
    · cases hk : (decide (1 ≤ p.Kind) && decide (p.Kind ≤ 2)) <;> simp [e1]
    · simp [e1]

end Go.TI


namespace Go.TI
open Go
set_option linter.unusedSimpArgs false
set_option linter.unusedVariables false

def zLeaf (x : Leaf) : Nat := x.Text.size
def zBlock (x : Block) : Nat := zl zLeaf x.Leaves
def zFlash (x : Flash) : Nat := zl zBlock x.Blocks
theorem szLeaf_eq (x : Leaf) (h : oLeaf x) : Weighs zLeaf w_szLeaf x := by
  intro left h0 h1
  have hx : x.Text.size ≤ 9223372036854775807 := h.2
  have e : sln x.Text = (x.Text.size : Int) := rfl
  unfold w_szLeaf
  rw [sb_eq (by rw [e]; omega) (by rw [e]; omega), e]
  unfold zLeaf
  by_cases hc : (x.Text.size : Int) ≤ left
  · rw [decide_eq_false (by omega), cond_false]
    exact ⟨_, rfl, by rw [if_pos hc]⟩
  · rw [decide_eq_true (by omega), cond_true]
    exact ⟨_, rfl, by rw [if_neg hc]; omega⟩
theorem szLeafS_eq (l : List Leaf) (h : ol oLeaf l) : Weighs (zl zLeaf) w_szLeafS l :=
  Weighs.list (sz_listF zLeaf w_szLeaf l h.1 (fun x hx => szLeaf_eq x (h.2 x hx)) (fun _ _ => rfl) (fun _ => rfl))
theorem Weighs.wrap {α β : Type} {z : β → Nat} {g : β → Int → Option Int} {f : α → Int → Option Int} {x : α} {y : β} {z' : α → Nat} (h : Weighs z g y) (hz : z' x = z y) (hf : ∀ left, f x left = (g y left).bind fun v => bif decide (v < 0) then some (-1) else some v) : Weighs z' f x := by
  intro left h0 h1
  rw [hz]
  obtain ⟨v, h2, h3⟩ := h left h0 h1
  rw [hf, h2, Option.bind_some]
  split at h3
  · rename_i hc
    rw [decide_eq_false (by omega), cond_false]
    exact ⟨_, rfl, by rw [if_pos hc]; exact h3⟩
  · rename_i hc
    rw [decide_eq_true h3, cond_true]
    exact ⟨_, rfl, by rw [if_neg hc]; omega⟩
theorem szBlock_eq (x : Block) (h : oBlock x) : Weighs zBlock w_szBlock x := Weighs.wrap (szLeafS_eq x.Leaves h.2.2) rfl (fun _ => rfl)
theorem szBlockS_eq (l : List Block) (h : ol oBlock l) : Weighs (zl zBlock) w_szBlockS l :=
  Weighs.list (sz_listF zBlock w_szBlock l h.1 (fun x hx => szBlock_eq x (h.2 x hx)) (fun _ _ => rfl) (fun _ => rfl))
theorem szFlash_eq (x : Flash) (h : oFlash x) : Weighs zFlash w_szFlash x := Weighs.wrap (szBlockS_eq x.Blocks h) rfl (fun _ => rfl)
theorem toLeafS_eq (l : List Leaf) (h : zl zLeaf l ≤ 1048576) : w_toLeafS l = some l := by
  have := zl_len (z := zLeaf) (l := l)
  exact to_listF w_toLeaf l (by omega) (by omega) (fun _ _ => rfl) (fun _ _ => rfl) rfl
theorem toBlock_eq (x : Block) (h : zBlock x ≤ 1048576) : w_toBlock x = some x := by
  unfold w_toBlock
  rw [toLeafS_eq _ h]
  rfl
theorem toBlockS_eq (l : List Block) (h : zl zBlock l ≤ 1048576) : w_toBlockS l = some l := by
  have := zl_len (z := zBlock) (l := l)
  exact to_listF w_toBlock l (by omega) (by omega) (fun x hx => toBlock_eq x (by have := zl_mem (z := zBlock) hx; omega)) (fun _ _ => rfl) rfl
theorem toFlash_eq (x : Flash) (h : zFlash x ≤ 1048576) : w_toFlash x = some x := by
  unfold w_toFlash
  rw [toBlockS_eq _ h]
  rfl
theorem eqLeaf_eq (a b : Leaf) : Tells (w_eqLeaf a b) a b := by
  cases a with
  | mk a1 a2 =>
  cases b with
  | mk b1 b2 =>
  have : Says (w_eqLeaf (Leaf.mk a1 a2) (Leaf.mk b1 b2)) (a1 = b1 ∧ a2 = b2 ∧ True) := says_and (by simp) (says_and seq_ne says_true)
  simpa only [Tells, Says, Leaf.mk.injEq, and_true] using this
theorem eqLeafS_eq (a b : List Leaf) (h : a.length ≤ 1048576) : Tells (w_eqLeafS a b) a b :=
  eq_listF w_eqLeaf a b (by omega) (fun x _ y _ => eqLeaf_eq x y) (fun _ => rfl) rfl
theorem eqBlock_eq (a b : Block) (h : zBlock a ≤ 1048576) : Tells (w_eqBlock a b) a b := by
  cases a with
  | mk a1 a2 a3 =>
  cases b with
  | mk b1 b2 b3 =>
  have hl := zl_len (z := zLeaf) (l := a3)
  have : Says (w_eqBlock (Block.mk a1 a2 a3) (Block.mk b1 b2 b3)) (a1 = b1 ∧ a2 = b2 ∧ a3 = b3 ∧ True) := says_and (by cases a1 <;> cases b1 <;> simp) (says_and (by simp) (says_bind (eqLeafS_eq a3 b3 (by unfold zBlock at h; simp only at h; omega)) says_true))
  simpa only [Tells, Says, Block.mk.injEq, and_true] using this
theorem eqBlockS_eq (a b : List Block) (h : zl zBlock a ≤ 1048576) : Tells (w_eqBlockS a b) a b := by
  have := zl_len (z := zBlock) (l := a)
  exact eq_listF w_eqBlock a b (by omega) (fun x hx y _ => eqBlock_eq x y (by have := zl_mem (z := zBlock) hx; omega)) (fun _ => rfl) rfl
theorem eqFlash_eq (a b : Flash) (h : zFlash a ≤ 1048576) : Tells (w_eqFlash a b) a b := by
  cases a with
  | mk a1 =>
  cases b with
  | mk b1 =>
  have : Says (w_eqFlash (Flash.mk a1) (Flash.mk b1)) (a1 = b1 ∧ True) := says_bind (eqBlockS_eq a1 b1 h) says_true
  simpa only [Tells, Says, Flash.mk.injEq, and_true] using this

theorem capF_of (f : Flash) (h : zFlash f ≤ 1048576) : capF f ∧ ∀ b ∈ f.Blocks, ∀ x ∈ b.Leaves, (L x.Text).length ≤ 1048576 := by
  have h1 := zl_len (z := zBlock) (l := f.Blocks)
  unfold zFlash at h
  refine ⟨⟨by omega, fun b hb => ?_⟩, fun b hb x hx => ?_⟩
  · have h2 := zl_mem (z := zBlock) hb
    have h3 := zl_len (z := zLeaf) (l := b.Leaves)
    have e : zBlock b = zl zLeaf b.Leaves := rfl
    omega
  · have h2 := zl_mem (z := zBlock) hb
    have h3 := zl_mem (z := zLeaf) hx
    have e : zBlock b = zl zLeaf b.Leaves := rfl
    have e2 : zLeaf x = x.Text.size := rfl
    rw [L_size]
    omega
end Go.TI


namespace Go.TI
open Go
set_option linter.unusedSimpArgs false
set_option linter.unusedVariables false

end Go.TI


namespace Go.TI
open Go
set_option linter.unusedSimpArgs false
set_option linter.unusedVariables false

theorem Weighs.two {α β γ : Type} {z1 : β → Nat} {z2 : γ → Nat} {g1 : β → Int → Option Int} {g2 : γ → Int → Option Int} {f : α → Int → Option Int} {x : α} {y1 : β} {y2 : γ} {z : α → Nat} (h1 : Weighs z1 g1 y1) (h2 : Weighs z2 g2 y2) (hz : z x = z1 y1 + z2 y2)
    (hf : ∀ left, f x left = (g1 y1 left).bind fun v => bif decide (v < 0) then some (-1) else ((g2 y2 v).bind fun w => bif decide (w < 0) then some (-1) else some w)) : Weighs z f x := by
  intro left h0 hm
  obtain ⟨v, k1, k2⟩ := h1 left h0 hm
  rw [hf, k1, Option.bind_some, hz]
  split at k2
  · rename_i hc
    rw [decide_eq_false (by omega), cond_false]
    obtain ⟨w, k3, k4⟩ := h2 v (by omega) (by omega)
    rw [k3, Option.bind_some]
    split at k4
    · rename_i hd
      rw [decide_eq_false (by omega), cond_false]
      exact ⟨_, rfl, by rw [if_pos (by omega)]; omega⟩
    · rename_i hd
      rw [decide_eq_true k4, cond_true]
      exact ⟨_, rfl, by rw [if_neg (by omega)]; omega⟩
  · rename_i hc
    rw [decide_eq_true k2, cond_true]
    exact ⟨_, rfl, by rw [if_neg (by omega)]; omega⟩
theorem Weighs.flat {α : Type} {l : List α} {f : List α → Int → Option Int} (hl : l.length ≤ 9223372036854775807) (hf : ∀ left, f l left = bif decide (sb left (ln l) < 0) then some (-1) else some (sb left (ln l))) : Weighs List.length f l := by
  intro left h0 hm
  rw [hf, sb_eq (by rw [ln_eq]; omega) (by rw [ln_eq]; omega), ln_eq]
  by_cases hc : (l.length : Int) ≤ left
  · rw [decide_eq_false (by omega), cond_false]
    exact ⟨_, rfl, by rw [if_pos hc]⟩
  · rw [decide_eq_true (by omega), cond_true]
    exact ⟨_, rfl, by rw [if_neg hc]; omega⟩
def zKnot (x : Knot) : Nat := x.Kids.length
def zArena (x : Arena) : Nat := zl zKnot x.Knots
def zStore (x : Store) : Nat := x.Vols.length + zArena x.Arena
def zDevice (x : Device) : Nat := zFlash x.Flash + zStore x.Store
theorem szKnot_eq (x : Knot) (h : oKnot x) : Weighs zKnot w_szKnot x := Weighs.wrap (z := List.length) (g := w_szIntS) (Weighs.flat h.2.1 (fun _ => rfl)) rfl (fun _ => rfl)
theorem szKnotS_eq (l : List Knot) (h : ol oKnot l) : Weighs (zl zKnot) w_szKnotS l :=
  Weighs.list (sz_listF zKnot w_szKnot l h.1 (fun x hx => szKnot_eq x (h.2 x hx)) (fun _ _ => rfl) (fun _ => rfl))
theorem szArena_eq (x : Arena) (h : oArena x) : Weighs zArena w_szArena x := Weighs.wrap (szKnotS_eq x.Knots h) rfl (fun _ => rfl)
theorem szStore_eq (x : Store) (h : oStore x) : Weighs zStore w_szStore x := Weighs.two (z1 := List.length) (g1 := w_szVolS) (Weighs.flat h.1.1 (fun _ => rfl)) (szArena_eq x.Arena h.2.1) rfl (fun _ => rfl)
theorem szDevice_eq (x : Device) (h : oDevice x) : Weighs zDevice w_szDevice x := Weighs.two (szFlash_eq x.Flash h.1) (szStore_eq x.Store h.2.1) rfl (fun _ => rfl)
theorem toVolS_eq (l : List Vol) (h : l.length ≤ 1048576) : w_toVolS l = some l := to_listF w_toVol l (by omega) (by omega) (fun _ _ => rfl) (fun _ _ => rfl) rfl
theorem toIntS_eq (l : List Int) (h : l.length ≤ 1048576) : w_toIntS l = some l := to_listF (fun x => some x) l (by omega) (by omega) (fun _ _ => rfl) (fun _ _ => rfl) rfl
theorem toKnot_eq (x : Knot) (h : zKnot x ≤ 1048576) : w_toKnot x = some x := by
  unfold w_toKnot
  rw [toIntS_eq _ h]
  rfl
theorem toKnotS_eq (l : List Knot) (h : zl zKnot l ≤ 1048576) : w_toKnotS l = some l := by
  have := zl_len (z := zKnot) (l := l)
  exact to_listF w_toKnot l (by omega) (by omega) (fun x hx => toKnot_eq x (by have := zl_mem (z := zKnot) hx; omega)) (fun _ _ => rfl) rfl
theorem toArena_eq (x : Arena) (h : zArena x ≤ 1048576) : w_toArena x = some x := by
  unfold w_toArena
  rw [toKnotS_eq _ h]
  rfl
theorem toStore_eq (x : Store) (h : zStore x ≤ 1048576) : w_toStore x = some x := by
  unfold zStore at h
  unfold w_toStore
  rw [toVolS_eq _ (by omega), Option.bind_some, toArena_eq _ (by omega)]
  rfl
theorem toDevice_eq (x : Device) (h : zDevice x ≤ 1048576) : w_toDevice x = some x := by
  unfold zDevice at h
  unfold w_toDevice
  rw [toFlash_eq _ (by omega), Option.bind_some, toStore_eq _ (by omega)]
  rfl
theorem eqVol_eq (a b : Vol) : Tells (w_eqVol a b) a b := by
  cases a with
  | mk a1 a2 =>
  cases b with
  | mk b1 b2 =>
  have : Says (w_eqVol (Vol.mk a1 a2) (Vol.mk b1 b2)) (a1 = b1 ∧ a2 = b2 ∧ True) := says_and (by simp) (says_and (by simp) says_true)
  simpa only [Tells, Says, Vol.mk.injEq, and_true] using this
theorem eqVolS_eq (a b : List Vol) (h : a.length ≤ 1048576) : Tells (w_eqVolS a b) a b :=
  eq_listF w_eqVol a b (by omega) (fun x _ y _ => eqVol_eq x y) (fun _ => rfl) rfl
theorem eqIntS_eq (a b : List Int) (h : a.length ≤ 1048576) : Tells (w_eqIntS a b) a b :=
  eq_listF (fun x y => some (!(x != y))) a b (by omega) (fun x _ y _ => ⟨_, rfl, by simp⟩) (fun i => by
    unfold w_eqIntS_b1
    cases decide (i < ln a) with
    | false => rfl
    | true =>
      simp only [cond_true]
      cases gi a i with
      | none => rfl
      | some x =>
        cases gi b i with
        | none => rfl
        | some y => simp only [Option.bind_some, Bool.not_not]) rfl
theorem eqKnot_eq (a b : Knot) (h : zKnot a ≤ 1048576) : Tells (w_eqKnot a b) a b := by
  cases a with
  | mk a1 a2 =>
  cases b with
  | mk b1 b2 =>
  have : Says (w_eqKnot (Knot.mk a1 a2) (Knot.mk b1 b2)) (a1 = b1 ∧ a2 = b2 ∧ True) := says_and (by cases a1 <;> cases b1 <;> simp) (says_bind (eqIntS_eq a2 b2 h) says_true)
  simpa only [Tells, Says, Knot.mk.injEq, and_true] using this
theorem eqKnotS_eq (a b : List Knot) (h : zl zKnot a ≤ 1048576) : Tells (w_eqKnotS a b) a b := by
  have := zl_len (z := zKnot) (l := a)
  exact eq_listF w_eqKnot a b (by omega) (fun x hx y _ => eqKnot_eq x y (by have := zl_mem (z := zKnot) hx; omega)) (fun _ => rfl) rfl
theorem eqArena_eq (a b : Arena) (h : zArena a ≤ 1048576) : Tells (w_eqArena a b) a b := by
  cases a with
  | mk a1 =>
  cases b with
  | mk b1 =>
  have : Says (w_eqArena (Arena.mk a1) (Arena.mk b1)) (a1 = b1 ∧ True) := says_bind (eqKnotS_eq a1 b1 h) says_true
  simpa only [Tells, Says, Arena.mk.injEq, and_true] using this
theorem eqStore_eq (a b : Store) (h : zStore a ≤ 1048576) : Tells (w_eqStore a b) a b := by
  cases a with
  | mk a1 a2 a3 =>
  cases b with
  | mk b1 b2 b3 =>
  unfold zStore at h
  simp only at h
  have : Says (w_eqStore (Store.mk a1 a2 a3) (Store.mk b1 b2 b3)) (a1 = b1 ∧ a2 = b2 ∧ a3 = b3 ∧ True) := says_bind (eqVolS_eq a1 b1 (by omega)) (says_bind (eqArena_eq a2 b2 (by omega)) (says_and (by simp) says_true))
  simpa only [Tells, Says, Store.mk.injEq, and_true] using this
theorem eqDevice_eq (a b : Device) (h : zDevice a ≤ 1048576) : Tells (w_eqDevice a b) a b := by
  cases a with
  | mk a1 a2 a3 a4 a5 =>
  cases b with
  | mk b1 b2 b3 b4 b5 =>
  unfold zDevice at h
  simp only at h
  have : Says (w_eqDevice (Device.mk a1 a2 a3 a4 a5) (Device.mk b1 b2 b3 b4 b5)) (a1 = b1 ∧ a2 = b2 ∧ a3 = b3 ∧ a4 = b4 ∧ a5 = b5 ∧ True) := says_bind (eqFlash_eq a1 b1 (by omega)) (says_bind (eqStore_eq a2 b2 (by omega)) (says_and (by simp) (says_and (by simp) (says_and (by simp) says_true))))
  simpa only [Tells, Says, Device.mk.injEq, and_true] using this

def isBl (x : Leaf) : Nat := bif x.Is == 0 then 1 else 0
theorem bl_le (l : List Leaf) : (l.map isBl).sum ≤ l.length := by
  induction l with
  | nil => simp
  | cons x l ih =>
    have : isBl x ≤ 1 := by unfold isBl; cases x.Is == 0 <;> simp
    simp only [List.map_cons, List.sum_cons, List.length_cons]
    omega
theorem blanks_eq (b : Block) (h : b.Leaves.length ≤ 1048576) : i_blanks b = some ((b.Leaves.map isBl).sum : Int) := by
  unfold i_blanks
  obtain ⟨v, h1, rfl⟩ := loop_ex (body := fun s : Int × Int => i_blanks_b1 b s.1 s.2) (fun (s : Int) i => (s, i)) b.Leaves.length (fun k s => s = (((b.Leaves.take k).map isBl).sum : Nat)) (fun v => v = ((b.Leaves.map isBl).sum : Nat))
    (fun s k hk hs => by
      have hx : b.Leaves[k]? = some b.Leaves[k] := List.getElem?_eq_getElem hk
      have e := sum_take isBl b.Leaves k hk
      have e2 := sum_take_le isBl b.Leaves (k + 1)
      have e3 := bl_le b.Leaves
      refine .inl ?_
      simp only [i_blanks_b1, lt_ln, decide_eq_true hk, cond_true, gi_nat, hx, Option.bind_some]
      have e4 : isBl b.Leaves[k] = bif b.Leaves[k].Is == 0 then 1 else 0 := rfl
      cases hb : b.Leaves[k].Is == 0 with
      | true =>
        rw [hb] at e4
        simp only [cond_true] at e4 ⊢
        rw [ad1 (by omega), ad_eq (by omega) (by omega)]
        exact ⟨_, rfl, by omega⟩
      | false =>
        rw [hb] at e4
        simp only [cond_false] at e4 ⊢
        rw [ad1 (by omega)]
        exact ⟨_, rfl, by omega⟩)
    (fun s hs => ⟨s, by simp only [i_blanks_b1, lt_ln, Nat.lt_irrefl, decide_false, cond_false], by rw [List.take_length] at hs; exact hs⟩) (s := 0) (by simp)
  rw [h1]
  rfl
end Go.TI


namespace Go.TI
open Go
set_option linter.unusedSimpArgs false
set_option linter.unusedVariables false

end Go.TI


namespace Go.TI
open Go
set_option linter.unusedSimpArgs false
set_option linter.unusedVariables false

theorem in_ok (x a b : Int) : s_l01In x a b = some (decide (a ≤ x ∧ x ≤ b)) := by
  rw [in_eq]
  congr 1
  rw [Bool.eq_iff_iff]
  simp
end Go.TI


namespace Go.TI
open Go
set_option linter.unusedSimpArgs false
set_option linter.unusedVariables false

end Go.TI


namespace Go.TI
open Go
set_option linter.unusedSimpArgs false
set_option linter.unusedVariables false

theorem markText_ex {k : Int} (h0 : 0 ≤ k) (h1 : k ≤ 9223372036854775807) : ∃ v, w_markText k = some v := by
  unfold w_markText
  by_cases hk : k ≤ 0
  · exact ⟨_, by rw [decide_eq_true hk, cond_true]⟩
  · rw [decide_eq_false hk, cond_false]
    obtain ⟨u, hu, hl⟩ := digits_loop (body := fun s : Int × ByteArray => w_markText_b1 s.1 s.2)
      (fun k t h2 h3 h4 => by
        unfold w_markText_b1
        simp only [decide_eq_true h2, cond_true]
        rw [cat_eq _ _ (by rw [L_strB]; simp; omega), Option.bind_some]
        unfold qu
        rw [wr64 (by rw [Int.tdiv_eq_ediv_of_nonneg (by omega)]; omega) (by rw [Int.tdiv_eq_ediv_of_nonneg (by omega)]; omega)])
      (fun k t h2 => by
        unfold w_markText_b1
        simp only [decide_eq_false (show ¬k > 0 by omega), cond_false])
      19 k (bs []) (Int.lt_of_le_of_lt h1 (by decide)) h1 (by rw [L_bs]; simp)
    rw [hu, Option.bind_some, cat_eq _ _ (by rw [L_bs]; simp; omega), Option.bind_some]
    exact ⟨_, rfl⟩
noncomputable def mt (k : Int) : ByteArray := (w_markText k).getD (bs [])
theorem markText_eq {k : Int} (h0 : 0 ≤ k) (h1 : k ≤ 9223372036854775807) : w_markText k = some (mt k) := by
  obtain ⟨v, h⟩ := markText_ex h0 h1
  rw [mt, h]
  rfl

noncomputable def fLeaf (k : Int) (x : Leaf) : Leaf := Leaf.mk k (mt (k + 1))
theorem markLeafS_eq (l : List Leaf) {k : Int} (h0 : 0 ≤ k) (hB : k + (((l.map fun _ => 2).sum : Nat) : Int) ≤ 1152921504606846976) :
    w_markLeafS l k = some (k + (((l.map fun _ => 2).sum : Nat) : Int), marks (fun _ => 2) fLeaf l k) := by
  have hl : l.length ≤ 1152921504606846976 := by rw [sum_const] at hB; omega
  refine mark_list (fun _ => 2) fLeaf (fun _ => True) 1152921504606846976 l rfl (fun pre x post k h1 _ h2 h3 => ?_) (fun m k hm => ?_) (fun _ _ => trivial) h0 hB
  · simp only [w_markLeafS_b1, lt_midM, cond_true, gi_midM, si_midM, Option.bind_some]
    rw [ad_eq (by omega) (by omega), markText_eq (by omega) (by omega), Option.bind_some, ad_eq (by omega) (by omega), ad1 (by omega)]
    simp only [fLeaf]
    congr 4
    omega
  · simp only [w_markLeafS_b1, lt_endM m hm, cond_false]
def cBlock (x : Block) : Nat := 2 + (x.Leaves.map fun _ => 2).sum
noncomputable def fBlock (k : Int) (x : Block) : Block := Block.mk ((Int.tmod k 3) == 0) (k + 1) (marks (fun _ => 2) fLeaf x.Leaves (k + 2))
theorem markBlockS_eq (l : List Block) {k : Int} (h0 : 0 ≤ k) (hB : k + (((l.map cBlock).sum : Nat) : Int) ≤ 1152921504606846976) :
    w_markBlockS l k = some (k + (((l.map cBlock).sum : Nat) : Int), marks cBlock fBlock l k) := by
  have hl : l.length ≤ 1152921504606846976 := by
    have := sum_le (c := fun _ => 2) (z := cBlock) (l := l) (fun x => by simp [cBlock])
    rw [sum_const] at this
    omega
  refine mark_list cBlock fBlock (fun _ => True) 1152921504606846976 l rfl (fun pre x post k h1 _ h2 h3 => ?_) (fun m k hm => ?_) (fun _ _ => trivial) h0 hB
  · have h3' : k + ((2 + (x.Leaves.map fun _ => 2).sum : Nat) : Int) ≤ 1152921504606846976 := h3
    simp only [w_markBlockS_b1, lt_midM, cond_true, gi_midM, si_midM, Option.bind_some]
    rw [ad_eq (a := k) (by omega) (by omega), ad_eq (by omega) (by omega), markLeafS_eq _ (by omega) (by omega), Option.bind_some, ad1 (by omega)]
    have e : k + 1 + 1 = k + 2 := by omega
    simp only [fBlock, e, cBlock]
    congr 4
    omega
  · simp only [w_markBlockS_b1, lt_endM m hm, cond_false]
def fVol (k : Int) (x : Vol) : Vol := Vol.mk k (k + 1)
theorem markVolS_eq (l : List Vol) {k : Int} (h0 : 0 ≤ k) (hB : k + (((l.map fun _ => 2).sum : Nat) : Int) ≤ 1152921504606846976) :
    w_markVolS l k = some (k + (((l.map fun _ => 2).sum : Nat) : Int), marks (fun _ => 2) fVol l k) := by
  have hl : l.length ≤ 1152921504606846976 := by rw [sum_const] at hB; omega
  refine mark_list (fun _ => 2) fVol (fun _ => True) 1152921504606846976 l rfl (fun pre x post k h1 _ h2 h3 => ?_) (fun m k hm => ?_) (fun _ _ => trivial) h0 hB
  · simp only [w_markVolS_b1, lt_midM, cond_true, gi_midM, si_midM, Option.bind_some]
    rw [ad_eq (by omega) (by omega), ad_eq (by omega) (by omega), ad1 (by omega)]
    simp only [fVol]
    congr 4
    omega
  · simp only [w_markVolS_b1, lt_endM m hm, cond_false]
def fInt (k : Int) (x : Int) : Int := k
theorem markIntS_eq (l : List Int) {k : Int} (h0 : 0 ≤ k) (hB : k + (((l.map fun _ => 1).sum : Nat) : Int) ≤ 1152921504606846976) :
    w_markIntS l k = some (k + (((l.map fun _ => 1).sum : Nat) : Int), marks (fun _ => 1) fInt l k) := by
  have hl : l.length ≤ 1152921504606846976 := by rw [sum_const] at hB; omega
  refine mark_list (fun _ => 1) fInt (fun _ => True) 1152921504606846976 l rfl (fun pre x post k h1 _ h2 h3 => ?_) (fun m k hm => ?_) (fun _ _ => trivial) h0 hB
  · simp only [w_markIntS_b1, lt_midM, cond_true, gi_midM, si_midM, Option.bind_some]
    rw [ad_eq (by omega) (by omega), ad1 (by omega)]
    rfl
  · simp only [w_markIntS_b1, lt_endM m hm, cond_false]
def cKnot (x : Knot) : Nat := 1 + (x.Kids.map fun _ => 1).sum
def fKnot (k : Int) (x : Knot) : Knot := Knot.mk ((Int.tmod k 3) == 0) (marks (fun _ => 1) fInt x.Kids (k + 1))
theorem markKnotS_eq (l : List Knot) {k : Int} (h0 : 0 ≤ k) (hB : k + (((l.map cKnot).sum : Nat) : Int) ≤ 1152921504606846976) :
    w_markKnotS l k = some (k + (((l.map cKnot).sum : Nat) : Int), marks cKnot fKnot l k) := by
  have hl : l.length ≤ 1152921504606846976 := by
    have := sum_le (c := fun _ => 1) (z := cKnot) (l := l) (fun x => by simp [cKnot])
    rw [sum_const] at this
    omega
  refine mark_list cKnot fKnot (fun _ => True) 1152921504606846976 l rfl (fun pre x post k h1 _ h2 h3 => ?_) (fun m k hm => ?_) (fun _ _ => trivial) h0 hB
  · have h3' : k + ((1 + (x.Kids.map fun _ => 1).sum : Nat) : Int) ≤ 1152921504606846976 := h3
    simp only [w_markKnotS_b1, lt_midM, cond_true, gi_midM, si_midM, Option.bind_some]
    rw [ad_eq (a := k) (by omega) (by omega), markIntS_eq _ (by omega) (by omega), Option.bind_some, ad1 (by omega)]
    simp only [fKnot, cKnot]
    congr 4
    omega
  · simp only [w_markKnotS_b1, lt_endM m hm, cond_false]
end Go.TI


namespace Go.TI
open Go
set_option linter.unusedSimpArgs false
set_option linter.unusedVariables false

theorem i_in_ok (x a b : Int) : i_in x a b = some (decide (a ≤ x ∧ x ≤ b)) := by
  unfold i_in
  by_cases h : x ≥ a
  · rw [decide_eq_true h, cond_true]
    congr 1
    rw [Bool.eq_iff_iff]
    simp
    omega
  · rw [decide_eq_false h, cond_false, decide_eq_false (by omega)]
theorem bif_some {α : Type} (b : Bool) (x y : α) : (bif b then some x else some y) = some (bif b then x else y) := by cases b <;> rfl
theorem eqRec_eq (a b : Rec) : Tells (w_eqRec a b) a b := by
  cases a with
  | mk a1 a2 a3 a4 =>
  cases b with
  | mk b1 b2 b3 b4 =>
  have : Says (w_eqRec (Rec.mk a1 a2 a3 a4) (Rec.mk b1 b2 b3 b4)) (a1 = b1 ∧ a2 = b2 ∧ a3 = b3 ∧ a4 = b4 ∧ True) := says_and (by simp) (says_and (by simp) (says_and (by simp) (says_and (by simp) says_true)))
  simpa only [Tells, Says, Rec.mk.injEq, and_true] using this
theorem eqRecS_eq (a b : List Rec) (h : a.length ≤ 1048576) : Tells (w_eqRecS a b) a b :=
  eq_listF w_eqRec a b (by omega) (fun x _ y _ => eqRec_eq x y) (fun _ => rfl) rfl
def fRec (k : Int) (x : Rec) : Rec := Rec.mk k (k + 1) (k + 2) (k + 3)
theorem markRecS_eq (l : List Rec) {k : Int} (h0 : 0 ≤ k) (hB : k + (((l.map fun _ => 4).sum : Nat) : Int) ≤ 1152921504606846976) :
    w_markRecS l k = some (k + (((l.map fun _ => 4).sum : Nat) : Int), marks (fun _ => 4) fRec l k) := by
  have hl : l.length ≤ 1152921504606846976 := by rw [sum_const] at hB; omega
  refine mark_list (fun _ => 4) fRec (fun _ => True) 1152921504606846976 l rfl (fun pre x post k h1 _ h2 h3 => ?_) (fun m k hm => ?_) (fun _ _ => trivial) h0 hB
  · have e1 : ad k 1 = k + 1 := ad_eq (by omega) (by omega)
    have e2 : ad (k + 1) 1 = k + 2 := (ad_eq (by omega) (by omega)).trans (by omega)
    have e3 : ad (k + 2) 1 = k + 3 := (ad_eq (by omega) (by omega)).trans (by omega)
    have e4 : ad (k + 3) 1 = k + 4 := (ad_eq (by omega) (by omega)).trans (by omega)
    simp only [w_markRecS_b1, lt_midM, cond_true, gi_midM, si_midM, Option.bind_some, e1, e2, e3, e4]
    rw [ad1 (by omega)]
    rfl
  · simp only [w_markRecS_b1, lt_endM m hm, cond_false]
end Go.TI


namespace Go.TI
open Go
set_option linter.unusedSimpArgs false
set_option linter.unusedVariables false

def cn (n : Nat) (p : Nat → Bool) : Nat := ((List.range n).filter p).length
theorem cn_le (n : Nat) (p : Nat → Bool) : cn n p ≤ n := by
  have := List.length_filter_le p (List.range n)
  rw [List.length_range] at this
  exact this
theorem gath_loop {γ : Type} {body : List γ × Int → Option ((List γ × Int) ⊕ List γ)} (by_ : Nat) (n : Nat) (p : Nat → Bool) (g : Nat → γ) (hM : n * by_ ≤ 140737488355328) (hn : n ≤ 1152921504606846976)
    (hb : ∀ (u : List γ) (i : Nat), i < n → body (u, (i : Int)) = (bif p i then ((ap by_ u [g i]).bind fun c => some (.inl (c, ad (i : Int) 1))) else some (.inl (u, ad (i : Int) 1)))) (he : ∀ u, body (u, (n : Int)) = some (.inr u)) : loopO body ([], 0) = some (((List.range n).filter p).map g) := by
  obtain ⟨b, h1, rfl⟩ := loop_ex (body := body) (fun (u : List γ) i => (u, i)) n (fun i u => u = ((List.range i).filter p).map g) (fun u => u = ((List.range n).filter p).map g)
    (fun u i hi hu => by
      have hlen : u.length ≤ i := by
        rw [hu, List.length_map]
        exact cn_le i p
      refine .inl ?_
      rw [hb u i hi]
      cases hp : p i with
      | true =>
        simp only [cond_true]
        have : (u.length + [g i].length) * by_ ≤ n * by_ := Nat.mul_le_mul_right _ (by simp only [List.length_singleton]; omega)
        rw [ap_eq (by omega), ad1 (by omega)]
        refine ⟨_, rfl, ?_⟩
        rw [List.range_succ, List.filter_append, List.filter_cons_of_pos (by simpa using hp), List.filter_nil, List.map_append, hu]
        rfl
      | false =>
        simp only [cond_false]
        rw [ad1 (by omega)]
        refine ⟨_, rfl, ?_⟩
        rw [List.range_succ, List.filter_append, List.filter_cons_of_neg (by simp [hp]), List.filter_nil, List.append_nil, hu])
    (fun u hu => ⟨u, he u, hu⟩) (s := []) (by simp)
  exact h1

end Go.TI


namespace Go.TI
open Go
set_option linter.unusedSimpArgs false
set_option linter.unusedVariables false

theorem varOf_eq (n : Int) (h0 : 0 ≤ n) (h1 : n ≤ 1000000000) : ∃ s, s_l01Var n = some s ∧ i_varOf n = some s ∧ (L s).length ≤ 1000000001 := by
  obtain ⟨m, rfl⟩ := Int.eq_ofNat_of_zero_le h0
  obtain ⟨s, h2, h3⟩ := l01Var_eq m (by omega)
  refine ⟨s, h2, ?_, by rw [h3]; have := encV_len m; omega⟩
  unfold i_varOf i_VarText
  rw [i_in_ok, Option.bind_some, decide_eq_true (by omega)]
  simp only [Bool.not_true, cond_false]
  unfold s_l01Var at h2
  have e : (fun s : Int × List Int => i_VarText_b1 s.1 s.2) = fun s : Int × List Int => s_l01Var_b1 s.1 s.2 := rfl
  rw [e]
  cases hl : loopO (fun s : Int × List Int => s_l01Var_b1 s.1 s.2) ((m : Int), []) with
  | none =>
    have h2' : ((loopO (fun s : Int × List Int => s_l01Var_b1 s.1 s.2) ((m : Int), [])).bind fun v1 => (ap 1 v1.2 [(IntKind.u8.wrap v1.1)]).bind fun q2 => some (strB q2)) = some s := h2
    rw [hl] at h2'
    cases h2'
  | some v =>
    have h2' : ((loopO (fun s : Int × List Int => s_l01Var_b1 s.1 s.2) ((m : Int), [])).bind fun v1 => (ap 1 v1.2 [(IntKind.u8.wrap v1.1)]).bind fun q2 => some (strB q2)) = some s := h2
    rw [hl] at h2'
    simp only [Option.bind_some] at h2' ⊢
    cases ha : ap 1 v.2 [IntKind.u8.wrap v.1] with
    | none => rw [ha] at h2'; cases h2'
    | some q =>
      rw [ha] at h2'
      simp only [Option.bind_some, Option.some.injEq] at h2' ⊢
      exact h2'
theorem strB_one (n : Int) : (L (strB [n])).length = 1 := by rw [L_strB]; rfl
theorem cat_ex (a b : ByteArray) (h : (L a).length + (L b).length ≤ 9223372036854775807) : ∃ c, cat a b = some c ∧ (L c).length = (L a).length + (L b).length := ⟨_, cat_eq a b h, by rw [L_cat, List.length_append]⟩
theorem PageText_ex (p : Page) : ∃ t ok, s_PageText p = some (t, ok) ∧ i_PageText p = some (t, ok) := by
  obtain ⟨v, h1, h2, h3⟩ := PageOk_eq p
  unfold s_PageText i_PageText
  rw [h1, h2]
  simp only [Option.bind_some]
  cases v with
  | false => exact ⟨_, _, rfl, rfl⟩
  | true =>
    obtain ⟨_, k2, k3, k4, k5, k6⟩ := h3 rfl
    rw [sln_eq] at k6
    obtain ⟨a, a1, a2, a3⟩ := varOf_eq p.Seq (by omega) (by omega)
    obtain ⟨b, b1, b2, b3⟩ := varOf_eq p.Tx (by omega) (by omega)
    obtain ⟨c, c1, c2, c3⟩ := varOf_eq p.Part (by omega) (by omega)
    obtain ⟨d, d1, d2, d3⟩ := varOf_eq p.Count (by omega) (by omega)
    have e0 : s_l06Byte p.Kind = some (strB [IntKind.u8.wrap p.Kind]) := rfl
    have e00 := strB_one (IntKind.u8.wrap p.Kind)
    simp only [Bool.not_true, cond_false, a1, a2, b1, b2, c1, c2, d1, d2, e0, Option.bind_some]
    obtain ⟨x1, y1, z1⟩ := cat_ex (strB [IntKind.u8.wrap p.Kind]) a (by omega)
    rw [y1]; simp only [Option.bind_some]
    obtain ⟨x2, y2, z2⟩ := cat_ex x1 b (by omega)
    rw [y2]; simp only [Option.bind_some]
    obtain ⟨x3, y3, z3⟩ := cat_ex x2 c (by omega)
    rw [y3]; simp only [Option.bind_some]
    obtain ⟨x4, y4, z4⟩ := cat_ex x3 d (by omega)
    rw [y4]; simp only [Option.bind_some]
    obtain ⟨x5, y5, z5⟩ := cat_ex x4 p.Text (by omega)
    rw [y5]; simp only [Option.bind_some]
    rw [Sealed_eq]
    obtain ⟨q1, q2⟩ := Sealed_ex x5
    by_cases hl : (L x5).length ≤ 20000
    · obtain ⟨w, _, q3⟩ := q2 hl
      rw [q3]
      exact ⟨_, _, rfl, rfl⟩
    · rw [q1 (by omega)]
      exact ⟨_, _, rfl, rfl⟩

theorem RecOk_eq (r : Rec) : ∃ v, s_RecOk r = some v ∧ i_RecOk r = some v ∧ (v = true → (0 ≤ r.Arg ∧ r.Arg ≤ 1000000000) ∧ (0 ≤ r.Chunk ∧ r.Chunk ≤ 1000000000)) := by
  cases r with
  | mk kind vol arg chunk =>
  unfold s_RecOk i_RecOk
  simp only [in_ok, i_in_ok, Option.bind_some, bif_some]
  refine ⟨_, rfl, ?_, ?_⟩
  · congr 1
    rw [Bool.eq_iff_iff]
    by_cases h1 : kind = 1
    · subst h1
      by_cases ha : 0 ≤ arg ∧ arg ≤ 1000000000 <;> by_cases hv : vol = 0 <;> by_cases hc : chunk = 0 <;> simp [ha, hv, hc]
    · have e1 : (kind == 1) = false := by simpa using h1
      simp only [e1, cond_false]
      by_cases ha : 0 ≤ arg ∧ arg ≤ 1000000000
      · by_cases hk : kind = 2 ∨ kind = 3 ∨ kind = 4 ∨ kind = 5
        · rcases hk with rfl | rfl | rfl | rfl <;> by_cases hv : 1 ≤ vol ∧ vol ≤ 9 <;> by_cases hc : chunk = 0 <;> simp [ha, hv, hc, bne] <;> omega
        · have e2 : ¬(2 ≤ kind ∧ kind ≤ 5) := by omega
          have k2 : (kind == 2) = false := by simp; omega
          have k3 : (kind == 3) = false := by simp; omega
          have k4 : (kind == 4) = false := by simp; omega
          have k5 : (kind == 5) = false := by simp; omega
          by_cases hv : 1 ≤ vol ∧ vol ≤ 9 <;> by_cases hc : chunk = 0 <;> simp [ha, hv, hc, e2, k2, k3, k4, k5, bne]
      · have e3 : decide (0 ≤ arg ∧ arg ≤ 1000000000) = false := decide_eq_false ha
        rw [e3]
        by_cases hk : kind = 2 ∨ kind = 3 ∨ kind = 4 ∨ kind = 5
        · rcases hk with rfl | rfl | rfl | rfl <;> by_cases hv : 1 ≤ vol ∧ vol ≤ 9 <;> by_cases hc : chunk = 0 <;> simp [hv, hc, bne] <;> omega
        · have k2 : (kind == 2) = false := by simp; omega
          have k3 : (kind == 3) = false := by simp; omega
          have k4 : (kind == 4) = false := by simp; omega
          have k5 : (kind == 5) = false := by simp; omega
          by_cases hv : 1 ≤ vol ∧ vol ≤ 9 <;> by_cases hc : chunk = 0 <;> simp [hv, hc, k2, k3, k4, k5, bne]
  · by_cases ha : 0 ≤ arg ∧ arg ≤ 1000000000
    · refine fun h => ⟨ha, ?_⟩
      by_cases hc : chunk = 0
      · omega
      · have ec : (chunk == 0) = false := by simpa using hc
        by_cases h1 : kind = 1
        · subst h1
          by_cases hv : vol = 0 <;> simp [ha, hv, ec] at h
        · have e1 : (kind == 1) = false := by simpa using h1
          by_cases h4 : kind = 4
          · subst h4
            by_cases hv : 1 ≤ vol ∧ vol ≤ 9 <;> simp [ha, hv, bne] at h
            omega
          · have e4 : (kind == 4) = false := by simpa using h4
            by_cases hk : 2 ≤ kind ∧ kind ≤ 5 <;> by_cases hv : 1 ≤ vol ∧ vol ≤ 9 <;> simp [ha, hv, hk, e1, e4, ec, bne] at h
    · intro h
      rw [decide_eq_false ha] at h
      simp at h

theorem RecText_eq (r : Rec) : ∃ t ok, s_RecText r = some (t, ok) ∧ i_RecText r = some (t, ok) ∧ (L t).length ≤ 3000000000 := by
  obtain ⟨v, h1, h2, h3⟩ := RecOk_eq r
  unfold s_RecText i_RecText
  rw [h1, h2]
  simp only [Option.bind_some]
  cases v with
  | false => exact ⟨_, _, rfl, rfl, by rw [L_bs]; simp⟩
  | true =>
    obtain ⟨k1, k2⟩ := h3 rfl
    obtain ⟨a, a1, a2, a3⟩ := varOf_eq r.Arg (by omega) (by omega)
    obtain ⟨b, b1, b2, b3⟩ := varOf_eq r.Chunk (by omega) (by omega)
    have e0 : s_l06Byte (ad (ml 16 r.Kind) r.Vol) = some (strB [IntKind.u8.wrap (ad (ml 16 r.Kind) r.Vol)]) := rfl
    have e00 := strB_one (IntKind.u8.wrap (ad (ml 16 r.Kind) r.Vol))
    simp only [Bool.not_true, cond_false, a1, a2, b1, b2, e0, Option.bind_some]
    obtain ⟨x1, y1, z1⟩ := cat_ex (strB [IntKind.u8.wrap (ad (ml 16 r.Kind) r.Vol)]) a (by omega)
    rw [y1]; simp only [Option.bind_some]
    obtain ⟨x2, y2, z2⟩ := cat_ex x1 b (by omega)
    rw [y2]; simp only [Option.bind_some]
    exact ⟨_, _, rfl, rfl, by omega⟩
theorem cat_nil (t : ByteArray) (h : (L t).length ≤ 3000000000) : cat (bs []) t = some t := by
  rw [cat_eq _ _ (by rw [L_bs]; simp; omega)]
  have : bs [] ++ t = t := by
    apply L_inj
    rw [L_cat, L_bs, List.nil_append]
  rw [this]
def txOk (l : List ByteArray) : Prop := ∀ t ∈ l, (L t).length ≤ 3000000000
theorem TxTexts_eq (recs : List Rec) (hr : recs.length ≤ 16777216 * 2) : ∃ v : List ByteArray ⊕ (List Page × Bool), loopO (fun s : List ByteArray × Int => s_TxPages_b1 recs s.1 s.2) ([(bs [])], 0) = some v ∧ loopO (fun s : List ByteArray × Int => i_TxPages_b1 recs s.1 s.2) ([(bs [])], 0) = some v ∧ ((∃ l, v = .inl l ∧ l.length ≤ 16777216 * 2 + 1) ∨ v = .inr ([], false)) := by
  refine loop_ex2 (body := fun s : List ByteArray × Int => s_TxPages_b1 recs s.1 s.2) (body' := fun s : List ByteArray × Int => i_TxPages_b1 recs s.1 s.2) (fun (l : List ByteArray) i => (l, i)) recs.length (fun i l => 1 ≤ l.length ∧ l.length ≤ i + 1 ∧ txOk l) _
    (fun l i hi hl => ?_) (fun l hl => ?_) (s := [(bs [])]) ⟨by simp, by simp, fun t ht => by rw [List.mem_singleton.1 ht, L_bs]; simp⟩
  · obtain ⟨l1, l2, l3⟩ := hl
    have hg : recs[i]? = some recs[i] := List.getElem?_eq_getElem hi
    obtain ⟨t, ok, t1, t2, t3⟩ := RecText_eq recs[i]
    simp only [s_TxPages_b1, i_TxPages_b1, lt_ln, decide_eq_true hi, cond_true, gi_nat, hg, Option.bind_some, t1, t2]
    cases ok with
    | false => exact ⟨rfl, .inr ⟨_, rfl, .inr rfl⟩⟩
    | true =>
      simp only [Bool.not_true, cond_false]
      have hne : l ≠ [] := fun e => by rw [e] at l1; simp at l1
      obtain ⟨p, m, rfl⟩ : ∃ p m, l = p ++ [m] := ⟨l.dropLast, l.getLast hne, (List.dropLast_concat_getLast hne).symm⟩
      rw [List.length_append, List.length_singleton] at l1 l2
      have hm : (L m).length ≤ 3000000000 := l3 m (by simp)
      have ei : sb (ln (p ++ [m])) 1 = ((p.length : Nat) : Int) := by
        have : ln (p ++ [m]) = ((p.length + 1 : Nat) : Int) := by simp [ln]
        rw [this, sb_eq (by omega) (by omega)]
        omega
      have g1 := gi_midM p m []
      have g2 := fun y => si_midM p m y []
      rw [ei, g1]
      simp only [Option.bind_some]
      rw [sln_eq, sln_eq, ad_eq (by omega) (by omega)]
      by_cases hc : ((L m).length : Int) + ((L t).length : Int) > 90
      · rw [decide_eq_true hc]
        simp only [cond_true]
        rw [ap_eq (by simp only [List.length_append, List.length_singleton]; omega), ap_eq (by simp only [List.length_append, List.length_singleton]; omega)]
        simp only [Option.bind_some]
        rw [ad1 (by omega)]
        have h3 := gi_midM (p ++ [m]) (bs []) []
        have h4 := si_midM (p ++ [m]) (bs []) t []
        rw [List.length_append, List.length_singleton] at h3 h4
        rw [h3]
        simp only [Option.bind_some]
        rw [cat_nil t t3]
        simp only [Option.bind_some]
        rw [h4, ad1 (by omega)]
        refine ⟨by first | rfl | trivial, .inl ⟨_, rfl, ?_⟩⟩
        refine ⟨by simp, by simp only [List.length_append, List.length_singleton]; omega, fun x hx => ?_⟩
        rcases List.mem_append.1 hx with hx | hx
        · exact l3 x hx
        · rw [List.mem_singleton.1 hx]; exact t3
      · rw [decide_eq_false hc]
        simp only [cond_false, Option.bind_some]
        rw [g1]
        simp only [Option.bind_some]
        obtain ⟨c, c1, c2⟩ := cat_ex m t (by omega)
        rw [c1]
        simp only [Option.bind_some]
        rw [g2, ad1 (by omega)]
        refine ⟨by first | rfl | trivial, .inl ⟨_, rfl, ?_⟩⟩
        refine ⟨by simp, by simp only [List.length_append, List.length_singleton, List.length_cons, List.length_nil]; omega, fun x hx => ?_⟩
        rcases List.mem_append.1 hx with hx | hx
        · exact l3 x (by simp [hx])
        · rw [List.mem_singleton.1 hx]; omega
  · obtain ⟨l1, l2, l3⟩ := hl
    refine ⟨by simp only [s_TxPages_b1, i_TxPages_b1, lt_ln, Nat.lt_irrefl, decide_false, cond_false], .inl l, by simp only [s_TxPages_b1, lt_ln, Nat.lt_irrefl, decide_false, cond_false], .inl ⟨l, rfl, by omega⟩⟩
theorem TxPages_eq (seq tx : Int) (recs : List Rec) (hr : recs.length ≤ 16777216 * 2) : ∃ pages ok, s_TxPages seq tx recs = some (pages, ok) ∧ i_TxPages seq tx recs = some (pages, ok) ∧ pages.length ≤ 9 := by
  obtain ⟨v, h1, h2, h3⟩ := TxTexts_eq recs hr
  unfold s_TxPages i_TxPages
  rw [h1, h2]
  rcases h3 with ⟨l, rfl, hl⟩ | rfl
  · simp only [Option.bind_some, Sum.elim_inl, in_ok, i_in_ok, bif_some]
    cases hb : (bif decide (ln l > 9) then true else bif !decide (1 ≤ seq ∧ seq ≤ ad (sb 1000000000 (ln l)) 1) then true else !decide (1 ≤ tx ∧ tx ≤ 1000000000)) with
    | true => exact ⟨[], false, by simp only [cond_true], by simp only [cond_true], by simp⟩
    | false =>
      simp only [cond_false]
      have h9 : l.length ≤ 9 := by
        by_cases hc : ln l > 9
        · rw [decide_eq_true hc] at hb; cases hb
        · rw [ln_eq] at hc; omega
      obtain ⟨u, u1, u2, u3⟩ := loop_two (body := fun s : List Page × Int => s_TxPages_b2 seq tx l s.1 s.2) (body' := fun s : List Page × Int => i_TxPages_b2 seq tx l s.1 s.2) (fun (o : List Page) i => (o, i)) (fun (o : List Page) i => (o, i)) l.length (fun i o => o.length = i) (fun o => o.length ≤ 9)
        (fun o i hi ho => by
          have hg : l[i]? = some l[i] := List.getElem?_eq_getElem hi
          simp only [s_TxPages_b2, i_TxPages_b2, lt_ln, decide_eq_true hi, cond_true, gi_nat, hg, Option.bind_some]
          rw [ap_eq (by simp only [List.length_singleton]; omega), ad1 (by omega)]
          exact .inl ⟨_, rfl, rfl, by simp only [List.length_append, List.length_singleton]; omega⟩)
        (fun o ho => ⟨o, by simp only [s_TxPages_b2, lt_ln, Nat.lt_irrefl, decide_false, cond_false], by simp only [i_TxPages_b2, lt_ln, Nat.lt_irrefl, decide_false, cond_false], by omega⟩) (s := []) rfl
      rw [u1, u2]
      exact ⟨u, true, rfl, rfl, u3⟩
  · exact ⟨[], false, rfl, rfl, by simp⟩

def nb (l : List Leaf) : Nat := (l.map isBl).sum
theorem nb_succ (l : List Leaf) (i : Nat) (h : i < l.length) : nb (l.take (i + 1)) = nb (l.take i) + isBl l[i] := by
  unfold nb
  rw [List.take_succ_eq_append_getElem h, List.map_append, List.sum_append]
  simp
theorem nb_le (l : List Leaf) (i : Nat) (h : i ≤ l.length) : nb (l.take i) ≤ i := by
  have := bl_le (l.take i)
  rw [List.length_take] at this
  unfold nb
  omega
theorem isBl_eq (x : Leaf) : isBl x = if (x.Is == 0) = true then 1 else 0 := by
  unfold isBl
  cases x.Is == 0 <;> rfl
theorem open_count (f : Flash) (i : Nat) {x : Block} (hx : f.Blocks[i]? = some x) (hl : x.Leaves.length ≤ 1048576) : loopO (fun s : Int × Int × Int => s_OpenBlock_b2 f (i : Int) s.1 s.2.1 s.2.2) (0, 0, 0) = some ((nb x.Leaves : Int), ((x.Leaves.length - nb x.Leaves : Nat) : Int)) := by
  obtain ⟨b, h1, rfl⟩ := loop_ex (body := fun s : Int × Int × Int => s_OpenBlock_b2 f (i : Int) s.1 s.2.1 s.2.2) (fun (s : Int × Int) k => (s.1, s.2, k)) x.Leaves.length (fun k s => s = ((nb (x.Leaves.take k) : Int), ((k - nb (x.Leaves.take k) : Nat) : Int))) (fun s => s = ((nb x.Leaves : Int), ((x.Leaves.length - nb x.Leaves : Nat) : Int)))
    (fun s k hk hs => by
      subst hs
      have hg : x.Leaves[k]? = some x.Leaves[k] := List.getElem?_eq_getElem hk
      have hle := nb_le x.Leaves k (by omega)
      have hsu := nb_succ x.Leaves k hk
      rw [isBl_eq] at hsu
      refine .inl ?_
      simp only [s_OpenBlock_b2, gi_nat, hx, Option.bind_some, lt_ln, decide_eq_true hk, cond_true, hg]
      cases hb : x.Leaves[k].Is == 0 with
      | true =>
        rw [hb] at hsu
        simp only [cond_true]
        rw [ad_eq (by omega) (by omega), ad1 (by omega)]
        refine ⟨(((nb (x.Leaves.take k) : Nat) : Int) + 1, ((k - nb (x.Leaves.take k) : Nat) : Int)), rfl, ?_⟩
        simp only [if_true] at hsu
        rw [hsu]
        congr 1
        congr 1
        omega
      | false =>
        rw [hb] at hsu
        simp only [cond_false]
        rw [ad_eq (by omega) (by omega), ad1 (by omega)]
        refine ⟨(((nb (x.Leaves.take k) : Nat) : Int), ((k - nb (x.Leaves.take k) : Nat) : Int) + 1), rfl, ?_⟩
        simp only [Bool.false_eq_true, if_false] at hsu
        rw [hsu]
        congr 1
        omega)
    (fun s hs => ⟨_, by simp only [s_OpenBlock_b2, gi_nat, hx, Option.bind_some, lt_ln, Nat.lt_irrefl, decide_false, cond_false]; rfl, by rw [hs, List.take_length]⟩) (s := (0, 0)) (by simp [nb])
  exact h1
theorem OpenBlock_eq (f : Flash) (h : capF f) : ∃ v : Int, s_OpenBlock f = some v ∧ i_OpenBlock f = some v ∧ v < f.Blocks.length := by
  unfold s_OpenBlock i_OpenBlock
  obtain ⟨hf1, hf2⟩ := h
  obtain ⟨b, h1, h2, h3⟩ := loop_ex2 (body := fun s : Int => s_OpenBlock_b1 f s) (body' := fun s : Int => i_OpenBlock_b1 f s) (fun (_ : Unit) i => i) f.Blocks.length (fun _ _ => True) (fun b => b = .inl () ∨ ∃ i : Nat, b = .inr (i : Int) ∧ i < f.Blocks.length)
    (fun _ i hi _ => by
      have hg : f.Blocks[i]? = some f.Blocks[i] := List.getElem?_eq_getElem hi
      have hl := hf2 _ (List.getElem_mem hi)
      have hbl := blanks_eq f.Blocks[i] hl
      have hle := nb_le f.Blocks[i].Leaves f.Blocks[i].Leaves.length (Nat.le_refl _)
      rw [List.take_length] at hle
      have e : ((f.Blocks[i].Leaves.map isBl).sum : Int) = ((nb f.Blocks[i].Leaves : Nat) : Int) := rfl
      rw [e] at hbl
      simp only [s_OpenBlock_b1, i_OpenBlock_b1, lt_ln, decide_eq_true hi, cond_true]
      rw [open_count f i hg hl]
      simp only [Option.bind_some, gi_nat, hg, hbl]
      rw [ad1 (by omega)]
      have ed : decide (((f.Blocks[i].Leaves.length - nb f.Blocks[i].Leaves : Nat) : Int) > 0) = decide (((nb f.Blocks[i].Leaves : Nat) : Int) < ln f.Blocks[i].Leaves) := by
        rw [ln_eq, Bool.eq_iff_iff, decide_eq_true_eq, decide_eq_true_eq]
        omega
      rw [ed]
      refine ⟨rfl, ?_⟩
      simp only [bif_some, Option.bind_some]
      cases (bif !f.Blocks[i].Bad then bif decide (((nb f.Blocks[i].Leaves : Nat) : Int) > 0) then decide (((nb f.Blocks[i].Leaves : Nat) : Int) < ln f.Blocks[i].Leaves) else false else false) with
      | true => exact .inr ⟨_, rfl, .inr ⟨i, rfl, hi⟩⟩
      | false => exact .inl ⟨(), rfl, trivial⟩)
    (fun _ _ => ⟨by simp only [s_OpenBlock_b1, i_OpenBlock_b1, lt_ln, Nat.lt_irrefl, decide_false, cond_false], .inl (), by simp only [s_OpenBlock_b1, lt_ln, Nat.lt_irrefl, decide_false, cond_false], .inl rfl⟩) (s := ()) trivial
  rw [h1, h2]
  rcases h3 with rfl | ⟨i, rfl, hi⟩
  · exact ⟨-1, rfl, rfl, by omega⟩
  · exact ⟨(i : Int), rfl, rfl, by omega⟩
def isFree (f : Flash) (i : Nat) : Bool := match f.Blocks[i]? with
  | some x => !x.Bad && decide (nb x.Leaves = x.Leaves.length)
  | none => false
theorem free_all (f : Flash) (i : Nat) {x : Block} (hx : f.Blocks[i]? = some x) (hl : x.Leaves.length ≤ 1048576) : loopO (fun s : Bool × Int => s_FreeBlocks_b2 f (i : Int) s.1 s.2) (!x.Bad, 0) = some (isFree f i) := by
  obtain ⟨b, h1, rfl⟩ := loop_ex (body := fun s : Bool × Int => s_FreeBlocks_b2 f (i : Int) s.1 s.2) (fun (s : Bool) k => (s, k)) x.Leaves.length (fun k s => s = (!x.Bad && decide (nb (x.Leaves.take k) = k))) (fun s => s = isFree f i)
    (fun s k hk hs => by
      have hg : x.Leaves[k]? = some x.Leaves[k] := List.getElem?_eq_getElem hk
      have hle := nb_le x.Leaves k (by omega)
      have hsu := nb_succ x.Leaves k hk
      rw [isBl_eq] at hsu
      refine .inl ?_
      simp only [s_FreeBlocks_b2, gi_nat, hx, Option.bind_some, lt_ln, decide_eq_true hk, cond_true, hg]
      rw [ad1 (by omega)]
      cases s with
      | true =>
        simp only [cond_true]
        refine ⟨_, rfl, ?_⟩
        have hs' := hs.symm
        simp only [Bool.and_eq_true, decide_eq_true_eq] at hs'
        rw [hs'.1, Bool.true_and, hsu, hs'.2]
        cases hb : x.Leaves[k].Is == 0 <;> simp
      | false =>
        simp only [cond_false]
        refine ⟨_, rfl, ?_⟩
        have hs' := hs.symm
        rw [Bool.and_eq_false_iff] at hs'
        symm
        rw [Bool.and_eq_false_iff]
        rcases hs' with q | q
        · exact .inl q
        · refine .inr (decide_eq_false ?_)
          have := of_decide_eq_false q
          split at hsu <;> omega)
    (fun s hs => ⟨_, by simp only [s_FreeBlocks_b2, gi_nat, hx, Option.bind_some, lt_ln, Nat.lt_irrefl, decide_false, cond_false]; rfl, by rw [hs, List.take_length]; simp only [isFree, hx]⟩) (s := !x.Bad) (by simp [nb])
  exact h1
def frees (f : Flash) : List Int := ((List.range f.Blocks.length).filter (isFree f)).map (fun (i : Nat) => (i : Int))
theorem FreeBlocks_eq (f : Flash) (h : capF f) : s_FreeBlocks f = some (frees f) ∧ i_FreeBlocks f = some (frees f) := by
  obtain ⟨hf1, hf2⟩ := h
  constructor
  · unfold s_FreeBlocks
    rw [gath_loop (body := fun s : List Int × Int => s_FreeBlocks_b1 f s.1 s.2) 8 f.Blocks.length (isFree f) (fun (i : Nat) => (i : Int)) (by omega) (by omega)
      (fun u i hi => by
        have hg : f.Blocks[i]? = some f.Blocks[i] := List.getElem?_eq_getElem hi
        simp only [s_FreeBlocks_b1, lt_ln, decide_eq_true hi, cond_true, gi_nat, hg, Option.bind_some]
        rw [free_all f i hg (hf2 _ (List.getElem_mem hi))]
        simp only [Option.bind_some])
      (fun u => by simp only [s_FreeBlocks_b1, lt_ln, Nat.lt_irrefl, decide_false, cond_false])]
    rfl
  · unfold i_FreeBlocks
    rw [gath_loop (body := fun s : List Int × Int => i_FreeBlocks_b1 f s.1 s.2) 8 f.Blocks.length (isFree f) (fun (i : Nat) => (i : Int)) (by omega) (by omega)
      (fun u i hi => by
        have hg : f.Blocks[i]? = some f.Blocks[i] := List.getElem?_eq_getElem hi
        have hbl := blanks_eq f.Blocks[i] (hf2 _ (List.getElem_mem hi))
        have e : ((f.Blocks[i].Leaves.map isBl).sum : Int) = ((nb f.Blocks[i].Leaves : Nat) : Int) := rfl
        rw [e] at hbl
        have ed : (((nb f.Blocks[i].Leaves : Nat) : Int) == ln f.Blocks[i].Leaves) = decide (nb f.Blocks[i].Leaves = f.Blocks[i].Leaves.length) := by
          rw [ln_eq, Bool.eq_iff_iff, decide_eq_true_eq, beq_iff_eq]
          omega
        simp only [i_FreeBlocks_b1, lt_ln, decide_eq_true hi, cond_true, gi_nat, hg, Option.bind_some, hbl, ed, isFree]
        cases f.Blocks[i].Bad <;> simp)
      (fun u => by simp only [i_FreeBlocks_b1, lt_ln, Nat.lt_irrefl, decide_false, cond_false])]
    rfl
theorem frees_mem {f : Flash} {x : Int} (h : x ∈ frees f) : 0 ≤ x ∧ x < f.Blocks.length := by
  unfold frees at h
  obtain ⟨i, hi, rfl⟩ := List.mem_map.1 h
  have := List.mem_range.1 (List.mem_filter.1 hi).1
  omega
theorem PlaceOf_eq (f : Flash) (h : capF f) : ∃ b l : Int, ∃ ok : Bool, s_PlaceOf f = some (b, l, ok) ∧ i_PlaceOf f = some (b, l, ok) ∧ 0 ≤ b := by
  obtain ⟨hf1, hf2⟩ := h
  obtain ⟨v, v1, _⟩ := FlashOk_ex f ⟨hf1, hf2⟩
  obtain ⟨o, o1, o2, o3⟩ := OpenBlock_eq f ⟨hf1, hf2⟩
  obtain ⟨e1, e2⟩ := FreeBlocks_eq f ⟨hf1, hf2⟩
  unfold s_PlaceOf i_PlaceOf
  rw [eq_FlashOk, v1, o1, o2, e1, e2]
  simp only [Option.bind_some]
  cases v with
  | false => exact ⟨0, 0, false, rfl, rfl, by omega⟩
  | true =>
    simp only [Bool.not_true, cond_false]
    by_cases ho : o ≥ 0
    · rw [decide_eq_true ho]
      simp only [cond_true]
      rw [gi_ok ho o3, eq_NextBlank]
      simp only [Option.bind_some]
      obtain ⟨n, n1, _⟩ := NextBlank_ex (f.Blocks[o.toNat]'(by omega)) (hf2 _ (List.getElem_mem _))
      rw [n1]
      exact ⟨o, n, true, rfl, rfl, ho⟩
    · rw [decide_eq_false ho]
      simp only [cond_false]
      have hlen : (frees f).length ≤ 1048576 := by
        unfold frees
        rw [List.length_map]
        have := List.length_filter_le (isFree f) (List.range f.Blocks.length)
        rw [List.length_range] at this
        omega
      cases hfr : frees f with
      | nil =>
        refine ⟨0, 0, false, rfl, ?_, by omega⟩
        rw [loopO_eq]
        rfl
      | cons x l =>
        have hmem : ∀ y ∈ x :: l, 0 ≤ y ∧ y < f.Blocks.length := fun y hy => frees_mem (by rw [hfr]; exact hy)
        have hne : (ln (x :: l) == 0) = false := by simp [ln]; omega
        rw [hfr] at hlen
        rw [hne]
        simp only [cond_false]
        have hg0 : gi (x :: l) 0 = some x := gi_nat (i := 0)
        rw [hg0]
        simp only [Option.bind_some]
        obtain ⟨w, w1, w2, w3⟩ := loop_ex2G (body := fun s : Int × Int => s_PlaceOf_b1 f (x :: l) s.1 s.2) (body' := fun s : Int × Int => i_PlaceOf_b1 f (x :: l) s.1 s.2) (fun (b : Int) i => (b, i)) (x :: l).length (fun _ b => 0 ≤ b ∧ b < f.Blocks.length) (fun b => 0 ≤ b)
          (fun b i hi hb => by
            have hg : (x :: l)[i]? = some (x :: l)[i] := List.getElem?_eq_getElem hi
            obtain ⟨m1, m2⟩ := hmem _ (List.getElem_mem hi)
            simp only [s_PlaceOf_b1, i_PlaceOf_b1, lt_ln, decide_eq_true hi, cond_true, gi_nat, hg, Option.bind_some]
            rw [gi_ok m1 m2, gi_ok hb.1 hb.2, decide_eq_false (by omega : ¬b < 0), ad1 (by omega)]
            simp only [Option.bind_some, cond_false]
            refine ⟨by first | rfl | trivial, ?_⟩
            cases decide ((f.Blocks[((x :: l)[i]).toNat]'(by omega)).Wear < (f.Blocks[b.toNat]'(by omega)).Wear) with
            | true => exact .inl ⟨_, rfl, m1, m2⟩
            | false => exact .inl ⟨_, rfl, hb⟩)
          (fun b hb => ⟨by simp only [s_PlaceOf_b1, i_PlaceOf_b1, lt_ln, Nat.lt_irrefl, decide_false, cond_false], b, by simp only [s_PlaceOf_b1, lt_ln, Nat.lt_irrefl, decide_false, cond_false], hb.1⟩) l.length 1 x (by simp; omega) (hmem x (by simp))
        have e1' : ((1 : Nat) : Int) = 1 := rfl
        rw [e1'] at w1 w2
        rw [w1]
        have hfirst : loopO (fun s : Int × Int => i_PlaceOf_b1 f (x :: l) s.1 s.2) (-1, 0) = some w := by
          rw [loopO_eq]
          have hb : i_PlaceOf_b1 f (x :: l) (-1) 0 = some (.inl (x, 1)) := by
            have hlt : decide ((0 : Int) < ln (x :: l)) = true := decide_eq_true (by simp [ln])
            simp only [i_PlaceOf_b1, hlt, cond_true, hg0, Option.bind_some]
            rfl
          simp only [hb]
          exact w2
        rw [hfirst]
        simp only [Option.bind_some]
        rw [decide_eq_false (by omega : ¬w < 0)]
        exact ⟨w, 0, true, rfl, rfl, w3⟩

theorem put_eq (f : Flash) (h : capF f) (steps : List Step) (hs : steps.length ≤ 1000) (p : Page) : ∃ (g : Flash) (st : List Step) (ok : Bool), s_l16Put f steps p = some (g, st, ok) ∧ i_stepper_write (stepper.mk f steps) p (-1) = some (ok, stepper.mk g st) ∧ capF g ∧ st.length ≤ steps.length + 1 := by
  obtain ⟨t, ok, t1, t2⟩ := PageText_ex p
  obtain ⟨b, l, room, p1, p2, p3⟩ := PlaceOf_eq f h
  unfold s_l16Put i_stepper_write
  rw [t1, t2, p1, p2]
  simp only [Option.bind_some]
  have eb : (b == -1) = false := by simp; omega
  rw [eb]
  cases ok with
  | false => exact ⟨f, steps, false, rfl, rfl, h, by omega⟩
  | true =>
    cases room with
    | false => exact ⟨f, steps, false, rfl, rfl, h, by omega⟩
    | true =>
      obtain ⟨g, v, g1, g2, g3⟩ := DoStep_eq f (Step.mk 1 b l t) h
      simp only [Bool.not_true, cond_false, Option.bind_some, g1, g2]
      rw [ap_eq (by simp only [List.length_singleton]; omega)]
      refine ⟨g, _, v, rfl, rfl, ?_, by simp⟩
      rcases g3 with ⟨_, rfl⟩ | ⟨_, g3⟩
      · exact h
      · exact g3.cap
theorem idle (pages : List Page) (r : Bool) (hp : pages.length ≤ 9) (bl : List Block) (st : List Step) : ∀ (n i : Nat), i + n = pages.length → loopO (fun s : Bool × Int × List Block × List Step => i_WriteSteps_b1 (pages, r) s.1 s.2.1 s.2.2.1 s.2.2.2) (false, (i : Int), bl, st) = some (false, bl, st)
  | 0, i, h => by
    have : i = pages.length := by omega
    subst this
    rw [loopO_eq]
    simp only [i_WriteSteps_b1, lt_ln, Nat.lt_irrefl, decide_false, cond_false]
  | n + 1, i, h => by
    have hi : i < pages.length := by omega
    have hg : pages[i]? = some pages[i] := List.getElem?_eq_getElem hi
    have hb : i_WriteSteps_b1 (pages, r) false (i : Int) bl st = some (.inl (false, ((i + 1 : Nat) : Int), bl, st)) := by
      simp only [i_WriteSteps_b1, lt_ln, decide_eq_true hi, cond_true, gi_nat, hg, Option.bind_some, cond_false]
      rw [ad1 (by omega)]
    rw [loopO_eq]
    simp only [hb]
    exact idle pages r hp bl st n (i + 1) (by omega)
theorem write_loop (pages : List Page) (r : Bool) (hp : pages.length ≤ 9) : ∀ (n i : Nat) (bl : List Block) (st : List Step) (ok : Bool), i + n = pages.length → capF (Flash.mk bl) → st.length ≤ i + 1 → ∃ (st' : List Step) (bl' : List Block) (ok' : Bool),
    loopO (fun s : List Step × Bool × Int × List Block => s_WriteSteps_b1 (pages, r) s.1 s.2.1 s.2.2.1 s.2.2.2) (st, ok, (i : Int), bl) = some (st', ok') ∧
    loopO (fun s : Bool × Int × List Block × List Step => i_WriteSteps_b1 (pages, r) s.1 s.2.1 s.2.2.1 s.2.2.2) (ok, (i : Int), bl, st) = some (ok', bl', st') ∧ st'.length ≤ pages.length + 1
  | n, i, bl, st, false, h, hc, hs => by
    refine ⟨st, bl, false, ?_, idle pages r hp bl st n i h, by omega⟩
    rw [loopO_eq]
    simp only [s_WriteSteps_b1, bif_some, Option.bind_some]
    have : (bif decide ((i : Int) < ln (pages, r).1) then false else false) = false := by cases decide ((i : Int) < ln (pages, r).1) <;> rfl
    rw [this]
    rfl
  | 0, i, bl, st, true, h, hc, hs => by
    have : i = pages.length := by omega
    subst this
    refine ⟨st, bl, true, ?_, ?_, by omega⟩
    · rw [loopO_eq]
      simp only [s_WriteSteps_b1, lt_ln, Nat.lt_irrefl, decide_false, cond_false, Option.bind_some]
    · rw [loopO_eq]
      simp only [i_WriteSteps_b1, lt_ln, Nat.lt_irrefl, decide_false, cond_false]
  | n + 1, i, bl, st, true, h, hc, hs => by
    have hi : i < pages.length := by omega
    have hg : pages[i]? = some pages[i] := List.getElem?_eq_getElem hi
    obtain ⟨g, st1, ok1, w1, w2, w3, w4⟩ := put_eq (Flash.mk bl) hc st (by omega) pages[i]
    have hb1 : s_WriteSteps_b1 (pages, r) st true (i : Int) bl = some (.inl (st1, ok1, ((i + 1 : Nat) : Int), g.Blocks)) := by
      simp only [s_WriteSteps_b1, lt_ln, decide_eq_true hi, cond_true, gi_nat, hg, Option.bind_some, w1]
      rw [ad1 (by omega)]
    have hb2 : i_WriteSteps_b1 (pages, r) true (i : Int) bl st = some (.inl (ok1, ((i + 1 : Nat) : Int), g.Blocks, st1)) := by
      simp only [i_WriteSteps_b1, lt_ln, decide_eq_true hi, cond_true, gi_nat, hg, Option.bind_some, w2]
      rw [ad1 (by omega)]
    obtain ⟨st', bl', ok', q1, q2, q3⟩ := write_loop pages r hp n (i + 1) g.Blocks st1 ok1 (by omega) w3 (by omega)
    refine ⟨st', bl', ok', ?_, ?_, q3⟩
    · rw [loopO_eq]
      simp only [hb1]
      exact q1
    · rw [loopO_eq]
      simp only [hb2]
      exact q2
theorem WriteSteps_eq (d : Device) (hc : capF d.Flash) (recs : List Rec) (hr : recs.length ≤ 16777216 * 2) (text : ByteArray) : ∃ (st : List Step) (ok : Bool), s_WriteSteps d recs text = some (st, ok) ∧ i_WriteSteps d recs text = some (st, ok) ∧ st.length ≤ 100 := by
  unfold s_WriteSteps i_WriteSteps
  cases hz : ln recs == 0 with
  | true => exact ⟨[], true, rfl, rfl, by simp⟩
  | false =>
    simp only [cond_false]
    have hl : 1 ≤ recs.length := by
      have : ¬ln recs = 0 := by simpa using hz
      rw [ln_eq] at this
      omega
    have hfin : ∀ (seq : Int) (bl : List Block) (st : List Step), capF (Flash.mk bl) → st.length ≤ 1 → ∃ (st' : List Step) (ok' : Bool), ((s_TxPages seq d.Tx recs).bind fun v2 =>
        (loopO (fun s : List Step × Bool × Int × List Block => s_WriteSteps_b1 v2 s.1 s.2.1 s.2.2.1 s.2.2.2) (st, true, 0, bl)).bind fun v4 =>
        (bif (!v4.2) then (some true) else (some (!v2.2)) : Option (Bool)).bind fun j5 => bif j5 then (some ([], false)) else (some (v4.1, true))) = some (st', ok') ∧
        ((i_TxPages seq d.Tx recs).bind fun v2 =>
        (loopO (fun s : Bool × Int × List Block × List Step => i_WriteSteps_b1 v2 s.1 s.2.1 s.2.2.1 s.2.2.2) (v2.2, 0, bl, st)).bind fun v4 =>
        bif (!v4.1) then (some ([], false)) else (some (v4.2.2, true))) = some (st', ok') ∧ st'.length ≤ 100 := by
      intro seq bl st hcb hst
      obtain ⟨pages, right, p1, p2, p3⟩ := TxPages_eq seq d.Tx recs hr
      rw [p1, p2]
      simp only [Option.bind_some]
      obtain ⟨st', bl', ok', q1, q2, q3⟩ := write_loop pages right p3 pages.length 0 bl st true (by omega) hcb (by omega)
      have q1' : loopO (fun s : List Step × Bool × Int × List Block => s_WriteSteps_b1 (pages, right) s.1 s.2.1 s.2.2.1 s.2.2.2) (st, true, 0, bl) = some (st', ok') := q1
      rw [q1']
      cases right with
      | false =>
        have := idle pages false p3 bl st pages.length 0 (by omega)
        have q4 : loopO (fun s : Bool × Int × List Block × List Step => i_WriteSteps_b1 (pages, false) s.1 s.2.1 s.2.2.1 s.2.2.2) (false, 0, bl, st) = some (false, bl, st) := this
        rw [q4]
        refine ⟨[], false, ?_, rfl, by simp⟩
        cases ok' <;> rfl
      | true =>
        have q2' : loopO (fun s : Bool × Int × List Block × List Step => i_WriteSteps_b1 (pages, true) s.1 s.2.1 s.2.2.1 s.2.2.2) (true, 0, bl, st) = some (ok', bl', st') := q2
        rw [q2']
        cases ok' with
        | false => exact ⟨[], false, rfl, rfl, by simp⟩
        | true => exact ⟨st', true, rfl, rfl, by omega⟩
    have hfalse : ∀ (seq : Int) (bl : List Block) (st : List Step), st.length ≤ 1 → ((s_TxPages seq d.Tx recs).bind fun v2 =>
        (loopO (fun s : List Step × Bool × Int × List Block => s_WriteSteps_b1 v2 s.1 s.2.1 s.2.2.1 s.2.2.2) (st, false, 0, bl)).bind fun v4 =>
        (bif (!v4.2) then (some true) else (some (!v2.2)) : Option (Bool)).bind fun j5 => bif j5 then (some ([], false)) else (some (v4.1, true))) = some ([], false) := by
      intro seq bl st hst
      obtain ⟨pages, right, p1, p2, p3⟩ := TxPages_eq seq d.Tx recs hr
      rw [p1]
      simp only [Option.bind_some]
      have : loopO (fun s : List Step × Bool × Int × List Block => s_WriteSteps_b1 (pages, right) s.1 s.2.1 s.2.2.1 s.2.2.2) (st, false, 0, bl) = some (st, false) := by
        rw [loopO_eq]
        simp only [s_WriteSteps_b1, bif_some, Option.bind_some]
        have : (bif decide ((0 : Int) < ln pages) then false else false) = false := by cases decide ((0 : Int) < ln pages) <;> rfl
        rw [this]
        rfl
      rw [this]
      rfl
    cases ht : !(seq text (bs [])) with
    | false =>
      simp only [cond_false, Option.bind_some, Sum.elim_inl]
      obtain ⟨st', ok', q1, q2, q3⟩ := hfin d.Seq d.Flash.Blocks [] hc (by simp)
      exact ⟨st', ok', q1, q2, q3⟩
    | true =>
      simp only [cond_true]
      have hx : gi recs (sb (ln recs) 1) = some (recs[recs.length - 1]'(by omega)) := by
        have : sb (ln recs) 1 = ((recs.length - 1 : Nat) : Int) := by
          rw [ln_eq, sb_eq (by omega) (by omega)]
          omega
        rw [this, gi_nat]
        exact List.getElem?_eq_getElem _
      rw [hx]
      simp only [Option.bind_some]
      obtain ⟨g, st1, ok1, w1, w2, w3, w4⟩ := put_eq d.Flash hc [] (by simp) (Page.mk 1 d.Seq (recs[recs.length - 1]'(by omega)).Chunk 0 1 text)
      rw [w1, w2]
      simp only [Option.bind_some]
      cases ok1 with
      | false =>
        simp only [Bool.not_false, cond_true, Option.bind_some, Sum.elim_inr]
        exact ⟨[], false, hfalse _ _ _ (by simpa using w4), rfl, by simp⟩
      | true =>
        simp only [Bool.not_true, cond_false, Option.bind_some, Sum.elim_inl]
        obtain ⟨st', ok', q1, q2, q3⟩ := hfin (ad d.Seq 1) g.Blocks st1 w3 (by simpa using w4)
        exact ⟨st', ok', q1, q2, q3⟩
theorem markDevice_le (d : Device) (hz : zDevice d ≤ 1048576) : ∃ v, w_markDevice d 1 = some v ∧ 0 ≤ v ∧ v ≤ 16777216 := by
  unfold zDevice zStore zArena zFlash at hz
  have b1 := sum_le (c := cBlock) (z := fun x => 2 + 2 * zBlock x) (l := d.Flash.Blocks) (fun x => by
    have := zl_len (z := zLeaf) (l := x.Leaves)
    unfold cBlock zBlock
    rw [sum_const]; omega)
  have b2 : (d.Flash.Blocks.map fun x => 2 + 2 * zBlock x).sum = 2 * zl zBlock d.Flash.Blocks := by
    unfold zl
    generalize d.Flash.Blocks = l
    induction l with
    | nil => rfl
    | cons x l ih => simp only [List.map_cons, List.sum_cons, List.length_cons, ih]; omega
  have b3 := sum_le (c := cKnot) (z := fun x => 1 + zKnot x) (l := d.Store.Arena.Knots) (fun x => by
    unfold cKnot zKnot
    rw [sum_const]; omega)
  have b4 : (d.Store.Arena.Knots.map fun x => 1 + zKnot x).sum = zl zKnot d.Store.Arena.Knots := by
    unfold zl
    generalize d.Store.Arena.Knots = l
    induction l with
    | nil => rfl
    | cons x l ih => simp only [List.map_cons, List.sum_cons, List.length_cons, ih]; omega
  have b5 : (d.Store.Vols.map fun _ => 2).sum ≤ 2 * 1048576 := by
    rw [sum_const]; omega
  unfold w_markDevice w_markFlash w_markStore w_markArena
  rw [markBlockS_eq _ (by omega) (by omega)]
  simp only [Option.bind_some]
  rw [markVolS_eq _ (by omega) (by omega)]
  simp only [Option.bind_some]
  rw [markKnotS_eq _ (by omega) (by omega)]
  simp only [Option.bind_some]
  exact ⟨_, rfl, by omega, by omega⟩


noncomputable def fStep (k : Int) (x : Step) : Step := Step.mk k (k + 1) (k + 2) (mt (k + 3))
theorem markStepS_eq (l : List Step) {k : Int} (h0 : 0 ≤ k) (hB : k + (((l.map fun _ => 4).sum : Nat) : Int) ≤ 1152921504606846976) :
    w_markStepS l k = some (k + (((l.map fun _ => 4).sum : Nat) : Int), marks (fun _ => 4) fStep l k) := by
  have hl : l.length ≤ 1152921504606846976 := by rw [sum_const] at hB; omega
  refine mark_list (fun _ => 4) fStep (fun _ => True) 1152921504606846976 l rfl (fun pre x post k h1 _ h2 h3 => ?_) (fun m k hm => ?_) (fun _ _ => trivial) h0 hB
  · have e1 : ad k 1 = k + 1 := ad_eq (by omega) (by omega)
    have e2 : ad (k + 1) 1 = k + 2 := (ad_eq (by omega) (by omega)).trans (by omega)
    have e3 : ad (k + 2) 1 = k + 3 := (ad_eq (by omega) (by omega)).trans (by omega)
    have e4 : ad (k + 3) 1 = k + 4 := (ad_eq (by omega) (by omega)).trans (by omega)
    simp only [w_markStepS_b1, lt_midM, cond_true, gi_midM, si_midM, Option.bind_some, e1, e2, e3, e4]
    rw [markText_eq (by omega) (by omega)]
    simp only [Option.bind_some, gi_midM, si_midM]
    rw [ad1 (by omega)]
    rfl
  · simp only [w_markStepS_b1, lt_endM m hm, cond_false]
theorem heldStepS_eq (l : List Step) {k : Int} (h0 : 0 ≤ k) (hB : k + (((l.map fun _ => 4).sum : Nat) : Int) ≤ 1152921504606846976) :
    w_heldStepS (marks (fun _ => 4) fStep l k) k = some (k + (((l.map fun _ => 4).sum : Nat) : Int)) := by
  have hl : l.length ≤ 1152921504606846976 := by rw [sum_const] at hB; omega
  unfold w_heldStepS
  rw [held_list (body := fun s : Int × Int => w_heldStepS_b1 (marks (fun _ => 4) fStep l k) s.1 s.2) (fun _ => 4) fStep (fun _ => True) 1152921504606846976 l (fun i x k2 hi hg _ h2 h3 => ?_) (fun k' => ?_) (fun _ _ => trivial) h0 hB]
  · rfl
  · have hlt : i < (marks (fun _ => 4) fStep l k).length := by rw [marks_len]; exact hi
    have e1 : ad k2 1 = k2 + 1 := ad_eq (by omega) (by omega)
    have e2 : ad (k2 + 1) 1 = k2 + 2 := (ad_eq (by omega) (by omega)).trans (by omega)
    have e3 : ad (k2 + 2) 1 = k2 + 3 := (ad_eq (by omega) (by omega)).trans (by omega)
    have e4 : ad (k2 + 3) 1 = k2 + 4 := (ad_eq (by omega) (by omega)).trans (by omega)
    simp only [w_heldStepS_b1, lt_ln, decide_eq_true hlt, cond_true, gi_nat, hg, Option.bind_some, fStep, bne_self_eq_false, cond_false, e1, e2, e3, e4]
    rw [markText_eq (by omega) (by omega), Option.bind_some, seq_eq, decide_eq_true rfl]
    simp only [Bool.not_true, cond_false]
    rw [ad1 (by omega)]
    rfl
  · simp only [w_heldStepS_b1, lt_ln, marks_len, Nat.lt_irrefl, decide_false, cond_false]
theorem eqStepS_self (l : List Step) (h : l.length ≤ 100) : w_eqStepS l l = some true :=
  tells_self (eq_listF w_eqStep l l (by omega) (fun x _ y _ => eqStep_eq x y) (fun _ => rfl) rfl)
theorem toRecS_eq (l : List Rec) (h : l.length ≤ 1048576) : w_toRecS l = some l := to_listF w_toRec l (by omega) (by omega) (fun _ _ => rfl) (fun _ _ => rfl) rfl
theorem writeSteps_true (d : Device) (recs : List Rec) (text : ByteArray) (hd : oDevice d) (hr : ol oRec recs) (ht : oS text) : w_FnExactWriteSteps d recs text = some true := by
  unfold w_FnExactWriteSteps
  cases hsz : decide (sln text > 1048576) with
  | true => rfl
  | false =>
    simp only [cond_false]
    obtain ⟨v, h1, h2⟩ := szDevice_eq d hd 1048576 (by omega) (by omega)
    rw [h1, Option.bind_some]
    split at h2
    · rename_i hc
      rw [decide_eq_false (by omega), cond_false]
      have z : zDevice d ≤ 1048576 := by omega
      have hrl : recs.length ≤ 9223372036854775807 := hr.1
      unfold w_szRecS
      rw [ln_eq, sb_eq (by omega) (by omega)]
      by_cases hneg : v - (recs.length : Int) < 0
      · rw [decide_eq_true hneg]
        rfl
      · rw [decide_eq_false hneg]
        simp only [cond_false, Option.bind_some]
        rw [decide_eq_false hneg]
        simp only [cond_false]
        have hrl2 : recs.length ≤ 1048576 := by omega
        have hcap : capF d.Flash := (capF_of d.Flash (by unfold zDevice at z; omega)).1
        obtain ⟨st, ok, w1, w2, w3⟩ := WriteSteps_eq d hcap recs (by omega) text
        obtain ⟨k, k1, k2, k3⟩ := markDevice_le d z
        have hB : (1 : Int) + (((st.map fun _ => 4).sum : Nat) : Int) ≤ 1152921504606846976 := by rw [sum_const]; omega
        have hB2 : k + (((recs.map fun _ => 4).sum : Nat) : Int) ≤ 1152921504606846976 := by rw [sum_const]; omega
        have e1 := eqStepS_self st w3
        have e2 : (ok == ok) = true := by simp
        simp only [toDevice_eq d z, toRecS_eq recs hrl2, Option.bind_some, w1, w2, e1, e2, tells_self (eqDevice_eq d d z), tells_self (eqRecS_eq recs recs hrl2), Bool.not_true, cond_false, k1]
        simp only [markRecS_eq recs k2 hB2, Option.bind_some, decide_eq_false (show ¬(k + (((recs.map fun _ => 4).sum : Nat) : Int)) < 0 by omega), cond_false]
        simp only [markStepS_eq st (k := 1) (by omega) hB, heldStepS_eq st (k := 1) (by omega) hB, Option.bind_some, decide_eq_false (show ¬(1 + (((st.map fun _ => 4).sum : Nat) : Int)) < 0 by omega), cond_false, bne_self_eq_false]
    · rw [decide_eq_true h2, cond_true]
end Go.TI
