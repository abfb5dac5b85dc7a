/- Sorting by a key, stably: what the functions of sort compute. No condition; no program is in sight. -/
import Derived.Test.YtcjepealfaimfaaGreatPOSOD
import Derived.Test.YtcjepealfaimfaaGreatPOPL
import Derived.Laws.BitsLemmas
namespace Go.TI
open Go
set_option linter.unusedSimpArgs false
set_option linter.unusedVariables false
section
variable {γ : Type} (key : γ → Int)
def srt (l : List γ) : Prop := l.Pairwise fun x y => key x ≤ key y
def sameK (l r : List γ) : Prop := ∀ k, r.filter (fun x => key x == k) = l.filter (fun x => key x == k)
theorem sameK.refl (l : List γ) : sameK key l l := fun _ => rfl
theorem sameK.trans {a b c : List γ} (h : sameK key a b) (k : sameK key b c) : sameK key a c := fun x => (k x).trans (h x)
theorem sameK.app {a b c d : List γ} (h : sameK key a b) (k : sameK key c d) : sameK key (a ++ c) (b ++ d) := fun x => by rw [List.filter_append, List.filter_append, h, k]
theorem sameK.mem {a b : List γ} (h : sameK key a b) {x : γ} : x ∈ b ↔ x ∈ a := by
  have := h (key x)
  have e : x ∈ b.filter (fun y => key y == key x) ↔ x ∈ a.filter (fun y => key y == key x) := by rw [this]
  simpa using e
theorem sameK.nil {b : List γ} (h : sameK key [] b) : b = [] := by
  cases b with
  | nil => rfl
  | cons x b => exact absurd ((h.mem (x := x)).1 List.mem_cons_self) (by simp)
theorem sameK.swap {a b : List γ} (h : ∀ x ∈ a, ∀ y ∈ b, key y < key x) : sameK key (a ++ b) (b ++ a) := by
  intro k
  rw [List.filter_append, List.filter_append]
  by_cases ha : a.filter (fun x => key x == k) = []
  · rw [ha]; simp
  · have hb : b.filter (fun x => key x == k) = [] := by
      rw [List.filter_eq_nil_iff]
      intro y hy e
      obtain ⟨x, hx⟩ := List.exists_mem_of_ne_nil _ ha
      obtain ⟨hx1, hx2⟩ := List.mem_filter.1 hx
      have := h x hx1 y hy
      simp at e hx2
      omega
    rw [hb]; simp
theorem len_filter (p : γ → Bool) : ∀ l : List γ, l.length = (l.filter p).length + (l.filter fun x => !p x).length
  | [] => rfl
  | x :: l => by
    have := len_filter p l
    cases h : p x <;> simp [h] <;> omega
theorem sameK.len {a b : List γ} : sameK key a b → a.length = b.length := by
  intro h
  have : ∀ (n : Nat) (a b : List γ), a.length ≤ n → sameK key a b → a.length = b.length := by
    intro n
    induction n with
    | zero =>
      intro a b ha h
      have : a = [] := List.eq_nil_of_length_eq_zero (by omega)
      subst this
      rw [h.nil]
    | succ n ih =>
      intro a b ha h
      cases a with
      | nil => rw [h.nil]
      | cons x a =>
        have hp : (x :: a).length = ((x :: a).filter (fun y => key y == key x)).length + ((x :: a).filter (fun y => !(key y == key x))).length := by
          exact len_filter _ _
        have hp2 : b.length = (b.filter (fun y => key y == key x)).length + (b.filter (fun y => !(key y == key x))).length := by
          exact len_filter _ _
        have h1 : sameK key ((x :: a).filter (fun y => !(key y == key x))) (b.filter (fun y => !(key y == key x))) := by
          intro k
          rw [List.filter_filter, List.filter_filter]
          by_cases hk : k = key x
          · subst hk
            have z : ∀ l : List γ, l.filter (fun y => (key y == key x) && !(key y == key x)) = [] := fun l => by
              rw [List.filter_eq_nil_iff]; intro y _; cases key y == key x <;> simp
            rw [z, z]
          · have z : ∀ l : List γ, l.filter (fun y => (key y == k) && !(key y == key x)) = l.filter (fun y => key y == k) := fun l => by
              apply List.filter_congr
              intro y _
              by_cases e : key y = k
              · have : (key y == key x) = false := by simp [e, hk]
                simp [this]
              · have : (key y == k) = false := by simpa using e
                simp [this]
            rw [z, z]
            exact h k
        have h2 := ih _ _ (by
          have : 0 < ((x :: a).filter (fun y => key y == key x)).length := by simp
          omega) h1
        rw [hp, hp2, h2, h (key x)]
  exact this a.length a b (Nat.le_refl _) h
theorem srt_unique : ∀ {a b : List γ}, srt key a → srt key b → sameK key a b → a = b
  | [], b, _, _, h => (h.nil key).symm
  | x :: a, [], _, _, h => by
    have := h.len key
    simp at this
  | x :: a, y :: b, ha, hb, h => by
    have hxy : key x = key y := by
      have h1 : x ∈ y :: b := (h.mem key).2 List.mem_cons_self
      have h2 : y ∈ x :: a := (h.mem key).1 List.mem_cons_self
      have k1 : key y ≤ key x := by
        rcases List.mem_cons.1 h1 with rfl | h1
        · exact Int.le_refl _
        · exact (List.pairwise_cons.1 hb).1 x h1
      have k2 : key x ≤ key y := by
        rcases List.mem_cons.1 h2 with rfl | h2
        · exact Int.le_refl _
        · exact (List.pairwise_cons.1 ha).1 y h2
      omega
    have e := h (key x)
    rw [List.filter_cons_of_pos (by simp [hxy]), List.filter_cons_of_pos (by simp)] at e
    injection e with e1 e2
    subst e1
    have h' : sameK key a b := by
      intro k
      have := h k
      by_cases hk : key y = k
      · subst hk; exact e2
      · rw [List.filter_cons_of_neg (by simpa using hk), List.filter_cons_of_neg (by simpa using hk)] at this
        exact this
    rw [srt_unique (List.pairwise_cons.1 ha).2 (List.pairwise_cons.1 hb).2 h']
end
section
variable {γ : Type} {lt : γ → γ → Bool}
theorem gi_app (P S : List γ) (x : γ) : gi (P ++ x :: S) (P.length : Nat) = some x := by
  rw [gi_nat, List.getElem?_append_right (Nat.le_refl _)]
  simp
theorem si_app (P S : List γ) (x y : γ) : si (P ++ x :: S) (P.length : Nat) y = P ++ y :: S := by
  rw [si_nat]
  simp
theorem swp_app (P M S : List γ) (x y : γ) : swp (P ++ x :: (M ++ y :: S)) (P.length : Nat) ((P.length + 1 + M.length : Nat) : Int) = some (P ++ y :: (M ++ x :: S)) := by
  unfold swp
  have e : P ++ x :: (M ++ y :: S) = (P ++ x :: M) ++ y :: S := by simp
  have e2 : P ++ y :: (M ++ y :: S) = (P ++ y :: M) ++ y :: S := by simp
  have hl : (P.length + 1 + M.length) = (P ++ x :: M).length := by simp; omega
  have hl2 : (P.length + 1 + M.length) = (P ++ y :: M).length := by simp; omega
  rw [gi_app, Option.bind_some]
  have h2 : gi (P ++ x :: (M ++ y :: S)) ((P.length + 1 + M.length : Nat) : Int) = some y := by rw [e, hl, gi_app]
  rw [h2, Option.bind_some, si_app, e2, hl2, si_app]
  simp
theorem swp_adj (P S : List γ) (x y : γ) : swp (P ++ x :: y :: S) ((P.length + 1 : Nat) : Int) (P.length : Nat) = some (P ++ y :: x :: S) := by
  unfold swp
  have e : P ++ x :: y :: S = (P ++ [x]) ++ y :: S := by simp
  have e2 : P ++ x :: x :: S = P ++ x :: (x :: S) := rfl
  have hl : (P.length + 1) = (P ++ [x]).length := by simp
  have h1 : gi (P ++ x :: y :: S) ((P.length + 1 : Nat) : Int) = some y := by rw [e, hl, gi_app]
  rw [h1, Option.bind_some, gi_app, Option.bind_some]
  have h3 : si (P ++ x :: y :: S) ((P.length + 1 : Nat) : Int) x = P ++ x :: x :: S := by rw [e, hl, si_app]; simp
  rw [h3, si_app]
theorem swp_adj2 (P S : List γ) (x y : γ) : swp (P ++ x :: y :: S) (P.length : Nat) ((P.length + 1 : Nat) : Int) = some (P ++ y :: x :: S) := by
  have := swp_app P [] S x y
  simpa using this
theorem swapRange_eq : ∀ (X Y P M S : List γ), X.length = Y.length → P.length + X.length + M.length + Y.length + S.length ≤ 1152921504606846976 →
    sort_swapRange_func lt (P ++ X ++ M ++ Y ++ S) (P.length : Nat) ((P.length + X.length + M.length : Nat) : Int) (X.length : Nat) = some (P ++ Y ++ M ++ X ++ S) := by
  have key : ∀ (n : Nat) (X Y P M S : List γ) (a b c i : Nat), X.length = n → Y.length = n → a + i = P.length → b + i = P.length + n + M.length → c = i + n → P.length + n + M.length + n + S.length ≤ 1152921504606846976 →
      loopO (fun s : Int × List γ => sort_swapRange_func_b1 lt (a : Int) (b : Int) (c : Int) s.1 s.2) ((i : Int), P ++ X ++ M ++ Y ++ S) = some (P ++ Y ++ M ++ X ++ S) := by
    intro n
    induction n with
    | zero =>
      intro X Y P M S a b c i hX hY h1 h2 h3 hN
      have := List.eq_nil_of_length_eq_zero hX
      subst this
      have := List.eq_nil_of_length_eq_zero hY
      subst this
      rw [loopO_eq]
      simp only [sort_swapRange_func_b1]
      rw [decide_eq_false (by omega : ¬(i : Int) < c), cond_false]
    | succ n ih =>
      intro X Y P M S a b c i hX hY h1 h2 h3 hN
      cases X with
      | nil => simp at hX
      | cons x X =>
      cases Y with
      | nil => simp at hY
      | cons y Y =>
      simp only [List.length_cons] at hX hY
      have hs : swp (P ++ (x :: X) ++ M ++ (y :: Y) ++ S) (ad (a : Int) (i : Int)) (ad (b : Int) (i : Int)) = some (P ++ (y :: X) ++ M ++ (x :: Y) ++ S) := by
        have e1 : ad (a : Int) (i : Int) = (P.length : Nat) := by rw [ad_eq (by omega) (by omega)]; omega
        have e2 : ad (b : Int) (i : Int) = ((P.length + 1 + (X ++ M).length : Nat) : Int) := by rw [ad_eq (by omega) (by omega)]; simp only [List.length_append]; omega
        have := swp_app P (X ++ M) (Y ++ S) x y
        rw [e1, e2]
        simpa using this
      rw [loopO_eq]
      simp only [sort_swapRange_func_b1]
      rw [decide_eq_true (by omega : (i : Int) < c), cond_true, hs, Option.bind_some, ad1 (by omega)]
      have := ih X Y (P ++ [y]) (M ++ [x]) S a b c (i + 1) (by omega) (by omega) (by simp; omega) (by simp; omega) (by omega) (by simp; omega)
      simp only [List.append_assoc, List.cons_append, List.nil_append, List.singleton_append] at this ⊢
      exact this
  intro X Y P M S hXY hN
  unfold sort_swapRange_func
  have := key X.length X Y P M S P.length (P.length + X.length + M.length) X.length 0 rfl hXY.symm (by omega) (by omega) (by omega) (by omega)
  rw [show ((0 : Nat) : Int) = 0 from rfl] at this
  rw [this]
  rfl
theorem rotate_eq (P A B S : List γ) (hA : A ≠ []) (hB : B ≠ []) (hN : P.length + A.length + B.length + S.length ≤ 1152921504606846976) :
    sort_rotate_func lt (P ++ A ++ B ++ S) (P.length : Nat) ((P.length + A.length : Nat) : Int) ((P.length + A.length + B.length : Nat) : Int) = some (P ++ B ++ A ++ S) := by
  have key : ∀ (m : Nat) (Bd : Int × Int × List γ → Option ((Int × Int × List γ) ⊕ (Int × List γ))) (hBd : ∀ i j l, Bd (i, j, l) = sort_rotate_func_b1 lt (m : Int) i j l) (k : Nat) (P U V S : List γ), U.length + V.length ≤ k → U ≠ [] → V ≠ [] → P.length + U.length = m → P.length + U.length + V.length + S.length ≤ 1152921504606846976 →
      ((loopO Bd ((U.length : Int), (V.length : Int), P ++ U ++ V ++ S)).bind fun v3 =>
        (sort_swapRange_func lt v3.2 (sb (m : Int) v3.1) (m : Int) v3.1).bind fun v4 => some v4) = some (P ++ V ++ U ++ S) := by
    intro m Bd hBd k
    induction k with
    | zero =>
      intro P U V S hk hU
      exact absurd (List.eq_nil_of_length_eq_zero (by omega)) hU
    | succ k ih =>
      intro P U V S hk hU hV hm hN
      have lU := List.length_pos_iff.2 hU
      have lV := List.length_pos_iff.2 hV
      rw [loopO_eq]
      simp only [hBd, sort_rotate_func_b1]
      have hsb : sb (m : Int) (U.length : Int) = (P.length : Nat) := by rw [sb_eq (by omega) (by omega)]; omega
      by_cases heq : U.length = V.length
      · have e : ((U.length : Int) != (V.length : Int)) = false := by simp [heq]
        rw [e, cond_false]
        simp only [Option.bind_some]
        rw [hsb]
        have := swapRange_eq (lt := lt) U V P [] S heq (by simp; omega)
        simp only [List.append_nil, List.length_nil, Nat.add_zero] at this
        rw [hm] at this
        rw [this]
        rfl
      · have e : ((U.length : Int) != (V.length : Int)) = true := by simp; omega
        rw [e, cond_true]
        by_cases hgt : U.length > V.length
        · rw [decide_eq_true (by omega : (U.length : Int) > V.length), cond_true, hsb]
          have hU12 : U = U.take V.length ++ U.drop V.length := (List.take_append_drop _ _).symm
          have hl1 : (U.take V.length).length = V.length := by simp; omega
          have hl2 : (U.drop V.length).length = U.length - V.length := by simp
          have := swapRange_eq (lt := lt) (U.take V.length) V P (U.drop V.length) S hl1 (by rw [hl1, hl2]; omega)
          rw [hl1, hl2, show P.length + V.length + (U.length - V.length) = m by omega] at this
          have e3 : P ++ U ++ V ++ S = P ++ U.take V.length ++ U.drop V.length ++ V ++ S := by
            have : P ++ U ++ V ++ S = P ++ (U.take V.length ++ U.drop V.length) ++ V ++ S := by rw [List.take_append_drop]
            rw [this]
            simp only [List.append_assoc]
          rw [e3, this, Option.bind_some]
          have e4 : sb (U.length : Int) (V.length : Int) = ((U.drop V.length).length : Int) := by rw [sb_eq (by omega) (by omega), hl2]; omega
          have := ih (P ++ V) (U.drop V.length) (U.take V.length) S (by rw [hl1, hl2]; omega) (by intro e; rw [e] at hl2; simp at hl2; omega) (by intro e; rw [e] at hl1; simp at hl1; omega) (by simp only [List.length_append]; omega) (by simp only [List.length_append, hl1, hl2]; omega)
          rw [hl1] at this
          rw [e4]
          simp only [List.append_assoc] at this ⊢
          rw [this]
          rw [show U.take V.length ++ (U.drop V.length ++ S) = U ++ S by rw [← List.append_assoc, List.take_append_drop]]
        · rw [decide_eq_false (by omega : ¬(U.length : Int) > V.length), cond_false, hsb]
          have hl1 : (V.take (V.length - U.length)).length = V.length - U.length := by simp
          have hl2 : (V.drop (V.length - U.length)).length = U.length := by simp; omega
          have := swapRange_eq (lt := lt) U (V.drop (V.length - U.length)) P (V.take (V.length - U.length)) S hl2.symm (by rw [hl1, hl2]; omega)
          rw [hl1] at this
          have e2 : sb (ad (m : Int) (V.length : Int)) (U.length : Int) = ((P.length + U.length + (V.length - U.length) : Nat) : Int) := by rw [ad_eq (by omega) (by omega), sb_eq (by omega) (by omega)]; omega
          have e3 : P ++ U ++ V ++ S = P ++ U ++ V.take (V.length - U.length) ++ V.drop (V.length - U.length) ++ S := by
            have : P ++ U ++ V ++ S = P ++ U ++ (V.take (V.length - U.length) ++ V.drop (V.length - U.length)) ++ S := by rw [List.take_append_drop]
            rw [this]
            simp only [List.append_assoc]
          rw [e2, e3, this, Option.bind_some]
          have e4 : sb (V.length : Int) (U.length : Int) = ((V.take (V.length - U.length)).length : Int) := by rw [sb_eq (by omega) (by omega), hl1]; omega
          have := ih P (V.drop (V.length - U.length)) (V.take (V.length - U.length)) (U ++ S) (by rw [hl1, hl2]; omega) (by intro e; rw [e] at hl2; simp at hl2; omega) (by intro e; rw [e] at hl1; simp at hl1; omega) (by rw [hl2]; omega) (by simp only [List.length_append, hl1, hl2]; omega)
          rw [hl2] at this
          rw [e4]
          simp only [List.append_assoc] at this ⊢
          rw [this]
          rw [show V.take (V.length - U.length) ++ (V.drop (V.length - U.length) ++ (U ++ S)) = V ++ (U ++ S) by rw [← List.append_assoc, List.take_append_drop]]
  have h1 : sb ((P.length + A.length : Nat) : Int) (P.length : Nat) = (A.length : Int) := by rw [sb_eq (by omega) (by omega)]; omega
  have h2 : sb ((P.length + A.length + B.length : Nat) : Int) ((P.length + A.length : Nat) : Int) = (B.length : Int) := by rw [sb_eq (by omega) (by omega)]; omega
  unfold sort_rotate_func
  rw [h1, h2]
  exact key (P.length + A.length) (fun s => sort_rotate_func_b1 lt ((P.length + A.length : Nat) : Int) s.1 s.2.1 s.2.2) (fun _ _ _ => rfl) _ P A B S (Nat.le_refl _) hA hB rfl hN
end
section
variable {γ : Type} (key : γ → Int)
def ltk (x y : γ) : Bool := decide (key x < key y)
theorem insert_eq (P S : List γ) (y : γ) (B : Int × List γ → Option ((Int × List γ) ⊕ (List γ))) (hB : ∀ j l, B (j, l) = sort_insertionSort_func_b2 (ltk key) (P.length : Nat) j l) : ∀ (n : Nat) (U V : List γ), U.length = n → srt key U → P.length + U.length + V.length + S.length ≤ 1152921504606846976 →
    ∃ U1 U2, U = U1 ++ U2 ∧ loopO B (((P.length + U.length : Nat) : Int), P ++ U ++ y :: (V ++ S)) = some (P ++ U1 ++ y :: (U2 ++ V ++ S)) ∧ (∀ v ∈ U2, key y < key v) ∧ ∀ u ∈ U1, key u ≤ key y := by
  intro n
  induction n with
  | zero =>
    intro U V hU _ hN
    have := List.eq_nil_of_length_eq_zero hU
    subst this
    refine ⟨[], [], rfl, ?_, by simp, by simp⟩
    rw [loopO_eq, hB]
    simp only [sort_insertionSort_func_b2]
    rw [decide_eq_false (by simp only [List.length_nil]; omega : ¬((P.length + ([] : List γ).length : Nat) : Int) > (P.length : Nat))]
    simp
  | succ n ih =>
    intro U V hU hs hN
    rcases List.eq_nil_or_concat U with rfl | ⟨U0, z, rfl⟩
    · simp at hU
    · rw [List.concat_eq_append] at hU hs hN ⊢
      simp only [List.length_append, List.length_singleton] at hU hN
      have hl : P.length + (U0 ++ [z]).length = (P ++ U0).length + 1 := by simp; omega
      have e0 : P ++ (U0 ++ [z]) ++ y :: (V ++ S) = (P ++ U0) ++ z :: y :: (V ++ S) := by simp
      have ej : sb (((P ++ U0).length + 1 : Nat) : Int) 1 = ((P ++ U0).length : Nat) := by rw [sb_eq (by simp only [List.length_append]; omega) (by simp only [List.length_append]; omega)]; omega
      have g1 : gi ((P ++ U0) ++ z :: y :: (V ++ S)) (((P ++ U0).length + 1 : Nat) : Int) = some y := by
        have e : (P ++ U0) ++ z :: y :: (V ++ S) = ((P ++ U0) ++ [z]) ++ y :: (V ++ S) := by simp
        have hl' : (P ++ U0).length + 1 = ((P ++ U0) ++ [z]).length := by simp only [List.length_append, List.length_singleton]
        rw [e, hl', gi_app]
      have g2 : gi2 ((P ++ U0) ++ z :: y :: (V ++ S)) (((P ++ U0).length + 1 : Nat) : Int) ((P ++ U0).length : Nat) = some (y, z) := by
        unfold gi2
        rw [g1, Option.bind_some, gi_app]
        rfl
      by_cases hlt : key y < key z
      · obtain ⟨U1, U2, h1, h2, h3, h4⟩ := ih U0 (z :: V) (by omega) (List.pairwise_append.1 hs).1 (by simp only [List.length_cons]; omega)
        refine ⟨U1, U2 ++ [z], by rw [h1]; simp, ?_, ?_, h4⟩
        · rw [loopO_eq, hB]
          simp only [sort_insertionSort_func_b2]
          rw [hl, e0, decide_eq_true (by simp only [List.length_append]; omega : (((P ++ U0).length + 1 : Nat) : Int) > (P.length : Nat)), cond_true, ej, g2]
          simp only [Option.bind_some, ltk]
          rw [decide_eq_true hlt, cond_true, swp_adj, Option.bind_some]
          simp only
          have : P ++ U0 ++ y :: z :: (V ++ S) = P ++ U0 ++ y :: (z :: V ++ S) := by simp
          rw [this, show (P ++ U0).length = P.length + U0.length from List.length_append, h2]
          simp
        · intro v hv
          rcases List.mem_append.1 hv with hv | hv
          · exact h3 v hv
          · rw [List.mem_singleton] at hv
            rw [hv]
            exact hlt
      · refine ⟨U0 ++ [z], [], by simp, ?_, by simp, ?_⟩
        · rw [loopO_eq, hB]
          simp only [sort_insertionSort_func_b2]
          rw [hl, e0, decide_eq_true (by simp only [List.length_append]; omega : (((P ++ U0).length + 1 : Nat) : Int) > (P.length : Nat)), cond_true, ej, g2]
          simp only [Option.bind_some, ltk]
          rw [decide_eq_false hlt, cond_false]
          simp
        · intro u hu
          rcases List.mem_append.1 hu with hu | hu
          · have := (List.pairwise_append.1 hs).2.2 u hu z (by simp)
            omega
          · simp at hu; subst hu; omega
theorem insertionSort_eq (P X S : List γ) (hN : P.length + X.length + S.length ≤ 1152921504606846976) :
    ∃ X', sort_insertionSort_func (ltk key) (P ++ X ++ S) (P.length : Nat) ((P.length + X.length : Nat) : Int) = some (P ++ X' ++ S) ∧ srt key X' ∧ sameK key X X' := by
  have main : ∀ (b : Nat) (B : Int × List γ → Option ((Int × List γ) ⊕ (List γ))), (∀ i l, B (i, l) = sort_insertionSort_func_b1 (ltk key) (P.length : Nat) (b : Int) i l) → ∀ (n : Nat) (U V : List γ), V.length = n → P.length + U.length + V.length = b → srt key U → b + S.length ≤ 1152921504606846976 →
      ∃ X', loopO B (((P.length + U.length : Nat) : Int), P ++ U ++ V ++ S) = some (P ++ X' ++ S) ∧ srt key X' ∧ sameK key (U ++ V) X' := by
    intro b B hB n
    induction n with
    | zero =>
      intro U V hV hb hs hN
      have := List.eq_nil_of_length_eq_zero hV
      subst this
      refine ⟨U, ?_, hs, by rw [List.append_nil]; exact sameK.refl key U⟩
      rw [loopO_eq, hB]
      simp only [sort_insertionSort_func_b1]
      simp only [List.length_nil, Nat.add_zero] at hb
      rw [decide_eq_false (by omega : ¬((P.length + U.length : Nat) : Int) < (b : Int)), cond_false, List.append_nil]
    | succ n ih =>
      intro U V hV hb hs hN
      cases V with
      | nil => simp at hV
      | cons y V =>
        simp only [List.length_cons] at hV hb
        obtain ⟨U1, U2, h1, h2, h3, h4⟩ := insert_eq key P (V ++ S) y (fun s => sort_insertionSort_func_b2 (ltk key) (P.length : Nat) s.1 s.2) (fun _ _ => rfl) U.length U [] rfl hs (by simp only [List.length_append, List.length_nil]; omega)
        have hs' : srt key (U1 ++ y :: U2) := by
          rw [h1] at hs
          obtain ⟨q1, q2, q3⟩ := List.pairwise_append.1 hs
          refine List.pairwise_append.2 ⟨q1, List.pairwise_cons.2 ⟨fun v hv => Int.le_of_lt (h3 v hv), q2⟩, fun u hu v hv => ?_⟩
          rcases List.mem_cons.1 hv with rfl | hv
          · exact h4 u hu
          · exact q3 u hu v hv
        have hk : sameK key (U ++ [y]) (U1 ++ y :: U2) := by
          rw [h1, List.append_assoc]
          have := sameK.swap key (a := U2) (b := [y]) (fun x hx z hz => by simp at hz; subst hz; exact h3 x hx)
          exact sameK.app key (sameK.refl key U1) this
        have hlen : (U1 ++ y :: U2).length = U.length + 1 := by rw [h1]; simp; omega
        obtain ⟨X', r1, r2, r3⟩ := ih (U1 ++ y :: U2) V (by omega) (by rw [hlen]; omega) hs' hN
        refine ⟨X', ?_, r2, ?_⟩
        · rw [loopO_eq, hB]
          simp only [sort_insertionSort_func_b1]
          rw [decide_eq_true (by omega : ((P.length + U.length : Nat) : Int) < (b : Int)), cond_true]
          have e : P ++ U ++ y :: V ++ S = P ++ U ++ y :: ([] ++ (V ++ S)) := by simp
          rw [e, h2, Option.bind_some, ad1 (by omega)]
          simp only
          rw [show P.length + U.length + 1 = P.length + (U1 ++ y :: U2).length by rw [hlen]; omega]
          have e2 : P ++ U1 ++ y :: (U2 ++ [] ++ (V ++ S)) = P ++ (U1 ++ y :: U2) ++ V ++ S := by simp
          rw [e2, r1]
        · refine sameK.trans key ?_ r3
          have e3 : U ++ y :: V = (U ++ [y]) ++ V := by simp
          rw [e3]
          exact sameK.app key hk (sameK.refl key V)
  unfold sort_insertionSort_func
  rw [ad1 (by omega)]
  cases X with
  | nil =>
    refine ⟨[], ?_, List.Pairwise.nil, sameK.refl key _⟩
    rw [loopO_eq]
    simp only [sort_insertionSort_func_b1]
    rw [decide_eq_false (by simp only [List.length_nil]; omega : ¬((P.length + 1 : Nat) : Int) < ((P.length + ([] : List γ).length : Nat) : Int))]
    rfl
  | cons x X =>
    obtain ⟨X', h1, h2, h3⟩ := main (P.length + (x :: X).length) (fun s => sort_insertionSort_func_b1 (ltk key) (P.length : Nat) ((P.length + (x :: X).length : Nat) : Int) s.1 s.2) (fun _ _ => rfl) X.length [x] X rfl (by simp; omega) (List.pairwise_singleton _ _) (by simp only [List.length_cons] at hN ⊢; omega)
    refine ⟨X', ?_, h2, h3⟩
    have e : P ++ x :: X ++ S = P ++ [x] ++ X ++ S := by simp
    rw [e]
    simp only [List.length_singleton] at h1
    rw [h1]
    rfl
end
end Go.TI
namespace Go.TI
open Go
set_option linter.unusedSimpArgs false
set_option linter.unusedVariables false
def midT (i j : Int) : Int := IntKind.i64.wrap (Int.fdiv (IntKind.u64.wrap (ad i j)) (2 ^ (min (1 : Int).toNat IntKind.u64.bits)))
theorem mid_eq (i j : Nat) (h : i + j ≤ 4611686018427387904) : midT (i : Int) (j : Int) = (((i + j) / 2 : Nat) : Int) := by
  unfold midT
  rw [ad_eq (by omega) (by omega)]
  have e1 : IntKind.u64.wrap ((i : Int) + (j : Int)) = ((i + j : Nat) : Int) := by
    have : IntKind.u64.wrap ((i : Int) + (j : Int)) = ((i : Int) + (j : Int)) % 18446744073709551616 := by simp [IntKind.wrap, IntKind.bits, IntKind.signed]
    rw [this]
    omega
  have e2 : (2 : Int) ^ (min (1 : Int).toNat IntKind.u64.bits) = 2 := by decide
  rw [e1, e2, Int.fdiv_eq_ediv_of_nonneg _ (by omega), wr64 (by omega) (by omega)]
  omega
theorem bs_loop {B : Int × Int → Option ((Int × Int) ⊕ Int)} (p : Nat → Bool) (lo hi : Nat) (h1 : ∀ i j : Nat, lo ≤ i → i < j → j ≤ hi → B ((i : Int), (j : Int)) = some (.inl (bif p ((i + j) / 2) then ((((i + j) / 2 + 1 : Nat) : Int), (j : Int)) else ((i : Int), (((i + j) / 2 : Nat) : Int))))) (h2 : ∀ i : Nat, B ((i : Int), (i : Int)) = some (.inr (i : Int))) :
    ∀ (n i j : Nat), j - i ≤ n → lo ≤ i → i ≤ j → j ≤ hi → (lo < i → p (i - 1) = true) → (j < hi → p j = false) → ∃ r : Nat, loopO B ((i : Int), (j : Int)) = some (r : Int) ∧ lo ≤ r ∧ r ≤ hi ∧ (lo < r → p (r - 1) = true) ∧ (r < hi → p r = false) := by
  intro n
  induction n with
  | zero =>
    intro i j hn hl hij hh k1 k2
    have : i = j := by omega
    subst this
    exact ⟨i, by rw [loopO_eq, h2], hl, hh, k1, k2⟩
  | succ n ih =>
    intro i j hn hl hij hh k1 k2
    by_cases he : i = j
    · subst he
      exact ⟨i, by rw [loopO_eq, h2], hl, hh, k1, k2⟩
    · rw [loopO_eq, h1 i j hl (by omega) hh]
      cases hp : p ((i + j) / 2) with
      | true =>
        exact ih ((i + j) / 2 + 1) j (by omega) (by omega) (by omega) hh (fun _ => by rw [Nat.add_sub_cancel]; exact hp) k2
      | false =>
        exact ih i ((i + j) / 2) (by omega) hl (by omega) (by omega) k1 (fun _ => hp)
section
variable {γ : Type} (key : γ → Int)
theorem gi_mid (P X T : List γ) (k : Nat) (hk : k < X.length) : gi (P ++ X ++ T) ((P.length + k : Nat) : Int) = some X[k] := by
  rw [gi_nat, List.append_assoc, List.getElem?_append_right (by omega), Nat.add_sub_cancel_left, List.getElem?_append_left hk, List.getElem?_eq_getElem hk]
theorem srt_take {X : List γ} (h : srt key X) {r : Nat} (h0 : 0 < r) (hr : r ≤ X.length) : ∀ u ∈ X.take r, key u ≤ key (X[r - 1]'(by omega)) := by
  intro u hu
  obtain ⟨i, hi, e⟩ := List.getElem_of_mem hu
  rw [List.getElem_take] at e
  simp only [List.length_take] at hi
  rw [← e]
  by_cases hir : i = r - 1
  · subst hir; exact Int.le_refl _
  · exact List.pairwise_iff_getElem.1 h i (r - 1) (by omega) (by omega) (by omega)
theorem srt_drop {X : List γ} (h : srt key X) {r : Nat} (hr : r < X.length) : ∀ v ∈ X.drop r, key X[r] ≤ key v := by
  intro v hv
  obtain ⟨i, hi, e⟩ := List.getElem_of_mem hv
  rw [List.getElem_drop] at e
  simp only [List.length_drop] at hi
  rw [← e]
  by_cases hi0 : i = 0
  · subst hi0; simp
  · exact List.pairwise_iff_getElem.1 h r (r + i) (by omega) (by omega) (by omega)
theorem right_eq (S : List γ) (x : γ) (v2 : Nat) (B : Int × List γ → Option ((Int × List γ) ⊕ (List γ))) (hB : ∀ k l, B (k, l) = sort_symMerge_func_b2 (ltk key) (v2 : Int) k l) : ∀ (Y P : List γ), P.length + Y.length + 1 = v2 → v2 ≤ 1152921504606846976 →
    loopO B ((P.length : Int), P ++ x :: (Y ++ S)) = some (P ++ Y ++ x :: S) := by
  intro Y
  induction Y with
  | nil =>
    intro P h hN
    rw [loopO_eq, hB]
    simp only [sort_symMerge_func_b2]
    simp only [List.length_nil] at h
    rw [sb_eq (by omega) (by omega), decide_eq_false (by omega : ¬(P.length : Int) < (v2 : Int) - 1)]
    simp
  | cons y Y ih =>
    intro P h hN
    simp only [List.length_cons] at h
    rw [loopO_eq, hB]
    simp only [sort_symMerge_func_b2]
    rw [sb_eq (by omega) (by omega), decide_eq_true (by omega : (P.length : Int) < (v2 : Int) - 1), cond_true, ad1 (by omega), List.cons_append, swp_adj2, Option.bind_some]
    simp only
    have := ih (P ++ [y]) (by simp; omega) hN
    simp only [List.length_append, List.length_singleton, List.append_assoc, List.singleton_append] at this
    rw [this]
    simp
theorem left_eq (P S : List γ) (y : γ) (B : Int × List γ → Option ((Int × List γ) ⊕ (List γ))) (hB : ∀ k l, B (k, l) = sort_symMerge_func_b4 (ltk key) (P.length : Int) k l) : ∀ (n : Nat) (X S : List γ), X.length = n → P.length + X.length ≤ 1152921504606846976 →
    loopO B (((P.length + X.length : Nat) : Int), P ++ X ++ y :: S) = some (P ++ y :: (X ++ S)) := by
  intro n
  induction n with
  | zero =>
    intro X S hX hN
    have := List.eq_nil_of_length_eq_zero hX
    subst this
    rw [loopO_eq, hB]
    simp only [sort_symMerge_func_b4]
    rw [decide_eq_false (by simp only [List.length_nil]; omega : ¬((P.length + ([] : List γ).length : Nat) : Int) > (P.length : Int))]
    simp
  | succ n ih =>
    intro X S hX hN
    rcases List.eq_nil_or_concat X with rfl | ⟨X0, z, rfl⟩
    · simp at hX
    · rw [List.concat_eq_append] at hX hN ⊢
      simp only [List.length_append, List.length_singleton] at hX hN
      have hl : P.length + (X0 ++ [z]).length = (P ++ X0).length + 1 := by simp; omega
      have e0 : P ++ (X0 ++ [z]) ++ y :: S = (P ++ X0) ++ z :: y :: S := by simp
      have ej : sb (((P ++ X0).length + 1 : Nat) : Int) 1 = ((P ++ X0).length : Nat) := by rw [sb_eq (by simp only [List.length_append]; omega) (by simp only [List.length_append]; omega)]; omega
      rw [loopO_eq, hB]
      simp only [sort_symMerge_func_b4]
      rw [hl, e0, decide_eq_true (by simp only [List.length_append]; omega : (((P ++ X0).length + 1 : Nat) : Int) > (P.length : Int)), cond_true, ej, swp_adj, Option.bind_some]
      simp only
      rw [show (P ++ X0).length = P.length + X0.length from List.length_append, ih X0 (z :: S) (by omega) (by omega)]
      simp
set_option maxHeartbeats 1000000 in
theorem symMerge_eq : ∀ (n : Nat) (P X Y S : List γ), X ≠ [] → Y ≠ [] → srt key X → srt key Y → X.length + Y.length ≤ n → P.length + X.length + Y.length + S.length ≤ 1152921504606846976 →
    ∃ Z, sort_symMerge_func (ltk key) n (P ++ X ++ Y ++ S) (P.length : Nat) ((P.length + X.length : Nat) : Int) ((P.length + X.length + Y.length : Nat) : Int) = some (P ++ Z ++ S) ∧ srt key Z ∧ sameK key (X ++ Y) Z := by
  intro n
  induction n with
  | zero =>
    intro P X Y S hX hY _ _ hn _
    exact absurd (List.eq_nil_of_length_eq_zero (by omega)) hX
  | succ n ih =>
    intro P X Y S hX hY sX sY hn hN
    have lX := List.length_pos_iff.2 hX
    have lY := List.length_pos_iff.2 hY
    have eXA : sb ((P.length + X.length : Nat) : Int) (P.length : Nat) = (X.length : Int) := by rw [sb_eq (by omega) (by omega)]; omega
    have eYB : sb ((P.length + X.length + Y.length : Nat) : Int) ((P.length + X.length : Nat) : Int) = (Y.length : Int) := by rw [sb_eq (by omega) (by omega)]; omega
    rw [sort_symMerge_func, eXA, eYB]
    by_cases hX1 : X.length = 1
    · obtain ⟨x, rfl⟩ := List.length_eq_one_iff.1 hX1
      have : (((([x] : List γ).length : Nat) : Int) == 1) = true := rfl
      rw [this, cond_true]
      simp only [List.length_singleton] at hn hN ⊢
      obtain ⟨r, r1, r2, r3, r4, r5⟩ := bs_loop (B := fun s : Int × Int => sort_symMerge_func_b1 (ltk key) (P ++ [x] ++ Y ++ S) (P.length : Nat) s.1 s.2) (fun c => match Y[c - (P.length + 1)]? with | some y => decide (key y < key x) | none => false) (P.length + 1) (P.length + 1 + Y.length)
        (fun i j hi hij hj => by
          simp only [sort_symMerge_func_b1]
          rw [decide_eq_true (by omega : (i : Int) < j), cond_true]
          have hm : midT (i : Int) (j : Int) = (((i + j) / 2 : Nat) : Int) := mid_eq i j (by omega)
          unfold midT at hm
          rw [hm]
          have hk : (i + j) / 2 - (P.length + 1) < Y.length := by omega
          have g1 : gi (P ++ [x] ++ Y ++ S) (((i + j) / 2 : Nat) : Int) = some Y[(i + j) / 2 - (P.length + 1)] := by
            have := gi_mid (P ++ [x]) Y S ((i + j) / 2 - (P.length + 1)) hk
            rw [show (P ++ [x]).length + ((i + j) / 2 - (P.length + 1)) = (i + j) / 2 by simp; omega] at this
            exact this
          have g2 : gi (P ++ [x] ++ Y ++ S) (P.length : Nat) = some x := by
            have := gi_app P (Y ++ S) x
            simpa using this
          unfold gi2
          rw [g1, Option.bind_some, g2, Option.bind_some, Option.bind_some, List.getElem?_eq_getElem hk]
          simp only [ltk]
          cases decide (key Y[(i + j) / 2 - (P.length + 1)] < key x)
          · rfl
          · simp only [cond_true]; rw [ad1 (by omega)])
        (fun i => by
          simp only [sort_symMerge_func_b1]
          rw [decide_eq_false (by omega : ¬(i : Int) < i), cond_false])
        (Y.length) (P.length + 1) (P.length + 1 + Y.length) (by omega) (Nat.le_refl _) (by omega) (Nat.le_refl _) (fun h => absurd h (by omega)) (fun h => absurd h (by omega))
      rw [r1, Option.bind_some]
      have hY1 : Y.take (r - (P.length + 1)) ++ Y.drop (r - (P.length + 1)) = Y := List.take_append_drop _ _
      have hl1 : (Y.take (r - (P.length + 1))).length = r - (P.length + 1) := by simp; omega
      have hlt : ∀ y ∈ Y.take (r - (P.length + 1)), key y < key x := by
        intro y hy
        have h0 : 0 < r - (P.length + 1) := by
          rcases Nat.eq_zero_or_pos (r - (P.length + 1)) with e | e
          · rw [e] at hy; simp at hy
          · exact e
        have := srt_take key sY h0 (by omega) y hy
        have hp := r4 (by omega)
        rw [show r - 1 - (P.length + 1) = r - (P.length + 1) - 1 by omega, List.getElem?_eq_getElem (by omega)] at hp
        simp only [decide_eq_true_eq] at hp
        omega
      have hge : ∀ y ∈ Y.drop (r - (P.length + 1)), key x ≤ key y := by
        intro y hy
        have h0 : r - (P.length + 1) < Y.length := by
          rcases Nat.lt_or_ge (r - (P.length + 1)) Y.length with e | e
          · exact e
          · rw [List.drop_eq_nil_of_le e] at hy; simp at hy
        have := srt_drop key sY h0 y hy
        have hp := r5 (by omega)
        rw [List.getElem?_eq_getElem h0] at hp
        simp only [decide_eq_false_iff_not] at hp
        omega
      have hm := right_eq key (Y.drop (r - (P.length + 1)) ++ S) x r (fun s => sort_symMerge_func_b2 (ltk key) (r : Int) s.1 s.2) (fun _ _ => rfl) (Y.take (r - (P.length + 1))) P (by omega) (by omega)
      have e : P ++ [x] ++ Y ++ S = P ++ x :: (Y.take (r - (P.length + 1)) ++ (Y.drop (r - (P.length + 1)) ++ S)) := by
        rw [← List.append_assoc (Y.take _), hY1]; simp
      rw [e, hm, Option.bind_some]
      refine ⟨Y.take (r - (P.length + 1)) ++ x :: Y.drop (r - (P.length + 1)), by simp, ?_, ?_⟩
      · have sY' := sY
        rw [← hY1] at sY'
        obtain ⟨q1, q2, q3⟩ := List.pairwise_append.1 sY'
        refine List.pairwise_append.2 ⟨q1, List.pairwise_cons.2 ⟨hge, q2⟩, fun u hu v hv => ?_⟩
        rcases List.mem_cons.1 hv with rfl | hv
        · exact Int.le_of_lt (hlt u hu)
        · exact q3 u hu v hv
      · have := sameK.swap key (a := [x]) (b := Y.take (r - (P.length + 1))) (fun u hu y hy => by simp at hu; subst hu; exact hlt y hy)
        have := sameK.app key this (sameK.refl key (Y.drop (r - (P.length + 1))))
        rw [List.append_assoc, hY1, List.append_assoc] at this
        exact this
    · have : ((X.length : Int) == 1) = false := by simpa using (by omega : ¬(X.length : Int) = 1)
      rw [this, cond_false]
      by_cases hY1 : Y.length = 1
      · obtain ⟨y, rfl⟩ := List.length_eq_one_iff.1 hY1
        have : (((([y] : List γ).length : Nat) : Int) == 1) = true := rfl
        rw [this, cond_true]
        simp only [List.length_singleton] at hn hN ⊢
        have gY : gi (P ++ X ++ [y] ++ S) ((P.length + X.length : Nat) : Int) = some y := by
          have := gi_app (P ++ X) S y
          rw [List.length_append] at this
          simpa using this
        obtain ⟨r, r1, r2, r3, r4, r5⟩ := bs_loop (B := fun s : Int × Int => sort_symMerge_func_b3 (ltk key) (P ++ X ++ [y] ++ S) ((P.length + X.length : Nat) : Int) s.1 s.2) (fun c => match X[c - P.length]? with | some x => !decide (key y < key x) | none => false) P.length (P.length + X.length)
          (fun i j hi hij hj => by
            simp only [sort_symMerge_func_b3]
            rw [decide_eq_true (by omega : (i : Int) < j), cond_true]
            have hm : midT (i : Int) (j : Int) = (((i + j) / 2 : Nat) : Int) := mid_eq i j (by omega)
            unfold midT at hm
            rw [hm]
            have hk : (i + j) / 2 - P.length < X.length := by omega
            have g1 : gi (P ++ X ++ [y] ++ S) (((i + j) / 2 : Nat) : Int) = some X[(i + j) / 2 - P.length] := by
              have := gi_mid P X ([y] ++ S) ((i + j) / 2 - P.length) hk
              rw [show P.length + ((i + j) / 2 - P.length) = (i + j) / 2 by omega] at this
              rw [List.append_assoc]
              exact this
            unfold gi2
            rw [gY, Option.bind_some, g1, Option.bind_some, Option.bind_some, List.getElem?_eq_getElem hk]
            simp only [ltk]
            cases decide (key y < key X[(i + j) / 2 - P.length])
            · simp only [Bool.not_false, cond_true]; rw [ad1 (by omega)]
            · rfl)
          (fun i => by
            simp only [sort_symMerge_func_b3]
            rw [decide_eq_false (by omega : ¬(i : Int) < i), cond_false])
          (X.length) P.length (P.length + X.length) (by omega) (Nat.le_refl _) (by omega) (Nat.le_refl _) (fun h => absurd h (by omega)) (fun h => absurd h (by omega))
        rw [r1, Option.bind_some]
        have hX1' : X.take (r - P.length) ++ X.drop (r - P.length) = X := List.take_append_drop _ _
        have hl1 : (X.take (r - P.length)).length = r - P.length := by simp; omega
        have hl2 : (X.drop (r - P.length)).length = X.length - (r - P.length) := by simp
        have hle : ∀ x ∈ X.take (r - P.length), key x ≤ key y := by
          intro x hx
          have h0 : 0 < r - P.length := by
            rcases Nat.eq_zero_or_pos (r - P.length) with e | e
            · rw [e] at hx; simp at hx
            · exact e
          have := srt_take key sX h0 (by omega) x hx
          have hp := r4 (by omega)
          rw [show r - 1 - P.length = r - P.length - 1 by omega, List.getElem?_eq_getElem (by omega)] at hp
          simp only [Bool.not_eq_true', decide_eq_false_iff_not] at hp
          omega
        have hgt : ∀ x ∈ X.drop (r - P.length), key y < key x := by
          intro x hx
          have h0 : r - P.length < X.length := by
            rcases Nat.lt_or_ge (r - P.length) X.length with e | e
            · exact e
            · rw [List.drop_eq_nil_of_le e] at hx; simp at hx
          have := srt_drop key sX h0 x hx
          have hp := r5 (by omega)
          rw [List.getElem?_eq_getElem h0] at hp
          simp only [Bool.not_eq_false', decide_eq_true_eq] at hp
          omega
        have hlp : (P ++ X.take (r - P.length)).length = r := by rw [List.length_append, hl1]; omega
        have hm := left_eq key (P ++ X.take (r - P.length)) S y (fun s => sort_symMerge_func_b4 (ltk key) (r : Int) s.1 s.2) (fun _ _ => by rw [hlp]) (X.drop (r - P.length)).length (X.drop (r - P.length)) S rfl (by rw [hlp, hl2]; omega)
        have e : P ++ X ++ [y] ++ S = P ++ X.take (r - P.length) ++ X.drop (r - P.length) ++ y :: S := by
          have : P ++ X ++ [y] ++ S = P ++ (X.take (r - P.length) ++ X.drop (r - P.length)) ++ [y] ++ S := by rw [hX1']
          rw [this]; simp
        rw [hlp, hl2, show r + (X.length - (r - P.length)) = P.length + X.length by omega] at hm
        rw [e, hm, Option.bind_some]
        refine ⟨X.take (r - P.length) ++ y :: X.drop (r - P.length), by simp, ?_, ?_⟩
        · have sX' := sX
          rw [← hX1'] at sX'
          obtain ⟨q1, q2, q3⟩ := List.pairwise_append.1 sX'
          refine List.pairwise_append.2 ⟨q1, List.pairwise_cons.2 ⟨fun v hv => Int.le_of_lt (hgt v hv), q2⟩, fun u hu v hv => ?_⟩
          rcases List.mem_cons.1 hv with rfl | hv
          · exact hle u hu
          · exact q3 u hu v hv
        · have := sameK.swap key (a := X.drop (r - P.length)) (b := [y]) (fun u hu v hv => by simp at hv; subst hv; exact hgt u hu)
          have := sameK.app key (sameK.refl key (X.take (r - P.length))) this
          rw [← List.append_assoc, hX1'] at this
          exact this
      · have : ((Y.length : Int) == 1) = false := by simpa using (by omega : ¬(Y.length : Int) = 1)
        rw [this, cond_false]
        have hmid : midT (P.length : Nat) ((P.length + X.length + Y.length : Nat) : Int) = (((P.length + (P.length + X.length + Y.length)) / 2 : Nat) : Int) := mid_eq _ _ (by omega)
        unfold midT at hmid
        rw [hmid]
        obtain ⟨mid, hmd⟩ : ∃ mid, mid = (P.length + (P.length + X.length + Y.length)) / 2 := ⟨_, rfl⟩
        rw [← hmd]
        have en : ad (mid : Int) ((P.length + X.length : Nat) : Int) = ((mid + (P.length + X.length) : Nat) : Int) := by rw [ad_eq (by omega) (by omega)]; omega
        rw [en]
        -- where to begin
        obtain ⟨lo, hi, hj1, hlo, hhi, hlohi, hlohi2⟩ : ∃ lo hi : Nat, ((bif decide (((P.length + X.length : Nat) : Int) > (mid : Int)) then (some ((sb ((mid + (P.length + X.length) : Nat) : Int) ((P.length + X.length + Y.length : Nat) : Int)), (mid : Int))) else (some (((P.length : Nat) : Int), ((P.length + X.length : Nat) : Int))) : Option (Int × Int)) = some ((lo : Int), (hi : Int))) ∧
            P.length ≤ lo ∧ hi ≤ P.length + X.length ∧ lo ≤ hi ∧ (P.length + X.length > mid ∧ lo = mid + (P.length + X.length) - (P.length + X.length + Y.length) ∧ hi = mid ∨ P.length + X.length ≤ mid ∧ lo = P.length ∧ hi = P.length + X.length) := by
          by_cases hgt : P.length + X.length > mid
          · refine ⟨mid + (P.length + X.length) - (P.length + X.length + Y.length), mid, ?_, by omega, by omega, by omega, .inl ⟨hgt, rfl, rfl⟩⟩
            rw [decide_eq_true (by omega), cond_true, sb_eq (by omega) (by omega)]
            congr 2
            omega
          · exact ⟨P.length, P.length + X.length, by rw [decide_eq_false (by omega), cond_false], by omega, by omega, by omega, .inr ⟨by omega, rfl, rfl⟩⟩
        rw [hj1, Option.bind_some]
        simp only
        have hpI : sb ((mid + (P.length + X.length) : Nat) : Int) 1 = ((mid + (P.length + X.length) - 1 : Nat) : Int) := by rw [sb_eq (by omega) (by omega)]; omega
        obtain ⟨r, r1, r2, r3, r4, r5⟩ := bs_loop (B := fun s : Int × Int => sort_symMerge_func_b5 (ltk key) (P ++ X ++ Y ++ S) (P.length : Nat) ((P.length + X.length : Nat) : Int) ((P.length + X.length + Y.length : Nat) : Int) s.1 s.2)
          (fun c => match Y[mid + (P.length + X.length) - 1 - c - (P.length + X.length)]?, X[c - P.length]? with | some y, some x => !decide (key y < key x) | _, _ => false) lo hi
          (fun i j hi' hij hj => by
            simp only [sort_symMerge_func_b5]
            rw [decide_eq_true (by omega : (i : Int) < j), cond_true, hmid, ← hmd, en, hpI]
            have hm : midT (i : Int) (j : Int) = (((i + j) / 2 : Nat) : Int) := mid_eq i j (by omega)
            unfold midT at hm
            rw [hm]
            have hk : (i + j) / 2 - P.length < X.length := by omega
            have hky : mid + (P.length + X.length) - 1 - (i + j) / 2 - (P.length + X.length) < Y.length := by omega
            have g1 : gi (P ++ X ++ Y ++ S) (((i + j) / 2 : Nat) : Int) = some X[(i + j) / 2 - P.length] := by
              have := gi_mid P X (Y ++ S) ((i + j) / 2 - P.length) hk
              rw [show P.length + ((i + j) / 2 - P.length) = (i + j) / 2 by omega] at this
              rw [List.append_assoc]
              exact this
            have es : sb ((mid + (P.length + X.length) - 1 : Nat) : Int) (((i + j) / 2 : Nat) : Int) = (((P ++ X).length + (mid + (P.length + X.length) - 1 - (i + j) / 2 - (P.length + X.length)) : Nat) : Int) := by
              rw [sb_eq (by omega) (by omega), List.length_append]; omega
            have g2 : gi (P ++ X ++ Y ++ S) (((P ++ X).length + (mid + (P.length + X.length) - 1 - (i + j) / 2 - (P.length + X.length)) : Nat) : Int) = some Y[mid + (P.length + X.length) - 1 - (i + j) / 2 - (P.length + X.length)] := gi_mid (P ++ X) Y S _ hky
            unfold gi2
            rw [es, g2, Option.bind_some, g1, Option.bind_some, Option.bind_some, List.getElem?_eq_getElem hk, List.getElem?_eq_getElem hky]
            simp only [ltk]
            cases decide (key Y[mid + (P.length + X.length) - 1 - (i + j) / 2 - (P.length + X.length)] < key X[(i + j) / 2 - P.length])
            · simp only [Bool.not_false, cond_true]; rw [ad1 (by omega)]
            · rfl)
          (fun i => by
            simp only [sort_symMerge_func_b5]
            rw [decide_eq_false (by omega : ¬(i : Int) < i), cond_false])
          (hi - lo) lo hi (Nat.le_refl _) (Nat.le_refl _) hlohi (Nat.le_refl _) (fun h => absurd h (by omega)) (fun h => absurd h (by omega))
        rw [r1, Option.bind_some]
        obtain ⟨fin, hfin⟩ : ∃ fin, fin = mid + (P.length + X.length) - r := ⟨_, rfl⟩
        have hend : sb ((mid + (P.length + X.length) : Nat) : Int) (r : Int) = (fin : Int) := by rw [sb_eq (by omega) (by omega)]; omega
        simp only [hend]
        have hfb : P.length + X.length ≤ fin ∧ fin ≤ P.length + X.length + Y.length := by omega
        -- the four parts
        obtain ⟨A1, A2, hA⟩ : ∃ A1 A2, A1 = X.take (r - P.length) ∧ A2 = X.drop (r - P.length) := ⟨_, _, rfl, rfl⟩
        obtain ⟨B1, B2, hB⟩ : ∃ B1 B2, B1 = Y.take (fin - (P.length + X.length)) ∧ B2 = Y.drop (fin - (P.length + X.length)) := ⟨_, _, rfl, rfl⟩
        have hXs : A1 ++ A2 = X := by rw [hA.1, hA.2]; exact List.take_append_drop _ _
        have hYs : B1 ++ B2 = Y := by rw [hB.1, hB.2]; exact List.take_append_drop _ _
        have lA1 : A1.length = r - P.length := by rw [hA.1]; simp; omega
        have lA2 : A2.length = P.length + X.length - r := by rw [hA.2]; simp; omega
        have lB1 : B1.length = fin - (P.length + X.length) := by rw [hB.1]; simp; omega
        have lB2 : B2.length = P.length + X.length + Y.length - fin := by rw [hB.2]; simp; omega
        have sX' := sX
        rw [← hXs] at sX'
        obtain ⟨sA1, sA2, sA⟩ := List.pairwise_append.1 sX'
        have sY' := sY
        rw [← hYs] at sY'
        obtain ⟨sB1, sB2, sB⟩ := List.pairwise_append.1 sY'
        have hAB : ∀ u ∈ A1, ∀ v ∈ B2, key u ≤ key v := by
          intro u hu v hv
          have l1 := List.length_pos_of_mem hu
          have l2 := List.length_pos_of_mem hv
          have hp := r4 (by omega)
          have hky : mid + (P.length + X.length) - 1 - (r - 1) - (P.length + X.length) < Y.length := by omega
          have hkx : r - 1 - P.length < X.length := by omega
          rw [List.getElem?_eq_getElem hky, List.getElem?_eq_getElem hkx] at hp
          simp only [Bool.not_eq_true', decide_eq_false_iff_not] at hp
          rw [hA.1] at hu
          have k1 := srt_take key sX (r := r - P.length) (by omega) (by omega) u hu
          rw [hB.2] at hv
          have k2 := srt_drop key sY (r := fin - (P.length + X.length)) (by omega) v hv
          have i1 : X[r - P.length - 1]'(by omega) = X[r - 1 - P.length]'hkx := by congr 1; omega
          have i2 : Y[fin - (P.length + X.length)]'(by omega) = Y[mid + (P.length + X.length) - 1 - (r - 1) - (P.length + X.length)]'hky := by congr 1; omega
          rw [i1] at k1
          rw [i2] at k2
          omega
        have hBA : ∀ x ∈ A2, ∀ y ∈ B1, key y < key x := by
          intro x hx y hy
          have l1 := List.length_pos_of_mem hx
          have l2 := List.length_pos_of_mem hy
          have hp := r5 (by omega)
          have hky : mid + (P.length + X.length) - 1 - r - (P.length + X.length) < Y.length := by omega
          have hkx : r - P.length < X.length := by omega
          rw [List.getElem?_eq_getElem hky, List.getElem?_eq_getElem hkx] at hp
          simp only [Bool.not_eq_false', decide_eq_true_eq] at hp
          rw [hA.2] at hx
          have k1 := srt_drop key sX hkx x hx
          rw [hB.1] at hy
          have k2 := srt_take key sY (r := fin - (P.length + X.length)) (by omega) (by omega) y hy
          have i2 : Y[fin - (P.length + X.length) - 1]'(by omega) = Y[mid + (P.length + X.length) - 1 - r - (P.length + X.length)]'hky := by congr 1; omega
          rw [i2] at k2
          omega
        -- the turn
        have hrot : (((bif decide ((r : Int) < ((P.length + X.length : Nat) : Int)) then some (decide (((P.length + X.length : Nat) : Int) < (fin : Int))) else some false : Option Bool).bind fun j2 =>
            (bif j2 then ((sort_rotate_func (ltk key) (P ++ X ++ Y ++ S) (r : Int) ((P.length + X.length : Nat) : Int) (fin : Int)).bind fun v11 => some v11) else some (P ++ X ++ Y ++ S) : Option (List γ)))) = some (P ++ A1 ++ B1 ++ A2 ++ B2 ++ S) := by
          have e : P ++ X ++ Y ++ S = (P ++ A1) ++ A2 ++ B1 ++ (B2 ++ S) := by rw [← hXs, ← hYs]; simp
          by_cases c1 : r < P.length + X.length
          · rw [decide_eq_true (by omega : (r : Int) < ((P.length + X.length : Nat) : Int)), cond_true, Option.bind_some]
            by_cases c2 : P.length + X.length < fin
            · rw [decide_eq_true (by omega : ((P.length + X.length : Nat) : Int) < (fin : Int)), cond_true]
              have hr := rotate_eq (lt := ltk key) (P ++ A1) A2 B1 (B2 ++ S) (by intro e; rw [e] at lA2; simp at lA2; omega) (by intro e; rw [e] at lB1; simp at lB1; omega) (by simp only [List.length_append]; omega)
              rw [show (P ++ A1).length = r by rw [List.length_append]; omega] at hr
              rw [show r + A2.length = P.length + X.length by omega, show P.length + X.length + B1.length = fin by omega] at hr
              rw [e, hr, Option.bind_some]
              simp
            · rw [decide_eq_false (by omega : ¬((P.length + X.length : Nat) : Int) < (fin : Int)), cond_false, e]
              have : B1 = [] := List.eq_nil_of_length_eq_zero (by omega)
              rw [this]; simp
          · rw [decide_eq_false (by omega : ¬(r : Int) < ((P.length + X.length : Nat) : Int)), cond_false, Option.bind_some, cond_false, e]
            have : A2 = [] := List.eq_nil_of_length_eq_zero (by omega)
            rw [this]; simp
        rw [← Option.bind_assoc, hrot, Option.bind_some]
        -- the first half
        have hone : ∃ Z1, (((bif decide (((P.length : Nat) : Int) < (r : Int)) then some (decide ((r : Int) < (mid : Int))) else some false : Option Bool).bind fun j4 =>
            (bif j4 then ((sort_symMerge_func (ltk key) n (P ++ A1 ++ B1 ++ A2 ++ B2 ++ S) (P.length : Nat) (r : Int) (mid : Int)).bind fun v12 => some v12) else some (P ++ A1 ++ B1 ++ A2 ++ B2 ++ S) : Option (List γ)))) = some (P ++ Z1 ++ A2 ++ B2 ++ S) ∧ srt key Z1 ∧ sameK key (A1 ++ B1) Z1 := by
          by_cases c1 : P.length < r ∧ r < mid
          · rw [decide_eq_true (by omega : ((P.length : Nat) : Int) < (r : Int)), cond_true, Option.bind_some, decide_eq_true (by omega : (r : Int) < (mid : Int)), cond_true]
            obtain ⟨Z, z1, z2, z3⟩ := ih P A1 B1 (A2 ++ B2 ++ S) (by intro e; rw [e] at lA1; simp at lA1; omega) (by intro e; rw [e] at lB1; simp at lB1; omega) sA1 sB1 (by omega) (by simp only [List.length_append]; omega)
            rw [show P.length + A1.length = r by omega, show r + B1.length = mid by omega] at z1
            refine ⟨Z, ?_, z2, z3⟩
            simp only [List.append_assoc] at z1 ⊢
            rw [z1]
            rfl
          · refine ⟨A1 ++ B1, ?_, ?_, sameK.refl key _⟩
            · have : ((bif decide (((P.length : Nat) : Int) < (r : Int)) then some (decide ((r : Int) < (mid : Int))) else some false : Option Bool)) = some false := by
                by_cases c : P.length < r
                · rw [decide_eq_true (by omega), cond_true, decide_eq_false (by omega)]
                · rw [decide_eq_false (by omega), cond_false]
              rw [this, Option.bind_some, cond_false]
              simp
            · by_cases c : P.length < r
              · have : B1 = [] := List.eq_nil_of_length_eq_zero (by omega)
                rw [this, List.append_nil]; exact sA1
              · have : A1 = [] := List.eq_nil_of_length_eq_zero (by omega)
                rw [this, List.nil_append]; exact sB1
        obtain ⟨Z1, hz1, hz2, hz3⟩ := hone
        rw [← Option.bind_assoc, hz1, Option.bind_some]
        have lZ1 : Z1.length = A1.length + B1.length := by have := hz3.len key; rw [List.length_append] at this; omega
        -- the second half
        have htwo : ∃ Z2, (bif decide ((mid : Int) < (fin : Int)) then (bif decide ((fin : Int) < ((P.length + X.length + Y.length : Nat) : Int)) then ((sort_symMerge_func (ltk key) n (P ++ Z1 ++ A2 ++ B2 ++ S) (mid : Int) (fin : Int) ((P.length + X.length + Y.length : Nat) : Int)).bind fun v13 => some v13) else some (P ++ Z1 ++ A2 ++ B2 ++ S)) else some (P ++ Z1 ++ A2 ++ B2 ++ S) : Option (List γ)) = some (P ++ Z1 ++ Z2 ++ S) ∧ srt key Z2 ∧ sameK key (A2 ++ B2) Z2 := by
          by_cases c1 : mid < fin
          · rw [decide_eq_true (by omega : (mid : Int) < (fin : Int)), cond_true]
            by_cases c2 : fin < P.length + X.length + Y.length
            · rw [decide_eq_true (by omega : (fin : Int) < ((P.length + X.length + Y.length : Nat) : Int)), cond_true]
              obtain ⟨Z, z1, z2, z3⟩ := ih (P ++ Z1) A2 B2 S (by intro e; rw [e] at lA2; simp at lA2; omega) (by intro e; rw [e] at lB2; simp at lB2; omega) sA2 sB2 (by omega) (by simp only [List.length_append]; omega)
              rw [show (P ++ Z1).length = mid by rw [List.length_append]; omega, show mid + A2.length = fin by omega, show fin + B2.length = P.length + X.length + Y.length by omega] at z1
              exact ⟨Z, by rw [z1]; rfl, z2, z3⟩
            · rw [decide_eq_false (by omega : ¬(fin : Int) < ((P.length + X.length + Y.length : Nat) : Int)), cond_false]
              have : B2 = [] := List.eq_nil_of_length_eq_zero (by omega)
              refine ⟨A2 ++ B2, by simp, ?_, sameK.refl key _⟩
              rw [this, List.append_nil]; exact sA2
          · rw [decide_eq_false (by omega : ¬(mid : Int) < (fin : Int)), cond_false]
            have : A2 = [] := List.eq_nil_of_length_eq_zero (by omega)
            refine ⟨A2 ++ B2, by simp, ?_, sameK.refl key _⟩
            rw [this, List.nil_append]; exact sB2
        obtain ⟨Z2, hw1, hw2, hw3⟩ := htwo
        rw [hw1]
        refine ⟨Z1 ++ Z2, by simp, List.pairwise_append.2 ⟨hz2, hw2, fun u hu v hv => ?_⟩, ?_⟩
        · have hu' := (hz3.mem key).1 hu
          have hv' := (hw3.mem key).1 hv
          rcases List.mem_append.1 hu' with hu' | hu' <;> rcases List.mem_append.1 hv' with hv' | hv'
          · exact sA u hu' v hv'
          · exact hAB u hu' v hv'
          · exact Int.le_of_lt (hBA v hv' u hu')
          · exact sB u hu' v hv'
        · have e1 := sameK.app key (sameK.refl key A1) (sameK.app key (sameK.swap key hBA) (sameK.refl key B2))
          have e2 := sameK.app key hz3 hw3
          have e3 := sameK.trans key (by simpa using e1) (by simpa using e2)
          have : X ++ Y = A1 ++ (A2 ++ (B1 ++ B2)) := by rw [← hXs, ← hYs]; simp
          rw [this]
          simpa using e3
end
end Go.TI
namespace Go.TI
open Go
set_option linter.unusedSimpArgs false
set_option linter.unusedVariables false
section
variable {γ : Type} (key : γ → Int)
inductive Blocks (bs : Nat) : List γ → Prop
  | last {l : List γ} (h : l.length ≤ bs) (hs : srt key l) : Blocks bs l
  | cons {X l : List γ} (h : X.length = bs) (hs : srt key X) (hl : Blocks bs l) : Blocks bs (X ++ l)
theorem blocks_first (N : Nat) (hN : N ≤ 1073741824) (B : Int × Int × List γ → Option ((Int × Int × List γ) ⊕ (Int × List γ))) (hB : ∀ a b l, B (a, b, l) = sort_stable_func_b1 (ltk key) (N : Int) a b l) :
    ∀ (k : Nat) (P T : List γ), T.length ≤ k → P.length + T.length = N →
      ∃ Q R, loopO B ((P.length : Int), ((P.length + 20 : Nat) : Int), P ++ T) = some (((P.length + Q.length : Nat) : Int), P ++ Q ++ R) ∧ sameK key T (Q ++ R) ∧ R.length < 20 ∧ (∀ R', srt key R' → R'.length = R.length → Blocks key 20 (Q ++ R')) := by
  intro k
  induction k with
  | zero =>
    intro P T hT hP
    have := List.eq_nil_of_length_eq_zero (Nat.le_zero.1 hT)
    subst this
    refine ⟨[], [], ?_, sameK.refl key _, by simp, fun R' h h2 => ?_⟩
    · rw [loopO_eq, hB]
      simp only [sort_stable_func_b1]
      simp only [List.length_nil] at hP
      rw [decide_eq_false (by omega : ¬((P.length + 20 : Nat) : Int) ≤ (N : Int))]
      simp
    · rw [List.nil_append]
      exact .last (by simp only [List.length_nil] at h2; omega) h
  | succ k ih =>
    intro P T hT hP
    by_cases h20 : T.length < 20
    · refine ⟨[], T, ?_, by rw [List.nil_append]; exact sameK.refl key _, h20, fun R' h h2 => by rw [List.nil_append]; exact .last (by omega) h⟩
      rw [loopO_eq, hB]
      simp only [sort_stable_func_b1]
      rw [decide_eq_false (by omega : ¬((P.length + 20 : Nat) : Int) ≤ (N : Int))]
      simp
    · have hT2 : T = T.take 20 ++ T.drop 20 := (List.take_append_drop _ _).symm
      have l1 : (T.take 20).length = 20 := by simp; omega
      have l2 : (T.drop 20).length = T.length - 20 := by simp
      obtain ⟨X', x1, x2, x3⟩ := insertionSort_eq key P (T.take 20) (T.drop 20) (by omega)
      have lX : X'.length = 20 := by have := x3.len key; omega
      rw [l1] at x1
      obtain ⟨Q, R, q1, q2, q3, q4⟩ := ih (P ++ X') (T.drop 20) (by omega) (by rw [List.length_append]; omega)
      refine ⟨X' ++ Q, R, ?_, ?_, q3, fun R' h h2 => ?_⟩
      · rw [loopO_eq, hB]
        simp only [sort_stable_func_b1]
        rw [decide_eq_true (by omega : ((P.length + 20 : Nat) : Int) ≤ (N : Int)), cond_true]
        have e : P ++ T = P ++ T.take 20 ++ T.drop 20 := by rw [List.append_assoc, List.take_append_drop]
        rw [e, x1, Option.bind_some]
        simp only
        have e2 : ad ((P.length + 20 : Nat) : Int) 20 = (((P ++ X').length + 20 : Nat) : Int) := by rw [ad_eq (by omega) (by omega), List.length_append]; omega
        rw [e2, show P.length + 20 = (P ++ X').length by rw [List.length_append]; omega, q1]
        simp only [List.length_append, List.append_assoc, Nat.add_assoc]
      · rw [List.append_assoc]
        have := sameK.app key x3 q2
        rw [List.take_append_drop] at this
        exact this
      · rw [List.append_assoc]
        exact .cons lX x2 (q4 R' h h2)
theorem blocks_merge (N bs : Nat) (hN : N ≤ 1073741824) (hbs : 0 < bs) (hbN : bs < N) (B : Int × Int × List γ → Option ((Int × Int × List γ) ⊕ (Int × List γ))) (hB : ∀ a b l, B (a, b, l) = sort_stable_func_b3 (ltk key) (N : Int) (bs : Int) a b l) :
    ∀ (k : Nat) (P T : List γ), T.length ≤ k → P.length + T.length = N → Blocks key bs T →
      ∃ Q R, loopO B ((P.length : Int), ((P.length + 2 * bs : Nat) : Int), P ++ T) = some (((P.length + Q.length : Nat) : Int), P ++ Q ++ R) ∧ sameK key T (Q ++ R) ∧ R.length < 2 * bs ∧ Blocks key bs R ∧ (∀ R', srt key R' → R'.length = R.length → Blocks key (2 * bs) (Q ++ R')) := by
  intro k
  induction k with
  | zero =>
    intro P T hT hP hb
    have := List.eq_nil_of_length_eq_zero (Nat.le_zero.1 hT)
    subst this
    refine ⟨[], [], ?_, sameK.refl key _, by simp; omega, hb, fun R' h h2 => ?_⟩
    · rw [loopO_eq, hB]
      simp only [sort_stable_func_b3]
      simp only [List.length_nil] at hP
      rw [decide_eq_false (by omega : ¬((P.length + 2 * bs : Nat) : Int) ≤ (N : Int))]
      simp
    · rw [List.nil_append]
      exact .last (by simp only [List.length_nil] at h2; omega) h
  | succ k ih =>
    intro P T hT hP hb
    by_cases h2 : T.length < 2 * bs
    · refine ⟨[], T, ?_, by rw [List.nil_append]; exact sameK.refl key _, h2, hb, fun R' h h3 => by rw [List.nil_append]; exact .last (by omega) h⟩
      rw [loopO_eq, hB]
      simp only [sort_stable_func_b3]
      rw [decide_eq_false (by omega : ¬((P.length + 2 * bs : Nat) : Int) ≤ (N : Int))]
      simp
    · -- two blocks and the rest
      obtain ⟨X, Y, T2, rfl, lX, lY, sX, sY, hT2⟩ : ∃ X Y T2, T = X ++ Y ++ T2 ∧ X.length = bs ∧ Y.length = bs ∧ srt key X ∧ srt key Y ∧ Blocks key bs T2 := by
        cases hb with
        | last h hs => omega
        | @cons X l h hs hl =>
          cases hl with
          | last h' hs' =>
            simp only [List.length_append] at h2
            exact ⟨X, l, [], by simp, h, by omega, hs, hs', .last (by simp) List.Pairwise.nil⟩
          | @cons Y l' h' hs' hl' => exact ⟨X, Y, l', by simp, h, h', hs, hs', hl'⟩
      simp only [List.length_append] at hP hT h2
      obtain ⟨Z, z1, z2, z3⟩ := symMerge_eq key ((P ++ (X ++ Y ++ T2)).length + 1) P X Y T2 (by intro e; rw [e] at lX; simp at lX; omega) (by intro e; rw [e] at lY; simp at lY; omega) sX sY (by simp only [List.length_append]; omega) (by omega)
      have lZ : Z.length = 2 * bs := by have := z3.len key; rw [List.length_append] at this; omega
      obtain ⟨Q, R, q1, q2, q3, q4, q5⟩ := ih (P ++ Z) T2 (by omega) (by rw [List.length_append]; omega) hT2
      refine ⟨Z ++ Q, R, ?_, ?_, q3, q4, fun R' h h3 => ?_⟩
      · rw [loopO_eq, hB]
        simp only [sort_stable_func_b3]
        rw [decide_eq_true (by omega : ((P.length + 2 * bs : Nat) : Int) ≤ (N : Int)), cond_true]
        have e1 : ad (P.length : Int) (bs : Int) = ((P.length + X.length : Nat) : Int) := by rw [ad_eq (by omega) (by omega)]; omega
        have e2 : ((P.length + 2 * bs : Nat) : Int) = ((P.length + X.length + Y.length : Nat) : Int) := by omega
        have e3 : ad ((P.length + 2 * bs : Nat) : Int) (ml 2 (bs : Int)) = (((P ++ Z).length + 2 * bs : Nat) : Int) := by
          rw [ml_eq (by omega) (by omega), ad_eq (by omega) (by omega), List.length_append]; omega
        have e4 : P ++ (X ++ Y ++ T2) = P ++ X ++ Y ++ T2 := by simp
        rw [e3, e1, e2, e4]
        rw [e4] at z1
        rw [z1, Option.bind_some]
        simp only
        rw [show P.length + X.length + Y.length = (P ++ Z).length by rw [List.length_append]; omega, q1]
        simp only [List.length_append, List.append_assoc, Nat.add_assoc]
      · have := sameK.app key z3 q2
        simpa only [List.append_assoc] using this
      · rw [List.append_assoc]
        exact .cons lZ z2 (q5 R' h h3)
theorem stable_eq (l : List γ) (hN : l.length ≤ 1073741824) : ∃ r, sort_stable_func (ltk key) l (ln l) = some r ∧ srt key r ∧ sameK key l r := by
  have rounds : ∀ (B : Int × List γ → Option ((Int × List γ) ⊕ (List γ))), (∀ b l', B (b, l') = sort_stable_func_b2 (ltk key) (l.length : Int) b l') → ∀ (k bs : Nat) (T : List γ), l.length ≤ bs + k → 0 < bs → bs ≤ 2147483648 → T.length = l.length → Blocks key bs T → ∃ r, loopO B ((bs : Int), T) = some r ∧ srt key r ∧ sameK key T r := by
    intro B hB k
    induction k with
    | zero =>
      intro bs T hk hb0 hb2 hT hb
      rw [loopO_eq, hB]
      simp only [sort_stable_func_b2]
      rw [decide_eq_false (by omega : ¬(bs : Int) < (l.length : Int)), cond_false]
      refine ⟨T, rfl, ?_, sameK.refl key _⟩
      cases hb with
      | last h hs => exact hs
      | @cons X l' h hs hl =>
        simp only [List.length_append] at hT
        have : l' = [] := List.eq_nil_of_length_eq_zero (by omega)
        rw [this, List.append_nil]; exact hs
    | succ k ih =>
      intro bs T hk hb0 hb2 hT hb
      by_cases hlt : bs < l.length
      · rw [loopO_eq, hB]
        simp only [sort_stable_func_b2]
        rw [decide_eq_true (by omega : (bs : Int) < (l.length : Int)), cond_true]
        obtain ⟨Q, R, q1, q2, q3, q4, q5⟩ := blocks_merge key l.length bs hN hb0 hlt (fun s => sort_stable_func_b3 (ltk key) (l.length : Int) (bs : Int) s.1 s.2.1 s.2.2) (fun _ _ _ => rfl) T.length [] T (Nat.le_refl _) (by simp [hT]) hb
        simp only [List.length_nil, List.nil_append, Nat.zero_add] at q1
        have hlen : Q.length + R.length = l.length := by have := q2.len key; rw [List.length_append] at this; omega
        have e2 : ml 2 (bs : Int) = ((2 * bs : Nat) : Int) := by rw [ml_eq (by omega) (by omega)]; omega
        have e2' : ml (bs : Int) 2 = ((2 * bs : Nat) : Int) := by rw [ml_eq (by omega) (by omega)]; omega
        rw [e2, e2']
        rw [show ((0 : Nat) : Int) = 0 from rfl] at q1
        rw [q1, Option.bind_some]
        simp only
        have em : ad (Q.length : Int) (bs : Int) = ((Q.length + bs : Nat) : Int) := by rw [ad_eq (by omega) (by omega)]; omega
        rw [em]
        by_cases hm : Q.length + bs < l.length
        · rw [decide_eq_true (by omega : ((Q.length + bs : Nat) : Int) < (l.length : Int)), cond_true]
          obtain ⟨X, Y, rfl, lX, sX, sY⟩ : ∃ X Y, R = X ++ Y ∧ X.length = bs ∧ srt key X ∧ srt key Y := by
            cases q4 with
            | last h hs => omega
            | @cons X l' h hs hl =>
              refine ⟨X, l', rfl, h, hs, ?_⟩
              cases hl with
              | last h' hs' => exact hs'
              | @cons Y l'' h' hs' hl' =>
                simp only [List.length_append] at q3
                have : l'' = [] := List.eq_nil_of_length_eq_zero (by omega)
                rw [this, List.append_nil]; exact hs'
          simp only [List.length_append] at hlen q3
          obtain ⟨Z, z1, z2, z3⟩ := symMerge_eq key ((Q ++ (X ++ Y)).length + 1) Q X Y [] (by intro e; rw [e] at lX; simp at lX; omega) (by intro e; rw [e] at hlen; simp at hlen; omega) sX sY (by simp only [List.length_append]; omega) (by simp only [List.length_nil]; omega)
          have e5 : Q ++ X ++ Y ++ [] = Q ++ (X ++ Y) := by simp
          rw [e5, List.append_nil, lX, show Q.length + bs + Y.length = l.length by omega] at z1
          rw [z1, Option.bind_some]
          have lZ : Z.length = (X ++ Y).length := (z3.len key).symm
          obtain ⟨r, r1, r2, r3⟩ := ih (2 * bs) (Q ++ Z) (by omega) (by omega) (by omega) (by rw [List.length_append, lZ, List.length_append]; omega) (q5 Z z2 lZ)
          exact ⟨r, r1, r2, sameK.trans key q2 (sameK.trans key (sameK.app key (sameK.refl key Q) z3) r3)⟩
        · rw [decide_eq_false (by omega : ¬((Q.length + bs : Nat) : Int) < (l.length : Int)), cond_false]
          have sR : srt key R := by
            cases q4 with
            | last h hs => exact hs
            | @cons X l' h hs hl =>
              simp only [List.length_append] at hlen
              have : l' = [] := List.eq_nil_of_length_eq_zero (by omega)
              rw [this, List.append_nil]; exact hs
          obtain ⟨r, r1, r2, r3⟩ := ih (2 * bs) (Q ++ R) (by omega) (by omega) (by omega) (by rw [List.length_append]; omega) (q5 R sR rfl)
          exact ⟨r, r1, r2, sameK.trans key q2 r3⟩
      · exact ih bs T (by omega) hb0 hb2 hT hb
  unfold sort_stable_func
  rw [ln_eq]
  obtain ⟨Q, R, q1, q2, q3, q4⟩ := blocks_first key l.length hN (fun s => sort_stable_func_b1 (ltk key) (l.length : Int) s.1 s.2.1 s.2.2) (fun _ _ _ => rfl) l.length [] l (Nat.le_refl _) (by simp)
  simp only [List.length_nil, List.nil_append, Nat.zero_add] at q1
  rw [show ((0 : Nat) : Int) = 0 from rfl, show ((20 : Nat) : Int) = 20 from rfl] at q1
  rw [q1, Option.bind_some]
  have hlen : Q.length + R.length = l.length := by have := q2.len key; rw [List.length_append] at this; omega
  obtain ⟨R', r1, r2, r3⟩ := insertionSort_eq key Q R [] (by simp only [List.length_nil]; omega)
  rw [List.append_nil, List.append_nil, hlen] at r1
  simp only
  rw [r1, Option.bind_some]
  have lR : R'.length = R.length := (r3.len key).symm
  obtain ⟨r, w1, w2, w3⟩ := rounds (fun s => sort_stable_func_b2 (ltk key) (l.length : Int) s.1 s.2) (fun _ _ => rfl) l.length 20 (Q ++ R') (by omega) (by omega) (by omega) (by rw [List.length_append, lR]; exact hlen) (q4 R' r2 lR)
  rw [show ((20 : Nat) : Int) = 20 from rfl] at w1
  rw [w1]
  exact ⟨r, rfl, w2, sameK.trans key q2 (sameK.trans key (sameK.app key (sameK.refl key Q) r3) w3)⟩
end
end Go.TI
