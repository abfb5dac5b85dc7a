/- SameModel and WholeOrNot: the program's and the reference's answer the same, for all arguments. No condition. -/
import Derived.Test.YtngfcadblnecpaaWND
import Derived.Test.YtngfcadblnecpaaPL
namespace Go.TI
open Go
set_option linter.unusedSimpArgs false
set_option linter.unusedVariables false

def zShelf (x : Shelf) : Nat := zl ByteArray.size x.Texts
theorem szStringS_eq (l : List ByteArray) (h : ol oS l) : Weighs (zl ByteArray.size) w_szStringS l :=
  Weighs.list (sz_listF ByteArray.size (fun x left => some (sb left (sln x))) l h.1 (fun x hx left h0 h1 => by
    have hx := h.2 x hx
    unfold oS at hx
    refine ⟨_, rfl, ?_⟩
    have e : sln x = (x.size : Int) := rfl
    rw [sb_eq (by rw [e]; omega) (by rw [e]; omega), e]
    split <;> omega) (fun _ _ => rfl) (fun _ => rfl))
theorem szShelf_eq (x : Shelf) (h : oShelf x) : Weighs zShelf w_szShelf x := by
  intro left h0 h1
  obtain ⟨v, h2, h3⟩ := szStringS_eq x.Texts h.2 left h0 h1
  unfold w_szShelf
  rw [h2, Option.bind_some]
  unfold zShelf
  split at h3
  · rename_i hc
    rw [decide_eq_false (by omega), cond_false]
    exact ⟨_, rfl, by rw [if_pos hc]; exact h3⟩
  · rename_i hc
    rw [decide_eq_true h3, cond_true]
    exact ⟨_, rfl, by rw [if_neg hc]; omega⟩
theorem szShelfS_eq (l : List Shelf) (h : ol oShelf l) : Weighs (zl zShelf) w_szShelfS l :=
  Weighs.list (sz_listF zShelf w_szShelf l h.1 (fun x hx => szShelf_eq x (h.2 x hx)) (fun _ _ => rfl) (fun _ => rfl))
theorem toStringS_eq (l : List ByteArray) (h : zl ByteArray.size l ≤ 1048576) : w_toStringS l = some l := by
  have := zl_len (z := ByteArray.size) (l := l)
  exact to_listF some l (by omega) (by omega) (fun _ _ => rfl) (fun _ _ => rfl) rfl
theorem toShelf_eq (x : Shelf) (h : zShelf x ≤ 1048576) : w_toShelf x = some x := by
  unfold w_toShelf
  rw [toStringS_eq _ h]
  rfl
theorem toShelfS_eq (l : List Shelf) (h : zl zShelf l ≤ 1048576) : w_toShelfS l = some l := by
  have := zl_len (z := zShelf) (l := l)
  exact to_listF w_toShelf l (by omega) (by omega) (fun x hx => toShelf_eq x (by have := zl_mem (z := zShelf) hx; omega)) (fun _ _ => rfl) rfl
theorem eqStringS_eq (a b : List ByteArray) (h : a.length ≤ 1048576) : Tells (w_eqStringS a b) a b :=
  eq_listF (fun x y => some (seq x y)) a b (by omega) (fun x _ y _ => tells_seq x y) (fun _ => rfl) rfl
theorem eqShelf_eq (a b : Shelf) (h : zShelf a ≤ 1048576) : Tells (w_eqShelf a b) a b := by
  obtain ⟨v, h1, h2⟩ := eqStringS_eq a.Texts b.Texts (by have := zl_len (z := ByteArray.size) (l := a.Texts); unfold zShelf at h; omega)
  unfold w_eqShelf
  rw [h1]
  cases a with
  | mk av at_ =>
  cases b with
  | mk bv bt =>
  simp only at h2 ⊢
  by_cases hv : av = bv
  · subst hv
    simp only [bne_self_eq_false, cond_false, Option.bind_some]
    cases v with
    | false => exact ⟨false, rfl, by simp only [Shelf.mk.injEq, true_and]; exact h2⟩
    | true => exact ⟨true, rfl, by simpa using h2⟩
  · have : (av != bv) = true := by simpa using hv
    rw [this]
    exact ⟨false, rfl, by simp [hv]⟩
theorem eqShelfS_eq (a b : List Shelf) (h : zl zShelf a ≤ 1048576) : Tells (w_eqShelfS a b) a b := by
  have := zl_len (z := zShelf) (l := a)
  exact eq_listF w_eqShelf a b (by omega) (fun x hx y _ => eqShelf_eq x y (by have := zl_mem (z := zShelf) hx; omega)) (fun _ => rfl) rfl

theorem sameTexts_eq (a b : List ByteArray) (h : a.length ≤ 1048576) : Tells (s_l20SameTexts a b) a b :=
  eq_listF (fun x y => some (seq x y)) a b (by omega) (fun x _ y _ => tells_seq x y) (fun _ => rfl) rfl

/-- Places that are looked at again. -/
theorem s_SameModel_eq (a b : List Shelf) (h : zl zShelf a ≤ 1048576) : Tells (s_SameModel a b) a b := by
  have hlen := zl_len (z := zShelf) (l := a)
  refine eq_listF (fun x y => bif x.Vol != y.Vol then some false else s_l20SameTexts x.Texts y.Texts) a b (by omega) (fun x hx y _ => ?_) (body := fun i => bif decide (i < ln a) then ((gi a i).bind fun x => (gi b i).bind fun y => (bif x.Vol != y.Vol then some false else s_l20SameTexts x.Texts y.Texts).bind fun v => bif !v then some (.inr (.inr false)) else some (.inl (ad i 1))) else some (.inr (.inl ()))) (fun _ => rfl) ?_
  · have hz := zl_mem (z := zShelf) hx
    have hz2 : zShelf x = zl ByteArray.size x.Texts := rfl
    obtain ⟨v, h1, h2⟩ := sameTexts_eq x.Texts y.Texts (by have := zl_len (z := ByteArray.size) (l := x.Texts); omega)
    rw [h1]
    cases x with
    | mk av at_ =>
    cases y with
    | mk bv bt =>
    by_cases hv : av = bv
    · subst hv
      exact ⟨v, by simp, by simpa using h2⟩
    · have : (av != bv) = true := by simpa using hv
      simp only [this]
      exact ⟨false, rfl, by simp [hv]⟩
  · unfold s_SameModel
    congr 2
    congr 1
    funext i
    unfold s_SameModel_b1
    cases hi : decide (i < ln a) with
    | false => rfl
    | true =>
      simp only [cond_true]
      cases ha : gi a i with
      | none => rfl
      | some x =>
        simp only [Option.bind_some]
        cases hb : gi b i with
        | none => rfl
        | some y =>
          simp only [Option.bind_some]
          cases x.Vol != y.Vol <;> rfl

theorem i_SameModel_eq (a b : List Shelf) (h : zl zShelf a ≤ 1048576) : Tells (i_SameModel a b) a b := by
  have hlen := zl_len (z := zShelf) (l := a)
  by_cases hl : a.length = b.length
  · have hne : (ln a != ln b) = false := by simp [ln, hl]
    have hin : ∀ (i : Nat) (x y : Shelf), a[i]? = some x → b[i]? = some y → x.Texts.length = y.Texts.length →
        loopO (fun s : Int => i_SameModel_b2 a b (i : Int) x s) 0 = some (bif (x.Texts.zip y.Texts).all (fun z => seq z.1 z.2) then .inl () else .inr (.inr (.inr false)) ) ∨ True := fun _ _ _ _ _ _ => .inr trivial
    have hin2 : ∀ (i : Nat) (x y : Shelf), a[i]? = some x → b[i]? = some y → x.Texts.length = y.Texts.length → x.Texts.length ≤ 1048576 →
        loopO (fun s : Int => i_SameModel_b2 a b (i : Int) x s) 0 = some (bif (x.Texts.zip y.Texts).all (fun z => seq z.1 z.2) then .inl () else .inr (.inr (.inr false))) := by
      intro i x y hx hy hxy hM
      have := loop_list0 (body := fun s : Int => i_SameModel_b2 a b (i : Int) x s) (fun (_ : Unit) i => i) (x.Texts.zip y.Texts) (fun _ _ z => bif seq z.1 z.2 then .inl () else .inr (.inr (.inr (.inr false)))) (fun _ => .inl ()) (fun _ _ => True)
        (fun s k z hz _ => by
          refine ⟨?_, fun _ _ => trivial⟩
          obtain ⟨z1, z2⟩ := z
          obtain ⟨hlt, hz'⟩ := List.getElem?_eq_some_iff.1 hz
          rw [List.getElem_zip] at hz'
          injection hz' with e1 e2
          have k1 : k < x.Texts.length := by simp at hlt; omega
          have k2 : k < y.Texts.length := by simp at hlt; omega
          simp only [i_SameModel_b2, lt_ln, decide_eq_true k1, cond_true, gi_nat, hx, hy, Option.bind_some, List.getElem?_eq_getElem k1, List.getElem?_eq_getElem k2, e1, e2]
          cases seq z1 z2
          · rfl
          · simp only [Bool.not_true, cond_false, cond_true]
            rw [ad1 (by omega)])
        (fun s _ => by
          have : (x.Texts.zip y.Texts).length = x.Texts.length := by simp [hxy]
          rw [this]
          simp only [i_SameModel_b2, lt_ln, Nat.lt_irrefl, decide_false, cond_false]) (s := ()) trivial
      rw [this]
      have hfold : ∀ (m : List (ByteArray × ByteArray)) (i : Nat), foldE (fun (_ : Unit) _ z => bif seq z.1 z.2 then .inl () else .inr (.inr (.inr (.inr false)))) (fun _ => (.inl () : Unit ⊕ (Int ⊕ (Unit ⊕ Bool)))) m i () = bif m.all (fun z => seq z.1 z.2) then .inl () else .inr (.inr (.inr false)) := by
        intro m
        induction m with
        | nil => intro i; rfl
        | cons z m ih =>
          intro i
          simp only [foldE, List.all_cons]
          cases seq z.1 z.2 with
          | false => rfl
          | true => simp only [cond_true, Bool.true_and]; exact ih _
      rw [hfold]
    have hp : ∀ (x y : Shelf), (bif x.Vol != y.Vol then false else bif x.Texts.length != y.Texts.length then false else (x.Texts.zip y.Texts).all (fun z => seq z.1 z.2)) = true ↔ x = y := by
      intro x y
      cases x with
      | mk av at_ =>
      cases y with
      | mk bv bt =>
      by_cases hv : av = bv
      · subst hv
        by_cases hl : at_.length = bt.length
        · simp only [bne_self_eq_false, cond_false, hl, Shelf.mk.injEq, true_and]
          exact zip_all (p := seq) (fun x _ y _ => by rw [seq_eq, decide_eq_true_eq]) hl
        · have : (at_.length != bt.length) = true := by simpa using hl
          exact iff_of_false (by simp [this]) (fun e => hl (by injection e with _ e; rw [e]))
      · have : (av != bv) = true := by simpa using hv
        simp [this, hv]
    have := eq_loop (body := fun s : Int => i_SameModel_b1 a b s) a b (fun x y => bif x.Vol != y.Vol then false else bif x.Texts.length != y.Texts.length then false else (x.Texts.zip y.Texts).all (fun z => seq z.1 z.2)) hl (by omega)
      (fun i x y hx hy => by
        have hlt := (List.getElem?_eq_some_iff.1 hx).1
        have hz := zl_mem (z := zShelf) (List.mem_of_getElem? hx)
        have hz2 : zShelf x = zl ByteArray.size x.Texts := rfl
        have hz3 := zl_len (z := ByteArray.size) (l := x.Texts)
        simp only [i_SameModel_b1, lt_ln, decide_eq_true hlt, cond_true, gi_nat, hx, hy, Option.bind_some]
        by_cases hv : x.Vol = y.Vol
        · have e1 : (x.Vol != y.Vol) = false := by simp [hv]
          simp only [e1, cond_false, Option.bind_some]
          by_cases hl2 : x.Texts.length = y.Texts.length
          · have e2 : (ln x.Texts != ln y.Texts) = false := by simp [ln, hl2]
            have e3 : (x.Texts.length != y.Texts.length) = false := by simp [hl2]
            simp only [e2, e3, cond_false]
            rw [hin2 i x y hx hy hl2 (by omega)]
            cases (x.Texts.zip y.Texts).all (fun z => seq z.1 z.2) with
            | false => rfl
            | true =>
              simp only [cond_true, Option.bind_some, Sum.elim_inl]
              rw [ad1 (by omega)]
          · have e2 : (ln x.Texts != ln y.Texts) = true := by simp [ln]; omega
            have e3 : (x.Texts.length != y.Texts.length) = true := by simpa using hl2
            simp only [e2, e3, cond_true, cond_false]
        · have e1 : (x.Vol != y.Vol) = true := by simpa using hv
          simp only [e1, cond_true, Option.bind_some, cond_false])
      (by simp only [i_SameModel_b1, lt_ln, Nat.lt_irrefl, decide_false, cond_false])
    refine ⟨(a.zip b).all (fun z => bif z.1.Vol != z.2.Vol then false else bif z.1.Texts.length != z.2.Texts.length then false else (z.1.Texts.zip z.2.Texts).all (fun z => seq z.1 z.2)), ?_, zip_all (p := fun x y => bif x.Vol != y.Vol then false else bif x.Texts.length != y.Texts.length then false else (x.Texts.zip y.Texts).all (fun z => seq z.1 z.2)) (fun x _ y _ => hp x y) hl⟩
    unfold i_SameModel
    rw [hne, cond_false, this]
    cases (a.zip b).all _ <;> rfl
  · have hne : (ln a != ln b) = true := by simp [ln]; omega
    unfold i_SameModel
    rw [hne, cond_true]
    exact ⟨false, rfl, by simp; intro e; exact hl (by rw [e])⟩

theorem tells_same {γ : Type} {f g : Option Bool} {x y : γ} (h : Tells f x y) (k : Tells g x y) : ∃ v, f = some v ∧ g = some v := by
  obtain ⟨v, h1, h2⟩ := h
  obtain ⟨u, k1, k2⟩ := k
  refine ⟨v, h1, ?_⟩
  rw [k1]
  congr 1
  rw [Bool.eq_iff_iff, h2, k2]
theorem tells_self {γ : Type} {f : Option Bool} {x : γ} (h : Tells f x x) : f = some true := by
  obtain ⟨v, h1, h2⟩ := h
  rw [h1, h2.2 rfl]

end Go.TI
