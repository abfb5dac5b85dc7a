/- Loops over lists, numbers that stay small, texts: laws of the terms that functions compute. No condition; no program is in sight. -/
import Derived.Test.YtcjepealfaimfaaGreatPOTIC
import Derived.Laws.Strings
import Derived.Test.YtcjepealfaimfaaGreatPOTID
import Derived.Laws.BitsLemmas
namespace Go.TI
open Go
set_option linter.unusedSimpArgs false
theorem wr64 {n : Int} (h1 : -9223372036854775808 ≤ n) (h2 : n ≤ 9223372036854775807) : IntKind.i64.wrap n = n := by rw [IntKind.wrap_i64]; omega
theorem ad_eq {a b : Int} (h1 : -9223372036854775808 ≤ a + b) (h2 : a + b ≤ 9223372036854775807) : ad a b = a + b := wr64 h1 h2
theorem sb_eq {a b : Int} (h1 : -9223372036854775808 ≤ a - b) (h2 : a - b ≤ 9223372036854775807) : sb a b = a - b := wr64 h1 h2
theorem ml_eq {a b : Int} (h1 : -9223372036854775808 ≤ a * b) (h2 : a * b ≤ 9223372036854775807) : ml a b = a * b := wr64 h1 h2
theorem ad1 {i : Nat} (h : i < 9223372036854775807) : ad (i : Int) 1 = ((i + 1 : Nat) : Int) := by rw [ad_eq] <;> omega
theorem seq_eq (a b : ByteArray) : seq a b = decide (a = b) := by
  unfold seq
  rw [Bool.eq_iff_iff, beq_iff_eq, decide_eq_true_eq]
  constructor
  · intro h
    rw [ByteArray.toList_eq, ByteArray.toList_eq] at h
    cases a; cases b
    simp only [ByteArray.mk.injEq]
    exact Array.ext' h
  · intro h; rw [h]
section
variable {α β σ S : Type}
theorem gi_nat {l : List α} {i : Nat} : gi l (i : Int) = l[i]? := by
  unfold gi
  rw [if_pos (by omega)]
  simp
theorem si_nat {l : List α} {i : Nat} {x : α} : si l (i : Int) x = l.set i x := by simp [si]
theorem lt_ln {l : List α} {i : Nat} : decide ((i : Int) < ln l) = decide (i < l.length) := by
  rw [Bool.eq_iff_iff, decide_eq_true_eq, decide_eq_true_eq]
  simp [ln]
def foldE (step : σ → Nat → α → σ ⊕ β) (fin : σ → β) : List α → Nat → σ → β
  | [], _, s => fin s
  | x :: l, i, s => match step s i x with
    | .inl s' => foldE step fin l (i + 1) s'
    | .inr b => b
theorem loop_list {body : S → Option (S ⊕ β)} (mkS : σ → Int → S) (l : List α) (step : σ → Nat → α → σ ⊕ β) (fin : σ → β) (Inv : Nat → σ → Prop)
    (h1 : ∀ s i x, l[i]? = some x → Inv i s → body (mkS s (i : Nat)) = some (match step s i x with | .inl s' => .inl (mkS s' ((i + 1 : Nat) : Int)) | .inr b => .inr b) ∧ ∀ s', step s i x = .inl s' → Inv (i + 1) s')
    (h2 : ∀ s, Inv l.length s → body (mkS s (l.length : Nat)) = some (.inr (fin s))) : ∀ (n i : Nat) (s : σ), i + n = l.length → Inv i s → loopO body (mkS s (i : Nat)) = some (foldE step fin (l.drop i) i s)
  | 0, i, s, hi, hs => by
    have : i = l.length := by omega
    subst this
    rw [loopO_eq, h2 s hs, List.drop_eq_nil_of_le (Nat.le_refl _)]
    rfl
  | n + 1, i, s, hi, hs => by
    have hlt : i < l.length := by omega
    obtain ⟨h3, h4⟩ := h1 s i l[i] (List.getElem?_eq_getElem hlt) hs
    rw [loopO_eq, h3, List.drop_eq_getElem_cons hlt, foldE]
    cases hst : step s i l[i] with
    | inl s' => simp only []; exact loop_list mkS l step fin Inv h1 h2 n (i + 1) s' (by omega) (h4 s' hst)
    | inr b => rfl
theorem loop_list0 {body : S → Option (S ⊕ β)} (mkS : σ → Int → S) (l : List α) (step : σ → Nat → α → σ ⊕ β) (fin : σ → β) (Inv : Nat → σ → Prop)
    (h1 : ∀ s i x, l[i]? = some x → Inv i s → body (mkS s (i : Nat)) = some (match step s i x with | .inl s' => .inl (mkS s' ((i + 1 : Nat) : Int)) | .inr b => .inr b) ∧ ∀ s', step s i x = .inl s' → Inv (i + 1) s')
    (h2 : ∀ s, Inv l.length s → body (mkS s (l.length : Nat)) = some (.inr (fin s))) {s : σ} (hs : Inv 0 s) : loopO body (mkS s 0) = some (foldE step fin l 0 s) :=
  loop_list mkS l step fin Inv h1 h2 l.length 0 s (by omega) hs
end
end Go.TI
namespace Go.TI
open Go
set_option linter.unusedSimpArgs false
set_option linter.unusedVariables false
section
variable {α : Type}
def zl (z : α → Nat) (l : List α) : Nat := l.length + (l.map z).sum
theorem zl_mem {z : α → Nat} {l : List α} {x : α} (h : x ∈ l) : z x + 1 ≤ zl z l := by
  unfold zl
  induction l with
  | nil => cases h
  | cons y l ih =>
    simp only [List.map_cons, List.sum_cons, List.length_cons]
    rcases List.mem_cons.1 h with rfl | h
    · omega
    · have := ih h; omega
theorem zl_len {z : α → Nat} {l : List α} : l.length ≤ zl z l := by unfold zl; omega
def Weighs (z : α → Nat) (f : α → Int → Option Int) (x : α) : Prop := ∀ left : Int, 0 ≤ left → left ≤ 1048576 → ∃ v, f x left = some v ∧ (if (z x : Int) ≤ left then v = left - z x else v < 0)
theorem sz_fold (z : α → Nat) : ∀ (l : List α) (i : Nat) (left : Int), 0 ≤ left → foldE (fun (left : Int) _ x => if (z x : Int) ≤ left then .inl (left - z x) else .inr (.inr (-1))) (fun left => (.inl left : Int ⊕ Int)) l i left = if ((l.map z).sum : Int) ≤ left then .inl (left - (l.map z).sum) else .inr (-1)
  | [], i, left, h => by simp [foldE, h]
  | x :: l, i, left, h => by
    have ih := sz_fold z l (i + 1)
    simp only [foldE, List.map_cons, List.sum_cons]
    by_cases hx : (z x : Int) ≤ left
    · rw [if_pos hx]
      simp only
      rw [ih _ (by omega)]
      by_cases h2 : ((l.map z).sum : Int) ≤ left - z x
      · rw [if_pos h2, if_pos (by omega)]; congr 1; omega
      · rw [if_neg h2, if_neg (by omega)]
    · rw [if_neg hx, if_neg (by omega)]
theorem sz_listF (z : α → Nat) (f : α → Int → Option Int) (l : List α) (hM : l.length ≤ 9223372036854775807) (hf : ∀ x ∈ l, Weighs z f x) {g : Int → Option Int} {body : Int × Int → Option ((Int × Int) ⊕ (Int ⊕ Int))}
    (hb : ∀ left i, body (left, i) = bif decide (i < ln l) then ((gi l i).bind fun x => (f x left).bind fun v => bif decide (v < 0) then some (.inr (.inr (-1))) else some (.inl (v, ad i 1))) else some (.inr (.inl left)))
    (hg : ∀ left, g left = bif decide (sb left (ln l) < 0) then some (-1) else (loopO body (sb left (ln l), 0)).bind (Sum.elim (fun v => some v) some)) (left : Int) (h0 : 0 ≤ left) (h1 : left ≤ 1048576) :
    g left = some (if (zl z l : Int) ≤ left then left - zl z l else -1) := by
  have hln : ln l = (l.length : Int) := rfl
  rw [hg, sb_eq (by rw [hln]; omega) (by rw [hln]; omega), hln]
  by_cases hs : left - (l.length : Int) < 0
  · rw [decide_eq_true hs, cond_true, if_neg (by unfold zl; omega)]
  · rw [decide_eq_false hs, cond_false]
    have := loop_list0 (body := body) (fun s i => (s, i)) l (fun (left : Int) _ x => if (z x : Int) ≤ left then .inl (left - z x) else .inr (.inr (-1))) (fun left => (.inl left : Int ⊕ Int)) (fun i left => 0 ≤ left ∧ left ≤ 1048576)
      (fun s i x hx hi => by
        obtain ⟨v, h2, h3⟩ := hf x (List.mem_of_getElem? hx) s hi.1 hi.2
        have hlt := (List.getElem?_eq_some_iff.1 hx).1
        refine ⟨?_, ?_⟩
        · rw [hb, lt_ln, decide_eq_true hlt, cond_true, gi_nat, hx, Option.bind_some, h2, Option.bind_some, ad1 (by omega)]
          by_cases hc : (z x : Int) ≤ s
          · rw [if_pos hc] at h3 ⊢
            rw [decide_eq_false (by omega), cond_false, h3]
          · rw [if_neg hc] at h3 ⊢
            rw [decide_eq_true h3, cond_true]
        · intro s' hs'
          by_cases hc : (z x : Int) ≤ s
          · rw [if_pos hc] at hs'
            injection hs' with hs'
            omega
          · rw [if_neg hc] at hs'
            cases hs')
      (fun s hi => by rw [hb, lt_ln, decide_eq_false (by omega), cond_false]) (s := left - l.length) ⟨by omega, by omega⟩
    rw [this, sz_fold _ _ _ _ (by omega)]
    by_cases hc : ((l.map z).sum : Int) ≤ left - l.length
    · rw [if_pos hc, if_pos (by unfold zl; omega)]
      simp only [Option.bind_some, Sum.elim_inl, zl]
      congr 1
      omega
    · rw [if_neg hc, if_neg (by unfold zl; omega)]
      rfl
theorem Weighs.list {z : α → Nat} {g : List α → Int → Option Int} {l : List α} (h : ∀ left : Int, 0 ≤ left → left ≤ 1048576 → g l left = some (if (zl z l : Int) ≤ left then left - zl z l else -1)) : Weighs (zl z) g l := by
  intro left h0 h1
  refine ⟨_, h left h0 h1, ?_⟩
  by_cases hc : (zl z l : Int) ≤ left
  · rw [if_pos hc, if_pos hc]
  · rw [if_neg hc, if_neg hc]; omega
theorem to_listF (f : α → Option α) (l : List α) {by_ : Nat} {z0 : α} (hM : l.length ≤ 9223372036854775807) (hB : by_ * l.length ≤ 281474976710656) (hf : ∀ x ∈ l, f x = some x) {g : Option (List α)} {body : List α × Int → Option ((List α × Int) ⊕ List α)}
    (hb : ∀ out i, body (out, i) = bif decide (i < ln l) then ((gi l i).bind fun x => (f x).bind fun v => (gi out i).bind fun _ => some (.inl (si out i v, ad i 1))) else some (.inr out))
    (hg : g = (mk by_ z0 (ln l)).bind fun c => (loopO body (c, 0)).bind fun v => some v) : g = some l := by
  have hln : ln l = (l.length : Int) := rfl
  have hmk : mk by_ z0 (ln l) = some (List.replicate l.length z0) := by
    unfold mk
    have hB' : ((by_ * l.length : Nat) : Int) ≤ 281474976710656 := by omega
    rw [Int.natCast_mul] at hB'
    rw [hln, if_pos ⟨by omega, hB', by omega⟩, Int.toNat_natCast]
  rw [hg, hmk, Option.bind_some]
  have hfold : ∀ (m : List α) (i : Nat) (out : List α), foldE (fun (out : List α) i x => (.inl (out.set i x) : List α ⊕ List α)) (fun out => out) m i out = (m.zipIdx i).foldl (fun out p => out.set p.2 p.1) out := by
    intro m
    induction m with
    | nil => intro i out; rfl
    | cons x m ih => intro i out; simp only [foldE, List.zipIdx_cons, List.foldl_cons]; exact ih _ _
  have hset : ∀ (m pre out : List α), out.length = pre.length + m.length → out.take pre.length = pre → (m.zipIdx pre.length).foldl (fun out p => out.set p.2 p.1) out = pre ++ m := by
    intro m
    induction m with
    | nil =>
      intro pre out h1 h2
      simp only [List.zipIdx_nil, List.foldl_nil, List.append_nil]
      rw [← h2, List.take_of_length_le (by simp at h1; omega)]
    | cons x m ih =>
      intro pre out h1 h2
      simp only [List.zipIdx_cons, List.foldl_cons]
      have := ih (pre ++ [x]) (out.set pre.length x) (by simp at h1 ⊢; omega) (by
        simp only [List.length_cons] at h1
        rw [List.length_append, List.length_singleton, List.take_succ_eq_append_getElem (by simp; omega), List.take_set_of_le (Nat.le_refl _), h2, List.getElem_set_self])
      rw [List.length_append, List.length_singleton] at this
      rw [this]
      simp
  have := loop_list0 (body := body) (fun s i => (s, i)) l (fun (out : List α) i x => (.inl (out.set i x) : List α ⊕ List α)) (fun out => out) (fun i out => out.length = l.length)
    (fun s i x hx hi => by
      have hlt := (List.getElem?_eq_some_iff.1 hx).1
      refine ⟨?_, ?_⟩
      · rw [hb, lt_ln, decide_eq_true hlt, cond_true, gi_nat, hx, Option.bind_some, hf x (List.mem_of_getElem? hx), Option.bind_some, gi_nat, List.getElem?_eq_getElem (by omega), Option.bind_some, ad1 (by omega), si_nat]
      · intro s' hs'
        injection hs' with hs'
        rw [← hs', List.length_set, hi])
    (fun s hi => by rw [hb, lt_ln, decide_eq_false (by omega), cond_false]) (s := List.replicate l.length z0) (by simp)
  rw [this, hfold, Option.bind_some]
  exact congrArg some (hset l [] _ (by simp) (by simp))
theorem eq_loop {β : Type} {body : Int → Option (Int ⊕ (Unit ⊕ Bool))} (a : List α) (b : List β) (p : α → β → Bool) (hl : a.length = b.length) (hM : a.length ≤ 9223372036854775807)
    (h1 : ∀ (i : Nat) x y, a[i]? = some x → b[i]? = some y → body (i : Nat) = some (bif p x y then .inl (((i + 1 : Nat)) : Int) else .inr (.inr false))) (h2 : body (a.length : Nat) = some (.inr (.inl ()))) :
    loopO body 0 = some (bif (a.zip b).all (fun z => p z.1 z.2) then .inl () else .inr false) := by
  have hz : (a.zip b).length = a.length := by simp [hl]
  have := loop_list0 (body := body) (fun (_ : Unit) i => i) (a.zip b) (fun _ _ z => bif p z.1 z.2 then .inl () else .inr (.inr false)) (fun _ => .inl ()) (fun _ _ => True)
    (fun s i x hx _ => by
      refine ⟨?_, fun _ _ => trivial⟩
      obtain ⟨x1, x2⟩ := x
      have hx' := List.getElem?_eq_some_iff.1 hx
      obtain ⟨hlt, hx'⟩ := hx'
      rw [List.getElem_zip] at hx'
      injection hx' with e1 e2
      rw [h1 i x1 x2 (by rw [← e1]; exact List.getElem?_eq_getElem _) (by rw [← e2]; exact List.getElem?_eq_getElem _)]
      simp only
      cases p x1 x2 <;> rfl)
    (fun s _ => by rw [hz]; exact h2) (s := ()) trivial
  rw [this]
  have hfold : ∀ (m : List (α × β)) (i : Nat), foldE (fun (_ : Unit) _ z => bif p z.1 z.2 then .inl () else .inr (.inr false)) (fun _ => (.inl () : Unit ⊕ Bool)) m i () = bif m.all (fun z => p z.1 z.2) then .inl () else .inr false := by
    intro m
    induction m with
    | nil => intro i; rfl
    | cons z m ih =>
      intro i
      simp only [foldE, List.all_cons]
      cases p z.1 z.2 with
      | false => rfl
      | true => simp only [cond_true, Bool.true_and]; exact ih _
  rw [hfold]
theorem zip_all {p : α → α → Bool} : ∀ {a b : List α}, (∀ x ∈ a, ∀ y ∈ b, (p x y = true ↔ x = y)) → a.length = b.length → ((a.zip b).all (fun z => p z.1 z.2) = true ↔ a = b)
  | [], [], _, _ => by simp
  | x :: a, y :: b, hp, h => by
    have ih := zip_all (p := p) (a := a) (b := b) (fun x' hx y' hy => hp x' (List.mem_cons_of_mem _ hx) y' (List.mem_cons_of_mem _ hy)) (by simpa using h)
    simp only [List.zip_cons_cons, List.all_cons, Bool.and_eq_true, ih, hp x List.mem_cons_self y List.mem_cons_self, List.cons.injEq]
  | [], _ :: _, _, h => by simp at h
  | _ :: _, [], _, h => by simp at h
def Tells {γ : Type} (f : Option Bool) (x y : γ) : Prop := ∃ v, f = some v ∧ (v = true ↔ x = y)
theorem eq_listF (f : α → α → Option Bool) (a b : List α) (hM : a.length ≤ 9223372036854775807) (hf : ∀ x ∈ a, ∀ y ∈ b, Tells (f x y) x y) {g : Option Bool} {body : Int → Option (Int ⊕ (Unit ⊕ Bool))}
    (hb : ∀ i, body i = bif decide (i < ln a) then ((gi a i).bind fun x => (gi b i).bind fun y => (f x y).bind fun v => bif !v then some (.inr (.inr false)) else some (.inl (ad i 1))) else some (.inr (.inl ())))
    (hg : g = bif (ln a != ln b) then some false else (loopO body 0).bind (Sum.elim (fun _ => some true) some)) : Tells g a b := by
  by_cases hl : a.length = b.length
  · have hne : (ln a != ln b) = false := by simp [ln, hl]
    have := eq_loop (body := body) a b (fun x y => (f x y).getD false) hl hM
      (fun i x y hx hy => by
        have hlt := (List.getElem?_eq_some_iff.1 hx).1
        obtain ⟨v, hv, _⟩ := hf x (List.mem_of_getElem? hx) y (List.mem_of_getElem? hy)
        rw [hb, lt_ln, decide_eq_true hlt, cond_true, gi_nat, hx, Option.bind_some, gi_nat, hy, Option.bind_some, hv, Option.bind_some, ad1 (by omega), Option.getD_some]
        cases v <;> rfl)
      (by rw [hb, lt_ln, decide_eq_false (by omega), cond_false])
    rw [this, hne, cond_false] at hg
    refine ⟨(a.zip b).all (fun z => (f z.1 z.2).getD false), ?_, zip_all (p := fun x y => (f x y).getD false) (fun x hx y hy => ?_) hl⟩
    · rw [hg]
      cases (a.zip b).all (fun z => (f z.1 z.2).getD false) <;> rfl
    · obtain ⟨v, hv, hv2⟩ := hf x hx y hy
      rw [hv]
      exact hv2
  · have hne : (ln a != ln b) = true := by simp [ln]; omega
    rw [hne, cond_true] at hg
    exact ⟨false, hg, by simp; intro e; exact hl (by rw [e])⟩
theorem tells_self {γ : Type} {f : Option Bool} {x : γ} (h : Tells f x x) : f = some true := by
  obtain ⟨v, h1, h2⟩ := h
  rw [h1, h2.2 rfl]
def Says (f : Option Bool) (p : Prop) : Prop := ∃ v, f = some v ∧ (v = true ↔ p)
theorem says_true : Says (some true) True := ⟨true, rfl, by simp⟩
theorem says_and {b : Bool} {f : Option Bool} {p q : Prop} (h : b = true ↔ ¬p) (k : Says f q) : Says (bif b then some false else f) (p ∧ q) := by
  cases b with
  | true => exact ⟨false, rfl, by simpa using fun e => absurd e (h.1 rfl)⟩
  | false =>
    obtain ⟨v, h1, h2⟩ := k
    have : p := by
      refine Classical.byContradiction fun e => ?_
      exact absurd (h.2 e) (by simp)
    exact ⟨v, h1, by simp [this, h2]⟩
theorem says_bind {g f : Option Bool} {p q : Prop} (h : Says g p) (k : Says f q) : Says (g.bind fun v => bif !v then some false else f) (p ∧ q) := by
  obtain ⟨v, rfl, h⟩ := h
  rw [Option.bind_some]
  exact says_and (by cases v <;> simp_all) k
theorem seq_ne {a b : ByteArray} : (!seq a b) = true ↔ ¬a = b := by rw [seq_eq]; simp
end
end Go.TI
namespace Go.TI
open Go
set_option linter.unusedSimpArgs false
set_option linter.unusedVariables false
section
variable {α β σ S : Type}
theorem loop_exG {body : S → Option (S ⊕ β)} (mkS : σ → Int → S) (n : Nat) (Inv : Nat → σ → Prop) (Q : β → Prop)
    (h1 : ∀ s i, i < n → Inv i s → (∃ s', body (mkS s (i : Nat)) = some (.inl (mkS s' ((i + 1 : Nat) : Int))) ∧ Inv (i + 1) s') ∨ ∃ b, body (mkS s (i : Nat)) = some (.inr b) ∧ Q b)
    (h2 : ∀ s, Inv n s → ∃ b, body (mkS s (n : Nat)) = some (.inr b) ∧ Q b) : ∀ (k i : Nat) (s : σ), i + k = n → Inv i s → ∃ b, loopO body (mkS s (i : Nat)) = some b ∧ Q b
  | 0, i, s, hi, hs => by
    have : i = n := by omega
    subst this
    obtain ⟨b, h3, h4⟩ := h2 s hs
    exact ⟨b, by rw [loopO_eq, h3], h4⟩
  | k + 1, i, s, hi, hs => by
    rcases h1 s i (by omega) hs with ⟨s', h3, h4⟩ | ⟨b, h3, h4⟩
    · obtain ⟨b, h5, h6⟩ := loop_exG mkS n Inv Q h1 h2 k (i + 1) s' (by omega) h4
      exact ⟨b, by rw [loopO_eq, h3]; exact h5, h6⟩
    · exact ⟨b, by rw [loopO_eq, h3], h4⟩
theorem loop_ex {body : S → Option (S ⊕ β)} (mkS : σ → Int → S) (n : Nat) (Inv : Nat → σ → Prop) (Q : β → Prop)
    (h1 : ∀ s i, i < n → Inv i s → (∃ s', body (mkS s (i : Nat)) = some (.inl (mkS s' ((i + 1 : Nat) : Int))) ∧ Inv (i + 1) s') ∨ ∃ b, body (mkS s (i : Nat)) = some (.inr b) ∧ Q b)
    (h2 : ∀ s, Inv n s → ∃ b, body (mkS s (n : Nat)) = some (.inr b) ∧ Q b) {s : σ} (hs : Inv 0 s) : ∃ b, loopO body (mkS s 0) = some b ∧ Q b :=
  loop_exG mkS n Inv Q h1 h2 n 0 s (by omega) hs
theorem loop_ex2G {body body' : S → Option (S ⊕ β)} (mkS : σ → Int → S) (n : Nat) (Inv : Nat → σ → Prop) (Q : β → Prop)
    (h1 : ∀ s i, i < n → Inv i s → body' (mkS s (i : Nat)) = body (mkS s (i : Nat)) ∧ ((∃ s', body (mkS s (i : Nat)) = some (.inl (mkS s' ((i + 1 : Nat) : Int))) ∧ Inv (i + 1) s') ∨ ∃ b, body (mkS s (i : Nat)) = some (.inr b) ∧ Q b))
    (h2 : ∀ s, Inv n s → body' (mkS s (n : Nat)) = body (mkS s (n : Nat)) ∧ ∃ b, body (mkS s (n : Nat)) = some (.inr b) ∧ Q b) : ∀ (k i : Nat) (s : σ), i + k = n → Inv i s → ∃ b, loopO body (mkS s (i : Nat)) = some b ∧ loopO body' (mkS s (i : Nat)) = some b ∧ Q b
  | 0, i, s, hi, hs => by
    have : i = n := by omega
    subst this
    obtain ⟨e, b, h3, h4⟩ := h2 s hs
    exact ⟨b, by rw [loopO_eq, h3], by rw [loopO_eq, e, h3], h4⟩
  | k + 1, i, s, hi, hs => by
    obtain ⟨e, h⟩ := h1 s i (by omega) hs
    rcases h with ⟨s', h3, h4⟩ | ⟨b, h3, h4⟩
    · obtain ⟨b, h5, h6, h7⟩ := loop_ex2G mkS n Inv Q h1 h2 k (i + 1) s' (by omega) h4
      exact ⟨b, by rw [loopO_eq, h3]; exact h5, by rw [loopO_eq, e, h3]; exact h6, h7⟩
    · exact ⟨b, by rw [loopO_eq, h3], by rw [loopO_eq, e, h3], h4⟩
theorem loop_ex2 {body body' : S → Option (S ⊕ β)} (mkS : σ → Int → S) (n : Nat) (Inv : Nat → σ → Prop) (Q : β → Prop)
    (h1 : ∀ s i, i < n → Inv i s → body' (mkS s (i : Nat)) = body (mkS s (i : Nat)) ∧ ((∃ s', body (mkS s (i : Nat)) = some (.inl (mkS s' ((i + 1 : Nat) : Int))) ∧ Inv (i + 1) s') ∨ ∃ b, body (mkS s (i : Nat)) = some (.inr b) ∧ Q b))
    (h2 : ∀ s, Inv n s → body' (mkS s (n : Nat)) = body (mkS s (n : Nat)) ∧ ∃ b, body (mkS s (n : Nat)) = some (.inr b) ∧ Q b) {s : σ} (hs : Inv 0 s) : ∃ b, loopO body (mkS s 0) = some b ∧ loopO body' (mkS s 0) = some b ∧ Q b :=
  loop_ex2G mkS n Inv Q h1 h2 n 0 s (by omega) hs
theorem ap_eq {by_ : Nat} {l m : List α} (h : (l.length + m.length) * by_ ≤ 140737488355328) : ap by_ l m = some (l ++ m) := if_pos h
theorem gi_ok {l : List α} {i : Int} (h1 : 0 ≤ i) (h2 : i < l.length) : gi l i = some (l[i.toNat]'(by omega)) := by
  unfold gi
  rw [if_pos h1]
  exact List.getElem?_eq_getElem _
theorem ln_eq {l : List α} : ln l = (l.length : Int) := rfl
end
end Go.TI
namespace Go.TI
open Go
set_option linter.unusedSimpArgs false
set_option linter.unusedVariables false
def L (s : ByteArray) : List UInt8 := s.data.toList
theorem L_inj {a b : ByteArray} (h : L a = L b) : a = b := by
  cases a; cases b
  simp only [L] at h
  simp only [ByteArray.mk.injEq]
  exact Array.ext' h
theorem L_size (s : ByteArray) : (L s).length = s.size := by cases s; rfl
theorem L_cat (a b : ByteArray) : L (a ++ b) = L a ++ L b := by simp [L]
theorem L_bs (l : List UInt8) : L (bs l) = l := by simp [L, bs]
theorem L_strB (l : List Int) : L (strB l) = l.map fun n => UInt8.ofNat n.toNat := strOfNums_data l
theorem L_ext (s : ByteArray) (i j : Nat) : L (s.extract i j) = ((L s).drop i).take (j - i) := by
  have : s = ByteArray.mk (L s).toArray := by cases s; simp [L]
  rw [this, ByteArray.extract_mk]
  simp [L]
theorem sln_eq (s : ByteArray) : sln s = ((L s).length : Int) := by rw [L_size]; rfl
theorem sx_nat (s : ByteArray) {i : Nat} (h : i < (L s).length) : sx s (i : Int) = some (((L s)[i]).toNat : Int) := by
  have h' : i < s.size := by rw [← L_size]; exact h
  unfold sx
  rw [if_pos ⟨by omega, by omega⟩]
  unfold pureOp.bt
  rw [dif_pos (by simpa using h')]
  rfl
theorem sub_nat (s : ByteArray) {i j : Nat} (h1 : i ≤ j) (h2 : j ≤ (L s).length) : sub s (i : Int) (j : Int) = some (s.extract i j) := by
  rw [L_size] at h2
  unfold sub
  rw [if_pos ⟨by omega, by omega, by omega⟩, Int.toNat_natCast, Int.toNat_natCast]
theorem cat_eq (a b : ByteArray) (h : (L a).length + (L b).length ≤ 9223372036854775807) : cat a b = some (a ++ b) := by
  rw [L_size, L_size] at h
  unfold cat
  rw [if_neg (by omega)]
theorem seq_L (a b : ByteArray) : seq a b = decide (L a = L b) := by
  rw [seq_eq, Bool.eq_iff_iff, decide_eq_true_eq, decide_eq_true_eq]
  exact ⟨fun h => by rw [h], L_inj⟩
def encV (n : Nat) : List UInt8 := if h : n ≤ 127 then [UInt8.ofNat n] else UInt8.ofNat (n % 128 + 128) :: encV (n / 128)
termination_by n
decreasing_by omega
def valV : List UInt8 → Nat
  | [] => 0
  | d :: ds => d.toNat % 128 + 128 * valV ds
theorem valV_append : ∀ (ds es : List UInt8), valV (ds ++ es) = valV ds + 128 ^ ds.length * valV es
  | [], es => by simp [valV]
  | d :: ds, es => by
    simp only [List.cons_append, valV, valV_append ds es, List.length_cons, Nat.pow_succ]
    rw [Nat.mul_add, Nat.add_assoc]
    congr 2
    rw [← Nat.mul_assoc, Nat.mul_comm 128]
theorem u8_lt (d : UInt8) : d.toNat < 256 := d.toNat_lt
theorem encV_small {n : Nat} (h : n ≤ 127) : encV n = [UInt8.ofNat n] := by rw [encV, dif_pos h]
theorem encV_big {n : Nat} (h : ¬ n ≤ 127) : encV n = UInt8.ofNat (n % 128 + 128) :: encV (n / 128) := by rw [encV, dif_neg h]
theorem valV_zero : ∀ {ds : List UInt8} {x : UInt8}, valV (ds ++ [x]) = 0 → x.toNat < 128 → x.toNat = 0
  | [], x, h, hx => by simp [valV] at h; omega
  | d :: ds, x, h, hx => by
    simp only [List.cons_append, valV] at h
    exact valV_zero (ds := ds) (by omega) hx
theorem encV_valV : ∀ (ds : List UInt8) (x : UInt8), (∀ d ∈ ds, 128 ≤ d.toNat) → x.toNat < 128 → (encV (valV (ds ++ [x])) = ds ++ [x] ↔ ¬(x.toNat = 0 ∧ ds ≠ []))
  | [], x, _, hx => by
    have : valV ([] ++ [x]) = x.toNat := by simp [valV]; omega
    rw [this, encV_small (by omega)]
    simp
  | d :: ds, x, hd, hx => by
    have ih := encV_valV ds x (fun e he => hd e (List.mem_cons_of_mem _ he)) hx
    have h1 := hd d List.mem_cons_self
    have h2 := u8_lt d
    have hv : valV (d :: ds ++ [x]) = d.toNat - 128 + 128 * valV (ds ++ [x]) := by
      simp only [List.cons_append, valV]
      omega
    rw [hv]
    by_cases h0 : valV (ds ++ [x]) = 0
    · have hx0 := valV_zero h0 hx
      rw [h0, encV_small (by omega)]
      refine iff_of_false ?_ (by simp [hx0])
      intro e
      have := congrArg List.length e
      simp at this
    · rw [encV_big (by omega)]
      have e1 : UInt8.ofNat ((d.toNat - 128 + 128 * valV (ds ++ [x])) % 128 + 128) = d := by
        have : (d.toNat - 128 + 128 * valV (ds ++ [x])) % 128 + 128 = d.toNat := by omega
        rw [this, UInt8.ofNat_toNat]
      have e2 : (d.toNat - 128 + 128 * valV (ds ++ [x])) / 128 = valV (ds ++ [x]) := by omega
      rw [e1, e2, List.cons_append, List.cons.injEq]
      rw [ih]
      constructor
      · rintro ⟨_, h⟩ ⟨h3, _⟩
        refine h ⟨h3, ?_⟩
        rintro rfl
        apply h0
        simp [valV, h3]
      · intro h
        exact ⟨rfl, fun h3 => h ⟨h3.1, by simp⟩⟩
theorem encV_loop {body : Int × List Int → Option ((Int × List Int) ⊕ (Int × List Int))}
    (hb : ∀ n out, body (n, out) = bif decide (n > 127) then ((ap 1 out [(IntKind.u8.wrap (ad (Int.tmod n 128) 128))]).bind fun c => some (.inl ((qu n 128), c))) else some (.inr (n, out))) :
    ∀ (n : Nat) (out : List Int), out.length + n ≤ 1099511627776 → ∃ (m : Nat) (o : List Int), loopO body ((n : Int), out) = some ((m : Int), o) ∧ m ≤ 127 ∧ o.length ≤ out.length + n ∧ (o ++ [(m : Int)]).map (fun n => UInt8.ofNat n.toNat) = out.map (fun n => UInt8.ofNat n.toNat) ++ encV n
  | n, out, h => by
    rw [loopO_eq, hb]
    by_cases hn : n ≤ 127
    · rw [decide_eq_false (by omega), cond_false]
      exact ⟨n, out, rfl, hn, by omega, by rw [encV_small hn]; simp⟩
    · rw [decide_eq_true (by omega), cond_true, ap_eq (by simp only [List.length_singleton]; omega), Option.bind_some]
      have e1 : Int.tmod (n : Int) 128 = ((n % 128 : Nat) : Int) := rfl
      have e2 : qu (n : Int) 128 = ((n / 128 : Nat) : Int) := by
        unfold qu
        rw [show Int.tdiv (n : Int) 128 = ((n / 128 : Nat) : Int) from Int.ofNat_tdiv n 128 |>.symm, wr64 (by omega) (by omega)]
      have e3 : IntKind.u8.wrap (ad (Int.tmod (n : Int) 128) 128) = ((n % 128 + 128 : Nat) : Int) := by
        rw [e1, ad_eq (by omega) (by omega), IntKind.wrap_u8]
        omega
      obtain ⟨m, o, h1, h2, h3, h4⟩ := encV_loop hb (n / 128) (out ++ [((n % 128 + 128 : Nat) : Int)]) (by simp only [List.length_append, List.length_singleton]; omega)
      rw [e2, e3]
      refine ⟨m, o, h1, h2, by simp only [List.length_append, List.length_singleton] at h3; omega, ?_⟩
      rw [h4, encV_big hn, List.map_append, List.append_assoc]
      rfl
termination_by n => n
decreasing_by omega
theorem tdiv2 {s : Int} (h0 : 0 ≤ s) (h1 : s < 4294967296) : IntKind.u32.wrap (Int.tdiv s 2) = Int.fdiv s (2 ^ (min (1 : Int).toNat IntKind.u32.bits)) := by
  have e : (2 : Int) ^ (min (1 : Int).toNat IntKind.u32.bits) = 2 := by decide
  rw [e, IntKind.wrap_u32, Int.tdiv_eq_ediv_of_nonneg h0, Int.fdiv_eq_ediv_of_nonneg _ (by omega)]
  omega
theorem an1 {s : Int} (h0 : 0 ≤ s) (h1 : s < 4294967296) : an s 1 = Int.tmod s 2 := by
  unfold an
  obtain ⟨n, rfl⟩ := Int.eq_ofNat_of_zero_le h0
  have : (BitVec.ofInt 32 (n : Int) &&& BitVec.ofInt 32 1).toNat = n % 2 := by
    rw [BitVec.toNat_and, BitVec.ofInt_natCast, BitVec.toNat_ofNat]
    have e1 : (BitVec.ofInt 32 1).toNat = 1 := by decide
    rw [e1, Nat.and_one_is_mod]
    omega
  rw [this, IntKind.wrap_u32, Int.tmod_eq_emod_of_nonneg (by omega)]
  omega
theorem xr_in (a b : Int) : 0 ≤ xr a b ∧ xr a b < 4294967296 := by
  unfold xr
  rw [IntKind.wrap_u32]
  omega
end Go.TI
namespace Go.TI
open Go
set_option linter.unusedSimpArgs false
set_option linter.unusedVariables false
section
variable {α β σ S S' : Type}
theorem loop_twoG {body : S → Option (S ⊕ β)} {body' : S' → Option (S' ⊕ β)} (mkS : σ → Int → S) (mkS' : σ → Int → S') (n : Nat) (Inv : Nat → σ → Prop) (Q : β → Prop)
    (h1 : ∀ s i, i < n → Inv i s → (∃ s', body (mkS s (i : Nat)) = some (.inl (mkS s' ((i + 1 : Nat) : Int))) ∧ body' (mkS' s (i : Nat)) = some (.inl (mkS' s' ((i + 1 : Nat) : Int))) ∧ Inv (i + 1) s') ∨ ∃ b, body (mkS s (i : Nat)) = some (.inr b) ∧ body' (mkS' s (i : Nat)) = some (.inr b) ∧ Q b)
    (h2 : ∀ s, Inv n s → ∃ b, body (mkS s (n : Nat)) = some (.inr b) ∧ body' (mkS' s (n : Nat)) = some (.inr b) ∧ Q b) : ∀ (k i : Nat) (s : σ), i + k = n → Inv i s → ∃ b, loopO body (mkS s (i : Nat)) = some b ∧ loopO body' (mkS' s (i : Nat)) = some b ∧ Q b
  | 0, i, s, hi, hs => by
    have : i = n := by omega
    subst this
    obtain ⟨b, h3, h4, h5⟩ := h2 s hs
    exact ⟨b, by rw [loopO_eq, h3], by rw [loopO_eq, h4], h5⟩
  | k + 1, i, s, hi, hs => by
    rcases h1 s i (by omega) hs with ⟨s', h3, h4, h5⟩ | ⟨b, h3, h4, h5⟩
    · obtain ⟨b, h6, h7, h8⟩ := loop_twoG mkS mkS' n Inv Q h1 h2 k (i + 1) s' (by omega) h5
      exact ⟨b, by rw [loopO_eq, h3]; exact h6, by rw [loopO_eq, h4]; exact h7, h8⟩
    · exact ⟨b, by rw [loopO_eq, h3], by rw [loopO_eq, h4], h5⟩
theorem loop_two {body : S → Option (S ⊕ β)} {body' : S' → Option (S' ⊕ β)} (mkS : σ → Int → S) (mkS' : σ → Int → S') (n : Nat) (Inv : Nat → σ → Prop) (Q : β → Prop)
    (h1 : ∀ s i, i < n → Inv i s → (∃ s', body (mkS s (i : Nat)) = some (.inl (mkS s' ((i + 1 : Nat) : Int))) ∧ body' (mkS' s (i : Nat)) = some (.inl (mkS' s' ((i + 1 : Nat) : Int))) ∧ Inv (i + 1) s') ∨ ∃ b, body (mkS s (i : Nat)) = some (.inr b) ∧ body' (mkS' s (i : Nat)) = some (.inr b) ∧ Q b)
    (h2 : ∀ s, Inv n s → ∃ b, body (mkS s (n : Nat)) = some (.inr b) ∧ body' (mkS' s (n : Nat)) = some (.inr b) ∧ Q b) {s : σ} (hs : Inv 0 s) : ∃ b, loopO body (mkS s 0) = some b ∧ loopO body' (mkS' s 0) = some b ∧ Q b :=
  loop_twoG mkS mkS' n Inv Q h1 h2 n 0 s (by omega) hs
theorem runO_conj {body : S → Option (S ⊕ β)} {body' : S' → Option (S' ⊕ β)} (φ : S → S') (h : ∀ s, body' (φ s) = (body s).map (Sum.map φ id)) : ∀ (n : Nat) (s : S), runO body' n (φ s) = runO body n s
  | 0, _ => rfl
  | n + 1, s => by
    simp only [runO, h]
    cases body s with
    | none => rfl
    | some o =>
      cases o with
      | inl s' => exact runO_conj φ h n s'
      | inr b => rfl
theorem loopO_conj {body : S → Option (S ⊕ β)} {body' : S' → Option (S' ⊕ β)} (φ : S → S') (h : ∀ s, body' (φ s) = (body s).map (Sum.map φ id)) (s : S) : loopO body' (φ s) = loopO body s := by
  have key : ∀ a, loopO body' (φ s) = some a ↔ loopO body s = some a := fun a => by
    rw [loopO_iff, loopO_iff]
    exact ⟨fun ⟨n, hn⟩ => ⟨n, by rw [← runO_conj φ h]; exact hn⟩, fun ⟨n, hn⟩ => ⟨n, by rw [runO_conj φ h]; exact hn⟩⟩
  cases hx : loopO body s with
  | some a => exact (key a).2 hx
  | none =>
    cases hy : loopO body' (φ s) with
    | none => rfl
    | some a => rw [(key a).1 hy] at hx; cases hx
theorem runO_conjI {body : S → Option (S ⊕ β)} {body' : S' → Option (S' ⊕ β)} (φ : S → S') (I : S → Prop) (h : ∀ s, I s → body' (φ s) = (body s).map (Sum.map φ id)) (hI : ∀ s s', I s → body s = some (.inl s') → I s') : ∀ (n : Nat) (s : S), I s → runO body' n (φ s) = runO body n s
  | 0, _, _ => rfl
  | n + 1, s, hs => by
    simp only [runO, h s hs]
    cases hb : body s with
    | none => rfl
    | some o =>
      cases o with
      | inl s' => exact runO_conjI φ I h hI n s' (hI s s' hs hb)
      | inr b => rfl
theorem loopO_conjI {body : S → Option (S ⊕ β)} {body' : S' → Option (S' ⊕ β)} (φ : S → S') (I : S → Prop) (h : ∀ s, I s → body' (φ s) = (body s).map (Sum.map φ id)) (hI : ∀ s s', I s → body s = some (.inl s') → I s') (s : S) (hs : I s) : loopO body' (φ s) = loopO body s := by
  have key : ∀ a, loopO body' (φ s) = some a ↔ loopO body s = some a := fun a => by
    rw [loopO_iff, loopO_iff]
    exact ⟨fun ⟨n, hn⟩ => ⟨n, by rw [← runO_conjI φ I h hI n s hs]; exact hn⟩, fun ⟨n, hn⟩ => ⟨n, by rw [runO_conjI φ I h hI n s hs]; exact hn⟩⟩
  cases hx : loopO body s with
  | some a => exact (key a).2 hx
  | none =>
    cases hy : loopO body' (φ s) with
    | none => rfl
    | some a => rw [(key a).1 hy] at hx; cases hx
theorem loopO_inv {body : S → Option (S ⊕ β)} (I : S → Prop) (Q : β → Prop) (hI : ∀ s s', I s → body s = some (.inl s') → I s') (hQ : ∀ s b, I s → body s = some (.inr b) → Q b) {s : S} {b : β} (hs : I s) (h : loopO body s = some b) : Q b := by
  obtain ⟨n, hn⟩ := loopO_iff.1 h
  clear h
  induction n generalizing s with
  | zero => cases hn
  | succ n ih =>
    simp only [runO] at hn
    split at hn
    · cases hn
    · rename_i s' hb
      exact ih (hI s s' hs hb) hn
    · rename_i b' hb
      injection hn with hn
      subst hn
      exact hQ s b' hs hb
theorem loop_twoRG {β' : Type} {body : S → Option (S ⊕ β)} {body' : S' → Option (S' ⊕ β')} (mkS : σ → Int → S) (mkS' : σ → Int → S') (n : Nat) (Inv : Nat → σ → Prop) (Q : β → β' → Prop)
    (h1 : ∀ s i, i < n → Inv i s → (∃ s', body (mkS s (i : Nat)) = some (.inl (mkS s' ((i + 1 : Nat) : Int))) ∧ body' (mkS' s (i : Nat)) = some (.inl (mkS' s' ((i + 1 : Nat) : Int))) ∧ Inv (i + 1) s') ∨ ∃ b b', body (mkS s (i : Nat)) = some (.inr b) ∧ body' (mkS' s (i : Nat)) = some (.inr b') ∧ Q b b')
    (h2 : ∀ s, Inv n s → ∃ b b', body (mkS s (n : Nat)) = some (.inr b) ∧ body' (mkS' s (n : Nat)) = some (.inr b') ∧ Q b b') : ∀ (k i : Nat) (s : σ), i + k = n → Inv i s → ∃ b b', loopO body (mkS s (i : Nat)) = some b ∧ loopO body' (mkS' s (i : Nat)) = some b' ∧ Q b b'
  | 0, i, s, hi, hs => by
    have : i = n := by omega
    subst this
    obtain ⟨b, b', h3, h4, h5⟩ := h2 s hs
    exact ⟨b, b', by rw [loopO_eq, h3], by rw [loopO_eq, h4], h5⟩
  | k + 1, i, s, hi, hs => by
    rcases h1 s i (by omega) hs with ⟨s', h3, h4, h5⟩ | ⟨b, b', h3, h4, h5⟩
    · obtain ⟨b, b', h6, h7, h8⟩ := loop_twoRG mkS mkS' n Inv Q h1 h2 k (i + 1) s' (by omega) h5
      exact ⟨b, b', by rw [loopO_eq, h3]; exact h6, by rw [loopO_eq, h4]; exact h7, h8⟩
    · exact ⟨b, b', by rw [loopO_eq, h3], by rw [loopO_eq, h4], h5⟩
theorem loop_twoR {β' : Type} {body : S → Option (S ⊕ β)} {body' : S' → Option (S' ⊕ β')} (mkS : σ → Int → S) (mkS' : σ → Int → S') (n : Nat) (Inv : Nat → σ → Prop) (Q : β → β' → Prop)
    (h1 : ∀ s i, i < n → Inv i s → (∃ s', body (mkS s (i : Nat)) = some (.inl (mkS s' ((i + 1 : Nat) : Int))) ∧ body' (mkS' s (i : Nat)) = some (.inl (mkS' s' ((i + 1 : Nat) : Int))) ∧ Inv (i + 1) s') ∨ ∃ b b', body (mkS s (i : Nat)) = some (.inr b) ∧ body' (mkS' s (i : Nat)) = some (.inr b') ∧ Q b b')
    (h2 : ∀ s, Inv n s → ∃ b b', body (mkS s (n : Nat)) = some (.inr b) ∧ body' (mkS' s (n : Nat)) = some (.inr b') ∧ Q b b') {s : σ} (hs : Inv 0 s) : ∃ b b', loopO body (mkS s 0) = some b ∧ loopO body' (mkS' s 0) = some b' ∧ Q b b' :=
  loop_twoRG mkS mkS' n Inv Q h1 h2 n 0 s (by omega) hs
theorem loop_meas {body body' : S → Option (S ⊕ β)} (m : S → Nat) (Inv : S → Prop) (Q : β → Prop)
    (h : ∀ s, Inv s → (∃ s', body s = some (.inl s') ∧ body' s = some (.inl s') ∧ Inv s' ∧ m s' < m s) ∨ ∃ b, body s = some (.inr b) ∧ body' s = some (.inr b) ∧ Q b) : ∀ (n : Nat) (s : S), m s ≤ n → Inv s → ∃ b, loopO body s = some b ∧ loopO body' s = some b ∧ Q b
  | n, s, hn, hs => by
    rcases h s hs with ⟨s', h1, h2, h3, h4⟩ | ⟨b, h1, h2, h3⟩
    · cases n with
      | zero => omega
      | succ n =>
        obtain ⟨b, h5, h6, h7⟩ := loop_meas m Inv Q h n s' (by omega) h3
        exact ⟨b, by rw [loopO_eq, h1]; exact h5, by rw [loopO_eq, h2]; exact h6, h7⟩
    · exact ⟨b, by rw [loopO_eq, h1], by rw [loopO_eq, h2], h3⟩
theorem sum_take (z : α → Nat) : ∀ (l : List α) (i : Nat) (h : i < l.length), ((l.take (i + 1)).map z).sum = ((l.take i).map z).sum + z l[i]
  | [], i, h => by simp at h
  | x :: l, 0, h => by simp
  | x :: l, i + 1, h => by
    simp only [List.take_succ_cons, List.map_cons, List.sum_cons, List.getElem_cons_succ]
    rw [sum_take z l i (by simpa using h)]
    omega
theorem sum_take_le (z : α → Nat) (l : List α) (i : Nat) : ((l.take i).map z).sum ≤ (l.map z).sum := by
  have : (l.map z).sum = ((l.take i).map z).sum + ((l.drop i).map z).sum := by
    rw [← List.sum_append, ← List.map_append, List.take_append_drop]
  omega
end
end Go.TI
namespace Go.TI
open Go
set_option linter.unusedSimpArgs false
set_option linter.unusedVariables false
section
variable {α : Type}
def marks (c : α → Nat) (f : Int → α → α) : List α → Int → List α
  | [], _ => []
  | x :: l, k => f k x :: marks c f l (k + c x)
theorem marks_len (c : α → Nat) (f : Int → α → α) : ∀ (l : List α) (k : Int), (marks c f l k).length = l.length
  | [], _ => rfl
  | x :: l, k => by simp [marks, marks_len c f l]
theorem gi_midM (pre : List α) (x : α) (post : List α) : gi (pre ++ x :: post) (pre.length : Nat) = some x := by
  rw [gi_nat, List.getElem?_append_right (Nat.le_refl _)]
  simp
theorem si_midM (pre : List α) (x y : α) (post : List α) : si (pre ++ x :: post) (pre.length : Nat) y = pre ++ y :: post := by
  rw [si_nat, List.set_append_right _ _ (Nat.le_refl _)]
  simp
theorem lt_midM (pre : List α) (x : α) (post : List α) : decide (((pre.length : Nat) : Int) < ln (pre ++ x :: post)) = true := by
  rw [lt_ln]
  simp
theorem lt_endM (m : List α) {n : Nat} (h : m.length = n) : decide (((n : Nat) : Int) < ln m) = false := by
  rw [lt_ln, h]
  simp
theorem mark_loop {body : List α × Int × Int → Option ((List α × Int × Int) ⊕ (List α × Int))} (c : α → Nat) (f : Int → α → α) (P : α → Prop) (B : Int) (n : Nat)
    (h1 : ∀ (pre : List α) (x : α) (post : List α) (k : Int), pre.length + post.length + 1 = n → P x → 0 ≤ k → k + c x ≤ B → body (pre ++ x :: post, k, ((pre.length : Nat) : Int)) = some (.inl (pre ++ f k x :: post, k + c x, ((pre.length + 1 : Nat) : Int))))
    (h2 : ∀ (m : List α) (k : Int), m.length = n → body (m, k, ((n : Nat) : Int)) = some (.inr (m, k))) : ∀ (post pre : List α) (k : Int), pre.length + post.length = n → (∀ x ∈ post, P x) → 0 ≤ k → k + (((post.map c).sum : Nat) : Int) ≤ B →
      loopO body (pre ++ post, k, ((pre.length : Nat) : Int)) = some (pre ++ marks c f post k, k + (((post.map c).sum : Nat) : Int))
  | [], pre, k, hn, _, _, _ => by
    have : pre.length = n := by simpa using hn
    rw [loopO_eq, this, h2 _ k (by simpa using this)]
    simp [marks]
  | x :: post, pre, k, hn, hP, h0, hB => by
    simp only [List.map_cons, List.sum_cons] at hB ⊢
    simp only [List.length_cons] at hn
    rw [loopO_eq, h1 pre x post k (by omega) (hP x (by simp)) h0 (by omega)]
    have := mark_loop c f P B n h1 h2 post (pre ++ [f k x]) (k + c x) (by simp; omega) (fun y hy => hP y (by simp [hy])) (by omega) (by omega)
    simp only [List.append_assoc, List.singleton_append, List.length_append, List.length_singleton] at this
    simp only []
    rw [this]
    simp only [marks]
    congr 2
    omega
theorem mark_list {g : Option (Int × List α)} {body : List α × Int × Int → Option ((List α × Int × Int) ⊕ (List α × Int))} (c : α → Nat) (f : Int → α → α) (P : α → Prop) (B : Int) (l : List α) {k : Int}
    (hg : g = (loopO body (l, k, 0)).bind fun v => some (v.2, v.1))
    (h1 : ∀ (pre : List α) (x : α) (post : List α) (k : Int), pre.length + post.length + 1 = l.length → P x → 0 ≤ k → k + c x ≤ B → body (pre ++ x :: post, k, ((pre.length : Nat) : Int)) = some (.inl (pre ++ f k x :: post, k + c x, ((pre.length + 1 : Nat) : Int))))
    (h2 : ∀ (m : List α) (k : Int), m.length = l.length → body (m, k, ((l.length : Nat) : Int)) = some (.inr (m, k))) (hP : ∀ x ∈ l, P x) (h0 : 0 ≤ k) (hB : k + (((l.map c).sum : Nat) : Int) ≤ B) :
    g = some (k + (((l.map c).sum : Nat) : Int), marks c f l k) := by
  have := mark_loop c f P B l.length h1 h2 l [] k (by simp) hP h0 hB
  simp only [List.nil_append, List.length_nil, Int.ofNat_zero] at this
  rw [hg]
  rw [this]
  rfl
theorem held_loop {β : Type} {body : Int × Int → Option ((Int × Int) ⊕ (Int ⊕ β))} (c : α → Nat) (f : Int → α → α) (P : α → Prop) (B : Int) (m : List α)
    (h1 : ∀ (i : Nat) (x : α) (k : Int), m[i]? = some (f k x) → P x → 0 ≤ k → k + c x ≤ B → body (k, (i : Int)) = some (.inl (k + c x, ((i + 1 : Nat) : Int))))
    (h2 : ∀ (k : Int), body (k, ((m.length : Nat) : Int)) = some (.inr (.inl k))) : ∀ (post pre : List α) (k : Int), m = pre ++ marks c f post k → (∀ x ∈ post, P x) → 0 ≤ k → k + (((post.map c).sum : Nat) : Int) ≤ B →
      loopO body (k, ((pre.length : Nat) : Int)) = some (.inl (k + (((post.map c).sum : Nat) : Int)))
  | [], pre, k, hm, _, _, _ => by
    have : m.length = pre.length := by rw [hm]; simp [marks]
    rw [loopO_eq, ← this, h2]
    simp
  | x :: post, pre, k, hm, hP, h0, hB => by
    simp only [List.map_cons, List.sum_cons] at hB ⊢
    simp only [marks] at hm
    have hg : m[pre.length]? = some (f k x) := by rw [hm, List.getElem?_append_right (Nat.le_refl _)]; simp
    rw [loopO_eq, h1 pre.length x k hg (hP x (by simp)) h0 (by omega)]
    have := held_loop c f P B m h1 h2 post (pre ++ [f k x]) (k + c x) (by rw [hm]; simp) (fun y hy => hP y (by simp [hy])) (by omega) (by omega)
    simp only [List.length_append, List.length_singleton] at this
    simp only []
    rw [this]
    congr 2
    omega
theorem held_list {β : Type} {body : Int × Int → Option ((Int × Int) ⊕ (Int ⊕ β))} (c : α → Nat) (f : Int → α → α) (P : α → Prop) (B : Int) (l : List α) {k : Int}
    (h1 : ∀ (i : Nat) (x : α) (k' : Int), i < l.length → (marks c f l k)[i]? = some (f k' x) → P x → 0 ≤ k' → k' + c x ≤ B → body (k', (i : Int)) = some (.inl (k' + c x, ((i + 1 : Nat) : Int))))
    (h2 : ∀ (k : Int), body (k, ((l.length : Nat) : Int)) = some (.inr (.inl k))) (hP : ∀ x ∈ l, P x) (h0 : 0 ≤ k) (hB : k + (((l.map c).sum : Nat) : Int) ≤ B) :
    loopO body (k, 0) = some (.inl (k + (((l.map c).sum : Nat) : Int))) := by
  have := held_loop c f P B (marks c f l k) (fun i x k' hg => h1 i x k' (by have := (List.getElem?_eq_some_iff.1 hg).1; rwa [marks_len] at this) hg) (fun k' => by rw [marks_len]; exact h2 k') l [] k (by simp) hP h0 hB
  exact this
theorem sum_const (c : Nat) (l : List α) : (l.map fun _ => c).sum = c * l.length := by
  induction l with
  | nil => simp
  | cons x l ih => simp only [List.map_cons, List.sum_cons, List.length_cons, ih, Nat.mul_succ]; omega
theorem sum_le {c z : α → Nat} {l : List α} (h : ∀ x, c x ≤ z x) : (l.map c).sum ≤ (l.map z).sum := by
  induction l with
  | nil => simp
  | cons x l ih => simp only [List.map_cons, List.sum_cons]; have := h x; omega
end
theorem digits_loop {body : Int × ByteArray → Option ((Int × ByteArray) ⊕ ByteArray)} (h1 : ∀ (k : Int) (t : ByteArray), k > 0 → k ≤ 9223372036854775807 → (L t).length ≤ 1000 → body (k, t) = some (.inl (k.tdiv 10, strB [IntKind.u8.wrap (ad 48 (Int.tmod k 10))] ++ t))) (h2 : ∀ k t, k ≤ 0 → body (k, t) = some (.inr t)) :
    ∀ (n : Nat) (k : Int) (t : ByteArray), k < (10 : Int) ^ n → k ≤ 9223372036854775807 → (L t).length + n ≤ 1000 → ∃ u, loopO body (k, t) = some u ∧ (L u).length ≤ 1000
  | 0, k, t, h, _, ht => by
    rw [loopO_eq, h2 k t (by simp at h; omega)]
    exact ⟨_, rfl, by omega⟩
  | n + 1, k, t, h, hM, ht => by
    by_cases hk : k > 0
    · rw [loopO_eq, h1 k t hk hM (by omega)]
      have e : k.tdiv 10 = k / 10 := Int.tdiv_eq_ediv_of_nonneg (by omega)
      refine digits_loop h1 h2 n _ _ ?_ (by omega) ?_
      · rw [e]
        rw [Int.pow_succ] at h
        omega
      · rw [L_cat, List.length_append, L_strB]
        simp
        omega
    · rw [loopO_eq, h2 k t (by omega)]
      exact ⟨_, rfl, by omega⟩
end Go.TI
