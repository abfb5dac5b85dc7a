/- ShowFlash: the law holds, for all arguments. No condition. -/
import Derived.Test.YtpbgcipjfejjhaaSFR2PB
namespace Go.TI
open Go
set_option linter.unusedSimpArgs false
set_option linter.unusedVariables false

def zLeaf (x : Leaf) : Nat := x.Text.size
def zBlock (x : Block) : Nat := zl zLeaf x.Leaves
def zFlash (x : Flash) : Nat := zl zBlock x.Blocks
theorem szLeaf_eq (x : Leaf) (h : oLeaf x) : Weighs zLeaf w_szLeaf x := by
  intro left h0 h1
  have hx : x.Text.size ≤ 9223372036854775807 := h.2
  have e : sln x.Text = (x.Text.size : Int) := rfl
  unfold w_szLeaf
  rw [sb_eq (by rw [e]; omega) (by rw [e]; omega), e]
  unfold zLeaf
  by_cases hc : (x.Text.size : Int) ≤ left
  · rw [decide_eq_false (by omega), cond_false]
    exact ⟨_, rfl, by rw [if_pos hc]⟩
  · rw [decide_eq_true (by omega), cond_true]
    exact ⟨_, rfl, by rw [if_neg hc]; omega⟩
theorem szLeafS_eq (l : List Leaf) (h : ol oLeaf l) : Weighs (zl zLeaf) w_szLeafS l :=
  Weighs.list (sz_listF zLeaf w_szLeaf l h.1 (fun x hx => szLeaf_eq x (h.2 x hx)) (fun _ _ => rfl) (fun _ => rfl))
/-- A struct that weighs as its list does. -/
theorem Weighs.wrap {α β : Type} {z : β → Nat} {g : β → Int → Option Int} {f : α → Int → Option Int} {x : α} {y : β} {z' : α → Nat} (h : Weighs z g y) (hz : z' x = z y) (hf : ∀ left, f x left = (g y left).bind fun v => bif decide (v < 0) then some (-1) else some v) : Weighs z' f x := by
  intro left h0 h1
  rw [hz]
  obtain ⟨v, h2, h3⟩ := h left h0 h1
  rw [hf, h2, Option.bind_some]
  split at h3
  · rename_i hc
    rw [decide_eq_false (by omega), cond_false]
    exact ⟨_, rfl, by rw [if_pos hc]; exact h3⟩
  · rename_i hc
    rw [decide_eq_true h3, cond_true]
    exact ⟨_, rfl, by rw [if_neg hc]; omega⟩
theorem szBlock_eq (x : Block) (h : oBlock x) : Weighs zBlock w_szBlock x := Weighs.wrap (szLeafS_eq x.Leaves h.2.2) rfl (fun _ => rfl)
theorem szBlockS_eq (l : List Block) (h : ol oBlock l) : Weighs (zl zBlock) w_szBlockS l :=
  Weighs.list (sz_listF zBlock w_szBlock l h.1 (fun x hx => szBlock_eq x (h.2 x hx)) (fun _ _ => rfl) (fun _ => rfl))
theorem szFlash_eq (x : Flash) (h : oFlash x) : Weighs zFlash w_szFlash x := Weighs.wrap (szBlockS_eq x.Blocks h) rfl (fun _ => rfl)
theorem toLeafS_eq (l : List Leaf) (h : zl zLeaf l ≤ 1048576) : w_toLeafS l = some l := by
  have := zl_len (z := zLeaf) (l := l)
  exact to_listF w_toLeaf l (by omega) (by omega) (fun _ _ => rfl) (fun _ _ => rfl) rfl
theorem toBlock_eq (x : Block) (h : zBlock x ≤ 1048576) : w_toBlock x = some x := by
  unfold w_toBlock
  rw [toLeafS_eq _ h]
  rfl
theorem toBlockS_eq (l : List Block) (h : zl zBlock l ≤ 1048576) : w_toBlockS l = some l := by
  have := zl_len (z := zBlock) (l := l)
  exact to_listF w_toBlock l (by omega) (by omega) (fun x hx => toBlock_eq x (by have := zl_mem (z := zBlock) hx; omega)) (fun _ _ => rfl) rfl
theorem toFlash_eq (x : Flash) (h : zFlash x ≤ 1048576) : w_toFlash x = some x := by
  unfold w_toFlash
  rw [toBlockS_eq _ h]
  rfl
theorem eqLeaf_eq (a b : Leaf) : Tells (w_eqLeaf a b) a b := by
  cases a with
  | mk a1 a2 =>
  cases b with
  | mk b1 b2 =>
  have : Says (w_eqLeaf (Leaf.mk a1 a2) (Leaf.mk b1 b2)) (a1 = b1 ∧ a2 = b2 ∧ True) := says_and (by simp) (says_and seq_ne says_true)
  simpa only [Tells, Says, Leaf.mk.injEq, and_true] using this
theorem eqLeafS_eq (a b : List Leaf) (h : a.length ≤ 1048576) : Tells (w_eqLeafS a b) a b :=
  eq_listF w_eqLeaf a b (by omega) (fun x _ y _ => eqLeaf_eq x y) (fun _ => rfl) rfl
theorem eqBlock_eq (a b : Block) (h : zBlock a ≤ 1048576) : Tells (w_eqBlock a b) a b := by
  cases a with
  | mk a1 a2 a3 =>
  cases b with
  | mk b1 b2 b3 =>
  have hl := zl_len (z := zLeaf) (l := a3)
  have : Says (w_eqBlock (Block.mk a1 a2 a3) (Block.mk b1 b2 b3)) (a1 = b1 ∧ a2 = b2 ∧ a3 = b3 ∧ True) := says_and (by cases a1 <;> cases b1 <;> simp) (says_and (by simp) (says_bind (eqLeafS_eq a3 b3 (by unfold zBlock at h; simp only at h; omega)) says_true))
  simpa only [Tells, Says, Block.mk.injEq, and_true] using this
theorem eqBlockS_eq (a b : List Block) (h : zl zBlock a ≤ 1048576) : Tells (w_eqBlockS a b) a b := by
  have := zl_len (z := zBlock) (l := a)
  exact eq_listF w_eqBlock a b (by omega) (fun x hx y _ => eqBlock_eq x y (by have := zl_mem (z := zBlock) hx; omega)) (fun _ => rfl) rfl
theorem eqFlash_eq (a b : Flash) (h : zFlash a ≤ 1048576) : Tells (w_eqFlash a b) a b := by
  cases a with
  | mk a1 =>
  cases b with
  | mk b1 =>
  have : Says (w_eqFlash (Flash.mk a1) (Flash.mk b1)) (a1 = b1 ∧ True) := says_bind (eqBlockS_eq a1 b1 h) says_true
  simpa only [Tells, Says, Flash.mk.injEq, and_true] using this

theorem capF_of (f : Flash) (h : zFlash f ≤ 1048576) : capF f ∧ ∀ b ∈ f.Blocks, ∀ x ∈ b.Leaves, (L x.Text).length ≤ 1048576 := by
  have h1 := zl_len (z := zBlock) (l := f.Blocks)
  unfold zFlash at h
  refine ⟨⟨by omega, fun b hb => ?_⟩, fun b hb x hx => ?_⟩
  · have h2 := zl_mem (z := zBlock) hb
    have h3 := zl_len (z := zLeaf) (l := b.Leaves)
    have e : zBlock b = zl zLeaf b.Leaves := rfl
    omega
  · have h2 := zl_mem (z := zBlock) hb
    have h3 := zl_mem (z := zLeaf) hx
    have e : zBlock b = zl zLeaf b.Leaves := rfl
    have e2 : zLeaf x = x.Text.size := rfl
    rw [L_size]
    omega
theorem leafSign_eq (x : Leaf) (hx : (L x.Text).length ≤ 1048576) (out : ByteArray) (ho : (L out).length ≤ 1048576) : ∃ c, i_leafSign x = some (bs [c]) ∧
    ((s_ReadPage x.Text).bind fun v2 =>
     (bif (x.Is == 0) then ((cat out (bs [46])).bind fun x3 => some x3)
      else (bif (x.Is == 2) then ((cat out (bs [33])).bind fun x4 => some x4)
      else ((bif v2.2 then (some (v2.1.Kind == 1)) else (some false) : Option (Bool)).bind fun j2 =>
      bif j2 then ((cat out (bs [100])).bind fun x5 => some x5)
      else (bif v2.2 then ((cat out (bs [109])).bind fun x6 => some x6)
      else ((cat out (bs [63])).bind fun x7 => some x7)))) : Option ByteArray)) = some (out ++ bs [c]) := by
  obtain ⟨p, ok, h1, h2, h3, h4⟩ := ReadPage_eq x.Text (by omega)
  have hc : ∀ c, cat out (bs [c]) = some (out ++ bs [c]) := fun c => cat_eq _ _ (by rw [L_bs]; simp only [List.length_singleton]; omega)
  unfold i_leafSign
  rw [h1, h2]
  simp only [Option.bind_some, hc]
  cases x.Is == 0 with
  | true => exact ⟨46, rfl, rfl⟩
  | false =>
    cases x.Is == 2 with
    | true => exact ⟨33, rfl, rfl⟩
    | false =>
      cases ok with
      | false => exact ⟨63, rfl, rfl⟩
      | true =>
        cases hk : p.Kind == 1 with
        | true => exact ⟨100, by simp [hk], by simp [hk]⟩
        | false => exact ⟨109, by simp [hk], by simp [hk]⟩
theorem ShowFlash_eq (f : Flash) (h : capF f) (hT : ∀ b ∈ f.Blocks, ∀ x ∈ b.Leaves, (L x.Text).length ≤ 1048576) : ∃ v, s_ShowFlash f = some v ∧ i_ShowFlash f = some v := by
  unfold s_ShowFlash i_ShowFlash
  rw [eq_FlashOk]
  obtain ⟨ok, h1, h2⟩ := FlashOk_ex f h
  rw [h1]
  simp only [Option.bind_some]
  cases ok with
  | false => exact ⟨_, rfl, rfl⟩
  | true =>
    obtain ⟨h3, h4⟩ := h2 rfl
    simp only [Bool.not_true, cond_false]
    obtain ⟨v, h5, h6, _⟩ := loop_ex2 (body := fun s : ByteArray × Int => s_ShowFlash_b1 f s.1 s.2) (body' := fun s : ByteArray × Int => i_ShowFlash_b1 f s.1 s.2) (fun (s : ByteArray) i => (s, i)) f.Blocks.length (fun i s => (L s).length ≤ 10 * i) (fun _ => True)
      (fun s i hi hs => by
        have hgi : f.Blocks[i]? = some f.Blocks[i] := List.getElem?_eq_getElem hi
        have hm : f.Blocks[i] ∈ f.Blocks := List.getElem_mem _
        have hl4 := h4 _ hm
        have hT' := hT _ hm
        simp only [s_ShowFlash_b1, i_ShowFlash_b1, lt_ln, decide_eq_true hi, cond_true, gi_nat, hgi, Option.bind_some]
        obtain ⟨u, q1, q2, q3⟩ := loop_ex2 (body := fun s : ByteArray × Int => s_ShowFlash_b2 f (i : Int) s.1 s.2) (body' := fun s : ByteArray × Int => i_ShowFlash_b2 f.Blocks[i] s.1 s.2) (fun (s : ByteArray) i => (s, i)) 4 (fun k u => (L u).length ≤ 10 * i + k) (fun u => (L u).length ≤ 10 * i + 4)
          (fun u k hk hu => by
            have hk' : k < f.Blocks[i].Leaves.length := by omega
            have hx : f.Blocks[i].Leaves[k] ∈ f.Blocks[i].Leaves := List.getElem_mem _
            obtain ⟨c, g1, g2⟩ := leafSign_eq f.Blocks[i].Leaves[k] (hT' _ hx) u (by omega)
            have hgk : f.Blocks[i].Leaves[k]? = some f.Blocks[i].Leaves[k] := List.getElem?_eq_getElem hk'
            simp only [s_ShowFlash_b2, i_ShowFlash_b2, lt_ln, decide_eq_true hk', cond_true, gi_nat, hgi, hgk, Option.bind_some, g1]
            rw [decide_eq_true (by omega : (k : Int) < 4), cond_true, ← Option.bind_assoc, g2]
            rw [cat_eq _ _ (by rw [L_bs]; simp only [List.length_singleton]; omega), Option.bind_some, ad1 (by omega)]
            exact ⟨rfl, .inl ⟨_, rfl, by rw [L_cat, L_bs, List.length_append, List.length_singleton]; omega⟩⟩)
          (fun u hu => by
            simp only [s_ShowFlash_b2, i_ShowFlash_b2]
            rw [decide_eq_false (by omega : ¬((4 : Nat) : Int) < 4), decide_eq_false (by rw [ln_eq, hl4]; omega : ¬((4 : Nat) : Int) < ln f.Blocks[i].Leaves)]
            exact ⟨rfl, u, rfl, hu⟩) (s := s) (by omega)
        rw [q1, q2]
        simp only [Option.bind_some]
        refine ⟨trivial, .inl ?_⟩
        cases f.Blocks[i].Bad with
        | true =>
          simp only [cond_true]
          rw [cat_eq _ _ (by rw [L_bs]; simp only [List.length_singleton]; omega), Option.bind_some, cat_eq _ _ (by rw [L_cat, L_bs, L_bs]; simp only [List.length_append, List.length_singleton]; omega), Option.bind_some, ad1 (by omega)]
          exact ⟨_, rfl, by rw [L_cat, L_cat, L_bs, L_bs]; simp only [List.length_append, List.length_singleton]; omega⟩
        | false =>
          simp only [cond_false]
          rw [cat_eq _ _ (by rw [L_bs]; simp only [List.length_singleton]; omega), Option.bind_some, ad1 (by omega)]
          exact ⟨_, rfl, by rw [L_cat, L_bs]; simp only [List.length_append, List.length_singleton]; omega⟩)
      (fun s hs => by
        simp only [s_ShowFlash_b1, i_ShowFlash_b1, lt_ln, Nat.lt_irrefl, decide_false, cond_false]
        exact ⟨trivial, s, rfl, trivial⟩) (s := bs []) (by rw [L_bs]; simp)
    rw [h5, h6]
    exact ⟨v, rfl, rfl⟩
theorem showFlash_true (f : Flash) (hf : oFlash f) : w_FnExactShowFlash f = some true := by
  unfold w_FnExactShowFlash
  obtain ⟨v, h1, h2⟩ := szFlash_eq f hf 1048576 (by omega) (by omega)
  rw [h1, Option.bind_some]
  split at h2
  · rename_i hc
    rw [decide_eq_false (by omega), cond_false]
    have z : zFlash f ≤ 1048576 := by omega
    obtain ⟨c1, c2⟩ := capF_of f z
    obtain ⟨u, h3, h4⟩ := ShowFlash_eq f c1 c2
    have hs : seq u u = true := by rw [seq_eq, decide_eq_true_eq]
    simp only [toFlash_eq f z, Option.bind_some, h3, h4, hs, tells_self (eqFlash_eq f f z), Bool.not_true, cond_false]
  · rw [decide_eq_true h2, cond_true]
end Go.TI
