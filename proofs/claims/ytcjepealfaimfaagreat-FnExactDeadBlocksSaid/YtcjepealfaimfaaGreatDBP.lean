/- What is needed on a block; DeadBlocks: the law holds, for all arguments. No condition. -/
import Derived.Test.YtcjepealfaimfaaGreatDBD
import Derived.Test.YtcjepealfaimfaaGreatDBPL
import Derived.Test.YtcjepealfaimfaaGreatDBSOA
import Derived.Test.YtcjepealfaimfaaGreatDBTIG

namespace Go.TI
open Go
set_option linter.unusedSimpArgs false
set_option linter.unusedVariables false

theorem eq_in : i_in = s_l01In := rfl
theorem gi_eq_some {α : Type} {l : List α} {i : Int} {x : α} (h : gi l i = some x) : 0 ≤ i ∧ l[i.toNat]? = some x := by
  unfold gi at h
  split at h
  · exact ⟨by assumption, h⟩
  · cases h
def capF (f : Flash) : Prop := f.Blocks.length ≤ 1048576 ∧ ∀ b ∈ f.Blocks, b.Leaves.length ≤ 1048576
theorem in_eq (x a b : Int) : s_l01In x a b = some (decide (a ≤ x) && decide (x ≤ b)) := by
  unfold s_l01In
  by_cases h : x ≥ a
  · rw [decide_eq_true h, cond_true, Bool.true_and]
  · rw [decide_eq_false h, cond_false, Bool.false_and]
end Go.TI


namespace Go.TI
open Go
set_option linter.unusedSimpArgs false
set_option linter.unusedVariables false

def u32 (s : Int) : Prop := 0 ≤ s ∧ s < 4294967296
theorem SumBits_eq (s : Int) (hs : u32 s) : ∃ v, loopO (fun s : Int × Int => s_SumMore_b2 s.1 s.2) (s, 0) = some v ∧ loopO (fun s : Int × Int => i_SumMore_b2 s.1 s.2) (s, 0) = some v ∧ u32 v :=
  loop_ex2 (body := fun s : Int × Int => s_SumMore_b2 s.1 s.2) (body' := fun s : Int × Int => i_SumMore_b2 s.1 s.2) (fun (s : Int) i => (s, i)) 8 (fun _ s => u32 s) u32
    (fun s i hi hs => by
      simp only [s_SumMore_b2, i_SumMore_b2]
      rw [decide_eq_true (by omega : (i : Int) < 8), cond_true, cond_true, an1 hs.1 hs.2, ← tdiv2 hs.1 hs.2]
      refine ⟨rfl, .inl ?_⟩
      have hw : u32 (IntKind.u32.wrap (Int.tdiv s 2)) := by rw [IntKind.wrap_u32]; constructor <;> omega
      cases Int.tmod s 2 == 1
      · exact ⟨_, by rw [cond_false, ad1 (by omega)], hw⟩
      · exact ⟨_, by rw [cond_true, ad1 (by omega)], xr_in _ _⟩)
    (fun s hs => by
      simp only [s_SumMore_b2, i_SumMore_b2]
      exact ⟨rfl, s, rfl, hs⟩) (s := s) hs
theorem SumMore_eq (s : Int) (t : ByteArray) (hs : u32 s) (ht : (L t).length ≤ 9223372036854775806) : ∃ v, s_SumMore s t = some v ∧ i_SumMore s t = some v ∧ u32 v := by
  obtain ⟨v, h1, h2, h3⟩ := loop_ex2 (body := fun s : Int × Int => s_SumMore_b1 t s.1 s.2) (body' := fun s : Int × Int => i_SumMore_b1 t s.1 s.2) (fun (s : Int) i => (s, i)) (L t).length (fun _ s => u32 s) u32
    (fun s i hi hs => by
      obtain ⟨v, h1, h2, h3⟩ := SumBits_eq (xr s (IntKind.u32.wrap ((L t)[i]).toNat)) (xr_in _ _)
      simp only [s_SumMore_b1, i_SumMore_b1]
      rw [decide_eq_true (by rw [sln_eq]; omega : (i : Int) < sln t), cond_true, cond_true, sx_nat t hi, Option.bind_some, Option.bind_some, h1, h2]
      exact ⟨rfl, .inl ⟨v, by rw [Option.bind_some, ad1 (by omega)], h3⟩⟩)
    (fun s hs => by
      simp only [s_SumMore_b1, i_SumMore_b1]
      rw [decide_eq_false (by rw [sln_eq]; omega : ¬((L t).length : Int) < sln t), cond_false, cond_false]
      exact ⟨rfl, s, rfl, hs⟩) (s := s) hs
  unfold s_SumMore i_SumMore
  rw [h1, h2]
  exact ⟨v, rfl, rfl, h3⟩
theorem SumOf_eq (t : ByteArray) (ht : (L t).length ≤ 9223372036854775806) : ∃ v, s_SumOf t = some v ∧ i_SumOf t = some v ∧ u32 v := by
  obtain ⟨v, h1, h2, h3⟩ := SumMore_eq 4294967295 t ⟨by omega, by omega⟩ ht
  unfold s_SumOf i_SumOf
  rw [h1, h2]
  exact ⟨v, rfl, rfl, h3⟩
def four (v : Int) : ByteArray := strB [(IntKind.u8.wrap (Int.fdiv v (2 ^ (min (24 : Int).toNat IntKind.u32.bits)))), (IntKind.u8.wrap (Int.fdiv v (2 ^ (min (16 : Int).toNat IntKind.u32.bits)))), (IntKind.u8.wrap (Int.fdiv v (2 ^ (min (8 : Int).toNat IntKind.u32.bits)))), (IntKind.u8.wrap v)]
theorem four_len (v : Int) : (L (four v)).length = 4 := by rw [four, L_strB]; rfl
theorem Sealed_eq (t : ByteArray) : i_Sealed t = s_Sealed t := by
  unfold i_Sealed s_Sealed
  by_cases h : (sln t) > 20000
  · rw [decide_eq_true h]; rfl
  · rw [decide_eq_false h, cond_false, cond_false]
    rw [sln_eq] at h
    obtain ⟨v, h1, h2, _⟩ := SumOf_eq t (by omega)
    rw [h1, h2]
    rfl
theorem Sealed_ex (t : ByteArray) : (20000 < (L t).length → s_Sealed t = some (bs [], false)) ∧ ((L t).length ≤ 20000 → ∃ v, s_SumOf t = some v ∧ s_Sealed t = some (t ++ four v, true)) := by
  unfold s_Sealed
  rw [sln_eq]
  refine ⟨fun h => by rw [decide_eq_true (by omega), cond_true], fun h => ?_⟩
  obtain ⟨v, h1, h2, _⟩ := SumOf_eq t (by omega)
  rw [decide_eq_false (by omega), cond_false, h1]
  refine ⟨v, rfl, ?_⟩
  have : s_l02Four v = some (four v) := rfl
  rw [Option.bind_some, this, Option.bind_some, cat_eq _ _ (by rw [four_len]; omega), Option.bind_some]
theorem Unsealed_eq (t : ByteArray) (ht : (L t).length ≤ 9223372036854775806) : ∃ u ok, s_Unsealed t = some (u, ok) ∧ i_Unsealed t = some (u, ok) ∧ (ok = true → (L u).length ≤ 20000 ∧ ∃ v, s_SumOf u = some v ∧ t = u ++ four v) ∧ (ok = false → u = bs []) := by
  unfold s_Unsealed i_Unsealed
  have e4 : sb (sln t) 4 = ((L t).length : Int) - 4 := by rw [sln_eq, sb_eq (by omega) (by omega)]
  rw [e4]
  by_cases h4 : (L t).length < 4
  · rw [decide_eq_true (by omega : ((L t).length : Int) - 4 < 0), decide_eq_true (by rw [sln_eq]; omega : sln t < 4)]
    exact ⟨bs [], false, rfl, rfl, by simp, fun _ => rfl⟩
  · rw [decide_eq_false (by omega : ¬((L t).length : Int) - 4 < 0), decide_eq_false (by rw [sln_eq]; omega : ¬sln t < 4)]
    simp only [cond_false]
    have en : ((L t).length : Int) - 4 = (((L t).length - 4 : Nat) : Int) := by omega
    rw [en, sln_eq]
    have hsub : sub t 0 (((L t).length - 4 : Nat) : Int) = some (t.extract 0 ((L t).length - 4)) := sub_nat t (i := 0) (by omega) (by omega)
    have hsub2 : sub t (((L t).length - 4 : Nat) : Int) ((L t).length : Int) = some (t.extract ((L t).length - 4) (L t).length) := sub_nat t (by omega) (by omega)
    rw [hsub, hsub2]
    simp only [Option.bind_some]
    have hu : (L (t.extract 0 ((L t).length - 4))).length = (L t).length - 4 := by rw [L_ext]; simp
    obtain ⟨k1, k2⟩ := Sealed_ex (t.extract 0 ((L t).length - 4))
    rw [Sealed_eq]
    by_cases hb : 20000 < (L t).length - 4
    · rw [decide_eq_true (by omega : (((L t).length - 4 : Nat) : Int) > 20000), k1 (by omega)]
      exact ⟨bs [], false, rfl, rfl, by simp, fun _ => rfl⟩
    · obtain ⟨v, h1, h2⟩ := k2 (by omega)
      rw [decide_eq_false (by omega : ¬(((L t).length - 4 : Nat) : Int) > 20000), h1, h2]
      have h3 : s_l02Four v = some (four v) := rfl
      simp only [cond_false, Option.bind_some, h3, Bool.not_true]
      have hiff : seq (t.extract ((L t).length - 4) (L t).length) (four v) = seq (t.extract 0 ((L t).length - 4) ++ four v) t := by
        rw [seq_L, seq_L, L_cat, L_ext, L_ext, Bool.eq_iff_iff, decide_eq_true_eq, decide_eq_true_eq]
        have e1 : List.take ((L t).length - ((L t).length - 4)) (List.drop ((L t).length - 4) (L t)) = (L t).drop ((L t).length - 4) := List.take_of_length_le (by simp)
        have e2 : List.take ((L t).length - 4 - 0) (List.drop 0 (L t)) = (L t).take ((L t).length - 4) := by simp
        rw [e1, e2]
        constructor
        · intro h; rw [← h, List.take_append_drop]
        · intro h
          have h' : (L t).take ((L t).length - 4) ++ L (four v) = (L t).take ((L t).length - 4) ++ (L t).drop ((L t).length - 4) := by rw [List.take_append_drop]; exact h
          exact (List.append_cancel_left h').symm
      rw [hiff]
      cases hs : seq (t.extract 0 ((L t).length - 4) ++ four v) t with
      | false => exact ⟨bs [], false, rfl, rfl, by simp, fun _ => rfl⟩
      | true =>
        rw [seq_eq, decide_eq_true_eq] at hs
        exact ⟨_, true, rfl, rfl, fun _ => ⟨by omega, v, h1, hs.symm⟩, by simp⟩

theorem l01Var_eq (n : Nat) (h : n ≤ 1099511627776) : ∃ s, s_l01Var (n : Int) = some s ∧ L s = encV n := by
  unfold s_l01Var
  obtain ⟨m, o, h1, h2, h3, h4⟩ := encV_loop (body := fun s : Int × List Int => s_l01Var_b1 s.1 s.2) (fun _ _ => rfl) n [] (by simpa using h)
  rw [h1, Option.bind_some]
  have : IntKind.u8.wrap (m : Int) = m := by rw [IntKind.wrap_u8]; omega
  rw [this, ap_eq (by simp only [List.length_singleton, List.length_nil] at h3 ⊢; omega), Option.bind_some]
  refine ⟨_, rfl, ?_⟩
  rw [L_strB, h4]
  simp

def readV (t : ByteArray) (at_ : Int) (r : Int × Int × Bool) : Prop :=
  (r.2.2 = false ∧ r.1 = 0 ∧ r.2.1 = 0) ∨ (r.2.2 = true ∧ ∃ (a b n : Nat), at_ = a ∧ r.2.1 = b ∧ r.1 = n ∧ a < b ∧ b ≤ (L t).length ∧ n ≤ 1000000000 ∧ encV n = ((L t).drop a).take (b - a))
theorem take_succ_drop (l : List UInt8) (a k : Nat) (h : a + k < l.length) : (l.drop a).take (k + 1) = (l.drop a).take k ++ [l[a + k]] := by
  rw [List.take_succ_eq_append_getElem (by simp; omega), List.getElem_drop]
theorem pow128 (k : Nat) (h : k < 5) : (128 : Nat) ^ k ≤ 268435456 := by
  have : k ≤ 4 := by omega
  calc 128 ^ k ≤ 128 ^ 4 := Nat.pow_le_pow_right (by omega) this
    _ = 268435456 := by decide
theorem valV_lt : ∀ ds : List UInt8, valV ds < 128 ^ ds.length
  | [] => by simp [valV]
  | d :: ds => by
    have := valV_lt ds
    simp only [valV, List.length_cons, Nat.pow_succ]
    omega
theorem shl_dig (x k : Nat) (hx : x < 128) (hk : k < 5) : shl .i64 (x : Int) (ml 7 (k : Int)) = some ((x * 128 ^ k : Nat) : Int) := by
  have h7 : ml 7 (k : Int) = ((7 * k : Nat) : Int) := by rw [ml_eq (by omega) (by omega)]; omega
  unfold shl
  rw [h7, if_neg (by omega)]
  have e : (2 : Int) ^ (min ((7 * k : Nat) : Int).toNat IntKind.i64.bits) = ((128 ^ k : Nat) : Int) := by
    have hb : IntKind.i64.bits = 64 := rfl
    have h128 : (128 : Nat) ^ k = 2 ^ (7 * k) := by rw [Nat.pow_mul]
    rw [hb, Int.toNat_natCast, Nat.min_eq_left (by omega), h128]
    norm_cast
  rw [e]
  have hp := pow128 k hk
  have hm : x * 128 ^ k ≤ 128 * 268435456 := Nat.mul_le_mul (by omega) hp
  have ec : (x : Int) * ((128 ^ k : Nat) : Int) = ((x * 128 ^ k : Nat) : Int) := by norm_cast
  rw [ec, wr64 (by omega) (by omega)]
theorem tmod128 (x : Nat) : Int.tmod (x : Int) 128 = ((x % 128 : Nat) : Int) := rfl
theorem ReadVar_eq (t : ByteArray) (at_ : Int) (ht : (L t).length ≤ 4611686018427387904) (hat : oI at_) : ∃ r, s_ReadVar t at_ = some r ∧ i_ReadVar t at_ = some r ∧ readV t at_ r := by
  have fails : ∀ (at_ : Int), (at_ < 0 ∨ ((L t).length : Int) ≤ at_) → oI at_ → i_ReadVar t at_ = some (0, 0, false) := by
    intro at_ h hat
    unfold i_ReadVar
    rw [loopO_eq]
    simp only [i_ReadVar_b1]
    rw [decide_eq_true (by omega : (0 : Int) < 5), cond_true]
    by_cases h0 : at_ ≥ 0
    · rw [decide_eq_true h0, cond_true, sln_eq, sb_eq (by omega) (by omega), decide_eq_false (by omega)]
      rfl
    · rw [decide_eq_false h0]
      rfl
  by_cases hin : 0 ≤ at_ ∧ at_ < (L t).length
  · obtain ⟨a, rfl⟩ := Int.eq_ofNat_of_zero_le hin.1
    have ha : a < (L t).length := by omega
    have key : ∀ (B1 : Int × Int × Int → Option ((Int × Int × Int) ⊕ ((Unit) ⊕ ((Int × Int × Bool))))) (B2 : Int × Int → Option ((Int × Int) ⊕ ((Unit) ⊕ ((Int × Int × Bool))))), (∀ n sc i, B1 (n, sc, i) = s_ReadVar_b1 t (a : Int) n sc i) → (∀ n k, B2 (n, k) = i_ReadVar_b1 t (a : Int) n k) → ∀ (m k : Nat) , k + m = 5 → a + k ≤ (L t).length → (∀ d ∈ ((L t).drop a).take k, 128 ≤ d.toNat) →
        ∃ r, (loopO B1 (((valV (((L t).drop a).take k) : Nat) : Int), ((128 ^ k : Nat) : Int), ((a + k : Nat) : Int)) = some r ∧ loopO B2 (((valV (((L t).drop a).take k) : Nat) : Int), (k : Int)) = some r) ∧ (r = .inl () ∨ ∃ q, r = .inr q ∧ readV t (a : Int) q) := by
      intro B1 B2 hB1 hB2 m
      induction m with
      | zero =>
        intro k hk hle hd
        have hk5 : k = 5 := by omega
        subst hk5
        refine ⟨.inl (), ⟨?_, ?_⟩, .inl rfl⟩
        · rw [loopO_eq]
          simp only [hB1, s_ReadVar_b1]
          rw [ad_eq (by omega) (by omega), decide_eq_false (by omega : ¬((a + 5 : Nat) : Int) < (a : Int) + 5)]
          cases decide (((a + 5 : Nat) : Int) < sln t) <;> rfl
        · rw [loopO_eq]
          simp only [hB2, i_ReadVar_b1]
          rw [decide_eq_false (by omega : ¬((5 : Nat) : Int) < 5)]
          rfl
      | succ m ih =>
        intro k hk hle hd
        rw [loopO_eq, loopO_eq B2]
        simp only [hB1, hB2, s_ReadVar_b1, i_ReadVar_b1]
        have hk5 : k < 5 := by omega
        rw [ad_eq (b := 5) (by omega) (by omega), decide_eq_true (by omega : ((a + k : Nat) : Int) < (a : Int) + 5), decide_eq_true (by omega : (k : Int) < 5), decide_eq_true (by omega : (a : Int) ≥ 0), sln_eq, sb_eq (by omega) (by omega)]
        by_cases hlt : a + k < (L t).length
        · rw [decide_eq_true (by omega : ((a + k : Nat) : Int) < ((L t).length : Int)), decide_eq_true (by omega : (a : Int) < ((L t).length : Int) - k)]
          have eak : ad (a : Int) (k : Int) = ((a + k : Nat) : Int) := by rw [ad_eq (by omega) (by omega)]; omega
          simp only [cond_true, Option.bind_some, sx_nat t hlt, eak]
          have hx := u8_lt ((L t)[a + k])
          have htk := take_succ_drop (L t) a k hlt
          have hpl : (((L t).drop a).take k).length = k := by simp; omega
          have hvv := valV_append (((L t).drop a).take k) [(L t)[a + k]]
          rw [← htk, hpl] at hvv
          have hvl := valV_lt (((L t).drop a).take k)
          rw [hpl] at hvl
          have hp := pow128 k hk5
          generalize hxd : (L t)[a + k] = x at hx htk hvv
          simp only [valV, Nat.mul_zero, Nat.add_zero] at hvv
          have hw : IntKind.i64.wrap (x.toNat : Int) = x.toNat := wr64 (by omega) (by omega)
          have hmul : x.toNat % 128 * 128 ^ k ≤ 127 * 268435456 := Nat.mul_le_mul (by omega) hp
          have emul : ml ((x.toNat % 128 : Nat) : Int) ((128 ^ k : Nat) : Int) = ((x.toNat % 128 * 128 ^ k : Nat) : Int) := by
            have ec : ((x.toNat % 128 : Nat) : Int) * ((128 ^ k : Nat) : Int) = ((x.toNat % 128 * 128 ^ k : Nat) : Int) := by norm_cast
            rw [ml_eq (by rw [ec]; omega) (by rw [ec]; omega), ec]
          have enew : ad (((valV (((L t).drop a).take k) : Nat)) : Int) ((x.toNat % 128 * 128 ^ k : Nat) : Int) = ((valV (((L t).drop a).take (k + 1)) : Nat) : Int) := by
            rw [ad_eq (by omega) (by omega), hvv, Nat.mul_comm (128 ^ k)]
            omega
          rw [hw, tmod128, shl_dig _ k (by omega) hk5]
          simp only [Option.bind_some, emul, enew]
          by_cases hx128 : x.toNat < 128
          · rw [decide_eq_true (by omega : (x.toNat : Int) < 128), decide_eq_false (by omega : ¬(x.toNat : Int) ≥ 128)]
            simp only [cond_true, cond_false]
            have ek1 : ad ((a + k : Nat) : Int) 1 = ((a + k + 1 : Nat) : Int) := ad1 (by omega)
            have hcan := encV_valV (((L t).drop a).take k) x hd hx128
            rw [← htk] at hcan
            have hne : (((L t).drop a).take k ≠ []) ↔ 0 < k := by
              rw [← List.length_pos_iff, hpl]
            rw [hne] at hcan
            have hsub : sub t (a : Int) ((a + k + 1 : Nat) : Int) = some (t.extract a (a + k + 1)) := sub_nat t (by omega) (by omega)
            rw [ek1, hsub]
            by_cases hbig : valV (((L t).drop a).take (k + 1)) > 1000000000
            · rw [decide_eq_true (by omega : ((valV (((L t).drop a).take (k + 1)) : Nat) : Int) > 1000000000)]
              refine ⟨.inr (0, 0, false), ⟨rfl, ?_⟩, .inr ⟨_, rfl, .inl ⟨rfl, rfl, rfl⟩⟩⟩
              cases (x.toNat : Int) == 0
              · rfl
              · cases decide ((k : Int) > 0) <;> rfl
            · rw [decide_eq_false (by omega : ¬((valV (((L t).drop a).take (k + 1)) : Nat) : Int) > 1000000000)]
              obtain ⟨s, hs1, hs2⟩ := l01Var_eq (valV (((L t).drop a).take (k + 1))) (by omega)
              simp only [cond_false, Option.bind_some, hs1]
              have hseq : seq s (t.extract a (a + k + 1)) = decide (¬(x.toNat = 0 ∧ 0 < k)) := by
                rw [seq_L, hs2, L_ext, show a + k + 1 - a = k + 1 by omega, Bool.eq_iff_iff, decide_eq_true_eq, decide_eq_true_eq]
                exact hcan
              rw [hseq]
              by_cases hz : x.toNat = 0 ∧ 0 < k
              · rw [decide_eq_false (fun e => e hz)]
                refine ⟨.inr (0, 0, false), ⟨rfl, ?_⟩, .inr ⟨_, rfl, .inl ⟨rfl, rfl, rfl⟩⟩⟩
                have : ((x.toNat : Int) == 0) = true := by rw [hz.1]; rfl
                rw [this, decide_eq_true (by omega : (k : Int) > 0)]
                rfl
              · rw [decide_eq_true hz]
                refine ⟨.inr (((valV (((L t).drop a).take (k + 1)) : Nat) : Int), ((a + k + 1 : Nat) : Int), true), ⟨rfl, ?_⟩, .inr ⟨_, rfl, .inr ⟨rfl, a, a + k + 1, _, rfl, rfl, rfl, by omega, by omega, by omega, ?_⟩⟩⟩
                · by_cases hx0 : x.toNat = 0
                  · have : ((x.toNat : Int) == 0) = true := by rw [hx0]; rfl
                    rw [this, decide_eq_false (by omega : ¬(k : Int) > 0)]
                    rfl
                  · have : ((x.toNat : Int) == 0) = false := by simpa using hx0
                    rw [this]
                    rfl
                · rw [show a + k + 1 - a = k + 1 by omega]
                  exact hcan.2 hz
          · rw [decide_eq_false (by omega : ¬(x.toNat : Int) < 128), decide_eq_true (by omega : (x.toNat : Int) ≥ 128)]
            simp only [cond_true, cond_false]
            have e1 : ml ((128 ^ k : Nat) : Int) 128 = ((128 ^ (k + 1) : Nat) : Int) := by
              rw [ml_eq (by omega) (by omega), Nat.pow_succ]; norm_cast
            have e2 : ad ((a + k : Nat) : Int) 1 = ((a + (k + 1) : Nat) : Int) := ad1 (by omega)
            have e3 : ad (k : Int) 1 = ((k + 1 : Nat) : Int) := ad1 (by omega)
            rw [e1, e2, e3]
            exact ih (k + 1) (by omega) (by omega) (by
              rw [htk]
              intro d hd'
              rcases List.mem_append.1 hd' with hd' | hd'
              · exact hd d hd'
              · simp at hd'; subst hd'; omega)
        · rw [decide_eq_false (by omega : ¬((a + k : Nat) : Int) < ((L t).length : Int)), decide_eq_false (by omega : ¬(a : Int) < ((L t).length : Int) - k)]
          exact ⟨.inl (), ⟨rfl, rfl⟩, .inl rfl⟩
    obtain ⟨r, ⟨h1, h2⟩, h3⟩ := key (fun s => s_ReadVar_b1 t (a : Int) s.1 s.2.1 s.2.2) (fun s => i_ReadVar_b1 t (a : Int) s.1 s.2) (fun _ _ _ => rfl) (fun _ _ => rfl) 5 0 rfl (by omega) (by simp)
    unfold s_ReadVar i_ReadVar
    have hw : s_l01In (a : Int) 0 (sln t) = some true := by
      unfold s_l01In
      rw [decide_eq_true (by omega : (a : Int) ≥ 0), cond_true, sln_eq, decide_eq_true (by omega)]
    rw [hw]
    simp only [Option.bind_some, Bool.not_true, cond_false]
    simp only [List.take_zero, valV, Nat.pow_zero, Nat.add_zero] at h1 h2
    rw [show ((0 : Nat) : Int) = 0 from rfl, show ((1 : Nat) : Int) = 1 from rfl] at h1
    rw [show ((0 : Nat) : Int) = 0 from rfl] at h2
    rw [h1, h2]
    rcases h3 with rfl | ⟨q, rfl, h3⟩
    · exact ⟨_, rfl, rfl, .inl ⟨rfl, rfl, rfl⟩⟩
    · exact ⟨q, rfl, rfl, h3⟩
  · have hf := fails at_ (by omega) hat
    refine ⟨(0, 0, false), ?_, hf, .inl ⟨rfl, rfl, rfl⟩⟩
    unfold s_ReadVar
    by_cases h0 : 0 ≤ at_ ∧ at_ ≤ (L t).length
    · have hw : s_l01In at_ 0 (sln t) = some true := by
        unfold s_l01In
        rw [decide_eq_true (by omega : at_ ≥ 0), cond_true, sln_eq, decide_eq_true (by omega)]
      rw [hw]
      simp only [Option.bind_some, Bool.not_true, cond_false]
      rw [loopO_eq]
      simp only [s_ReadVar_b1]
      rw [decide_eq_false (by rw [sln_eq]; omega : ¬at_ < sln t)]
      rfl
    · have hw : s_l01In at_ 0 (sln t) = some false := by
        unfold s_l01In
        by_cases h1 : at_ ≥ 0
        · rw [decide_eq_true h1, cond_true, sln_eq, decide_eq_false (by omega)]
        · rw [decide_eq_false h1, cond_false]
      rw [hw]
      rfl
end Go.TI


namespace Go.TI
open Go
set_option linter.unusedSimpArgs false
set_option linter.unusedVariables false

theorem PageOk_eq (p : Page) : ∃ v, s_PageOk p = some v ∧ i_PageOk p = some v ∧ (v = true → (p.Kind = 1 ∨ p.Kind = 2) ∧ (1 ≤ p.Seq ∧ p.Seq ≤ 1000000000) ∧ (1 ≤ p.Tx ∧ p.Tx ≤ 1000000000) ∧ (1 ≤ p.Count ∧ p.Count ≤ 9) ∧ (0 ≤ p.Part ∧ p.Part < p.Count) ∧ sln p.Text ≤ 90) := by
  unfold s_PageOk i_PageOk
  rw [eq_in]
  simp only [in_eq, Option.bind_some]
  by_cases h1 : 1 ≤ p.Seq ∧ p.Seq ≤ 1000000000
  · by_cases h2 : 1 ≤ p.Tx ∧ p.Tx ≤ 1000000000
    · by_cases h3 : 1 ≤ p.Count ∧ p.Count ≤ 9
      · have e : sb p.Count 1 = p.Count - 1 := sb_eq (by omega) (by omega)
        rw [e]
        by_cases h4 : 0 ≤ p.Part ∧ p.Part ≤ p.Count - 1
        · by_cases h5 : sln p.Text > 90
          · refine ⟨false, ?_, ?_, by simp⟩
            · cases hk : (decide (1 ≤ p.Kind) && decide (p.Kind ≤ 2)) <;> simp [h1, h2, h3, h4, h5]
            · simp [h1, h2, h3, h4, h5]
          · by_cases k2 : p.Kind = 2
            · exact ⟨true, by simp [h1, h2, h3, h4, h5, k2], by simp [h1, h2, h3, h4, h5, k2], fun _ => ⟨.inr k2, h1, h2, h3, ⟨h4.1, by omega⟩, by omega⟩⟩
            · by_cases k1 : p.Kind = 1
              · exact ⟨p.Count == 1, by simp [h1, h2, h3, h4, h5, k1], by simp [h1, h2, h3, h4, h5, k1], fun _ => ⟨.inl k1, h1, h2, h3, ⟨h4.1, by omega⟩, by omega⟩⟩
              · have hk : (decide (1 ≤ p.Kind) && decide (p.Kind ≤ 2)) = false := by
                  rw [Bool.and_eq_false_iff, decide_eq_false_iff_not, decide_eq_false_iff_not]; omega
                have e1 : (p.Kind == 1) = false := by simpa using k1
                have e2 : (p.Kind == 2) = false := by simpa using k2
                exact ⟨false, by simp [hk], by simp [h1, h2, h3, h4, h5, e1, e2], by simp⟩
        · have e4 : (decide (0 ≤ p.Part) && decide (p.Part ≤ p.Count - 1)) = false := by
            rw [Bool.and_eq_false_iff, decide_eq_false_iff_not, decide_eq_false_iff_not]; omega
          refine ⟨false, ?_, ?_, by simp⟩
          · cases hk : (decide (1 ≤ p.Kind) && decide (p.Kind ≤ 2)) <;> simp [h1, h2, h3, e4]
          · simp [h1, h2, h3, e4]
      · have e3 : (decide (1 ≤ p.Count) && decide (p.Count ≤ 9)) = false := by
          rw [Bool.and_eq_false_iff, decide_eq_false_iff_not, decide_eq_false_iff_not]; omega
        refine ⟨false, ?_, ?_, by simp⟩
        · cases hk : (decide (1 ≤ p.Kind) && decide (p.Kind ≤ 2)) <;> simp [h1, h2, e3]
        · simp [h1, h2, e3]
    · have e2 : (decide (1 ≤ p.Tx) && decide (p.Tx ≤ 1000000000)) = false := by
        rw [Bool.and_eq_false_iff, decide_eq_false_iff_not, decide_eq_false_iff_not]; omega
      refine ⟨false, ?_, ?_, by simp⟩
      · cases hk : (decide (1 ≤ p.Kind) && decide (p.Kind ≤ 2)) <;> simp [h1, e2]
      · simp [h1, e2]
  · have e1 : (decide (1 ≤ p.Seq) && decide (p.Seq ≤ 1000000000)) = false := by
      rw [Bool.and_eq_false_iff, decide_eq_false_iff_not, decide_eq_false_iff_not]; omega
    refine ⟨false, ?_, ?_, by simp⟩
    · cases hk : (decide (1 ≤ p.Kind) && decide (p.Kind ≤ 2)) <;> simp [e1]
    · simp [e1]

def page0 : Page := Page.mk 0 0 0 0 0 (bs [])
theorem l06Var_bad (u : ByteArray) (a : Int) (hu : (L u).length ≤ 20000) (ha : oI a) : s_l06Var (l06Cur.mk u a true) = some (0, l06Cur.mk u a true) := by
  obtain ⟨r, h1, _, _⟩ := ReadVar_eq u a (by omega) ha
  unfold s_l06Var
  simp only [h1, Option.bind_some, cond_true]
theorem l06Var_good (u : ByteArray) (a : Int) (hu : (L u).length ≤ 20000) {r : Int × Int × Bool} (h : s_ReadVar u a = some r) : s_l06Var (l06Cur.mk u a false) = some (bif r.2.2 then (r.1, l06Cur.mk u r.2.1 false) else (0, l06Cur.mk u a true)) := by
  unfold s_l06Var
  simp only [h, Option.bind_some, cond_false]
  cases r.2.2 <;> rfl
theorem drop_split (l : List UInt8) {a b : Nat} (h : a ≤ b) : l.drop a = (l.drop a).take (b - a) ++ l.drop b := by
  have := (List.take_append_drop (b - a) (l.drop a)).symm
  rw [List.drop_drop, show a + (b - a) = b by omega] at this
  exact this

theorem PageText_eq (p : Page) (u : ByteArray) (k : UInt8) (n1 n2 n3 n4 : Nat) (hp : s_PageOk p = some true) (hk : p.Kind = (k.toNat : Int)) (h1 : p.Seq = n1) (h2 : p.Tx = n2) (h3 : p.Part = n3) (h4 : p.Count = n4)
    (b1 : n1 ≤ 1000000000) (b2 : n2 ≤ 1000000000) (b3 : n3 ≤ 1000000000) (b4 : n4 ≤ 1000000000) (hu : (L u).length ≤ 20000) (e : L u = [k] ++ encV n1 ++ encV n2 ++ encV n3 ++ encV n4 ++ L p.Text) : s_PageText p = s_Sealed u := by
  obtain ⟨s1, q1, r1⟩ := l01Var_eq n1 (by omega)
  obtain ⟨s2, q2, r2⟩ := l01Var_eq n2 (by omega)
  obtain ⟨s3, q3, r3⟩ := l01Var_eq n3 (by omega)
  obtain ⟨s4, q4, r4⟩ := l01Var_eq n4 (by omega)
  have hl := congrArg List.length e
  simp only [List.length_append, List.length_singleton] at hl
  have hb : s_l06Byte p.Kind = some (strB [IntKind.u8.wrap p.Kind]) := rfl
  have hbL : L (strB [IntKind.u8.wrap p.Kind]) = [k] := by
    rw [L_strB, hk, IntKind.wrap_u8]
    have := u8_lt k
    have e2 : ((k.toNat : Int) % 256).toNat = k.toNat := by omega
    simp only [List.map_cons, List.map_nil, e2, UInt8.ofNat_toNat]
  unfold s_PageText
  rw [hp]
  simp only [Option.bind_some, Bool.not_true, cond_false, hb, h1, h2, h3, h4, q1, q2, q3, q4]
  rw [cat_eq _ _ (by rw [hbL, r1]; simp only [List.length_singleton]; omega), Option.bind_some]
  rw [cat_eq _ _ (by rw [L_cat, hbL, r1, r2]; simp only [List.length_append, List.length_singleton]; omega), Option.bind_some]
  rw [cat_eq _ _ (by rw [L_cat, L_cat, hbL, r1, r2, r3]; simp only [List.length_append, List.length_singleton]; omega), Option.bind_some]
  rw [cat_eq _ _ (by rw [L_cat, L_cat, L_cat, hbL, r1, r2, r3, r4]; simp only [List.length_append, List.length_singleton]; omega), Option.bind_some]
  rw [cat_eq _ _ (by rw [L_cat, L_cat, L_cat, L_cat, hbL, r1, r2, r3, r4]; simp only [List.length_append, List.length_singleton]; omega), Option.bind_some]
  have : strB [IntKind.u8.wrap p.Kind] ++ s1 ++ s2 ++ s3 ++ s4 ++ p.Text = u := by
    apply L_inj
    rw [L_cat, L_cat, L_cat, L_cat, L_cat, hbL, r1, r2, r3, r4, e]
  rw [this]
  cases s_Sealed u with
  | none => rfl
  | some v => rfl

theorem ReadPage_eq (t : ByteArray) (ht : (L t).length ≤ 9223372036854775806) : ∃ p ok, s_ReadPage t = some (p, ok) ∧ i_ReadPage t = some (p, ok) ∧ (ok = false → p = page0) ∧ (ok = true → s_PageOk p = some true) := by
  obtain ⟨u, uok, hu1, hu2, hu3, hu4⟩ := Unsealed_eq t ht
  unfold s_ReadPage i_ReadPage
  rw [hu1, hu2]
  simp only [Option.bind_some]
  have o1 : oI 1 := ⟨by omega, by omega⟩
  cases uok with
  | false =>
    have := hu4 rfl
    subst this
    have hz : (L (bs [])).length ≤ 20000 := by rw [L_bs]; simp
    simp only [Bool.not_false, cond_true, Option.bind_some, l06Var_bad _ _ hz o1]
    exact ⟨page0, false, rfl, rfl, fun _ => rfl, by simp⟩
  | true =>
    obtain ⟨hul, v, hv, htu⟩ := hu3 rfl
    simp only [Bool.not_true, cond_false, Option.bind_some]
    by_cases he : (L u).length < 1
    · have he2 : seq u (bs []) = true := by
        rw [seq_L, decide_eq_true_eq, L_bs]
        exact List.eq_nil_of_length_eq_zero (by omega)
      rw [decide_eq_true (by rw [sln_eq]; omega : sln u < 1), he2]
      simp only [cond_true, l06Var_bad _ _ hul o1, Option.bind_some]
      exact ⟨page0, false, rfl, rfl, fun _ => rfl, by simp⟩
    · have he2 : seq u (bs []) = false := by
        rw [seq_L, decide_eq_false_iff_not, L_bs]
        intro e
        rw [e] at he
        simp at he
      rw [decide_eq_false (by rw [sln_eq]; omega : ¬sln u < 1), he2]
      simp only [cond_false]
      -- the four numbers
      have four_ : ∀ (B : Int × Int × Int × Int × Int × Int → Option ((Int × Int × Int × Int × Int × Int) ⊕ ((Int × Int × Int × Int × Int) ⊕ ((Page × Bool))))), (∀ x y a b c d, B (x, y, a, b, c, d) = i_ReadPage_b1 (u, true) x y a b c d) →
          ∃ (a : Int) (m1 m2 m3 m4 : Int) (bad : Bool), (∃ c1 c2 c3, s_l06Var (l06Cur.mk u 1 false) = some (m1, c1) ∧ s_l06Var c1 = some (m2, c2) ∧ s_l06Var c2 = some (m3, c3) ∧ s_l06Var c3 = some (m4, l06Cur.mk u a bad)) ∧
            loopO B (1, 0, 0, 0, 0, 0) = some (bif bad then .inr (page0, false) else .inl (a, m1, m2, m3, m4)) ∧ (bad = false → ∃ (a1 a2 a3 a4 n1 n2 n3 n4 : Nat), m1 = n1 ∧ m2 = n2 ∧ m3 = n3 ∧ m4 = n4 ∧ a = a4 ∧ 1 < a1 ∧ a1 < a2 ∧ a2 < a3 ∧ a3 < a4 ∧ a4 ≤ (L u).length ∧ n1 ≤ 1000000000 ∧ n2 ≤ 1000000000 ∧ n3 ≤ 1000000000 ∧ n4 ≤ 1000000000 ∧
              encV n1 = ((L u).drop 1).take (a1 - 1) ∧ encV n2 = ((L u).drop a1).take (a2 - a1) ∧ encV n3 = ((L u).drop a2).take (a3 - a2) ∧ encV n4 = ((L u).drop a3).take (a4 - a3)) := by
        intro B hB
        obtain ⟨r1, p1, q1, w1⟩ := ReadVar_eq u 1 (by omega) o1
        have g1 := l06Var_good u 1 hul p1
        rw [loopO_eq, hB]
        unfold i_ReadPage_b1
        rw [decide_eq_true (by omega : (0 : Int) < 4), cond_true, q1, Option.bind_some]
        rcases w1 with ⟨w1, w2, w3⟩ | ⟨w1, a0', a1, n1, z0, z1, z2, z3, z4, z5, z6⟩
        · rw [w1] at g1 ⊢
          exact ⟨1, 0, 0, 0, 0, true, ⟨_, _, _, g1, l06Var_bad u 1 hul o1, l06Var_bad u 1 hul o1, l06Var_bad u 1 hul o1⟩, rfl, by simp⟩
        have ea0 : a0' = 1 := by omega
        subst ea0
        rw [w1] at g1 ⊢
        have x1 : oI r1.2.1 := ⟨by omega, by omega⟩
        simp only [Bool.not_true, cond_false, cond_true] at g1 ⊢
        rw [show ((0 : Int) == 0) = true from rfl, cond_true, show ad 0 1 = 1 from ad1 (i := 0) (by omega)]
        simp only
        obtain ⟨r2, p2, q2, y1⟩ := ReadVar_eq u r1.2.1 (by omega) x1
        have g2 := l06Var_good u r1.2.1 hul p2
        rw [loopO_eq, hB]
        unfold i_ReadPage_b1
        rw [decide_eq_true (by omega : (1 : Int) < 4), cond_true, q2, Option.bind_some]
        rcases y1 with ⟨y1, _, _⟩ | ⟨y1, b0, a2, n2, y2, y3, y4, y5, y6, y7, y8⟩
        · rw [y1] at g2 ⊢
          exact ⟨r1.2.1, r1.1, 0, 0, 0, true, ⟨_, _, _, g1, g2, l06Var_bad u _ hul x1, l06Var_bad u _ hul x1⟩, rfl, by simp⟩
        have eb : b0 = a1 := by omega
        subst eb
        rw [y1] at g2 ⊢
        have x2 : oI r2.2.1 := ⟨by omega, by omega⟩
        simp only [Bool.not_true, cond_false, cond_true] at g2 ⊢
        rw [show ((1 : Int) == 0) = false from rfl, cond_false, show ((1 : Int) == 1) = true from rfl, cond_true, show ad 1 1 = 2 from ad1 (i := 1) (by omega)]
        simp only
        obtain ⟨r3, p3, q3, k1⟩ := ReadVar_eq u r2.2.1 (by omega) x2
        have g3 := l06Var_good u r2.2.1 hul p3
        rw [loopO_eq, hB]
        unfold i_ReadPage_b1
        rw [decide_eq_true (by omega : (2 : Int) < 4), cond_true, q3, Option.bind_some]
        rcases k1 with ⟨k1, _, _⟩ | ⟨k1, c0, a3, n3, k2, k3, k4, k5, k6, k7, k8⟩
        · rw [k1] at g3 ⊢
          exact ⟨r2.2.1, r1.1, r2.1, 0, 0, true, ⟨_, _, _, g1, g2, g3, l06Var_bad u _ hul x2⟩, rfl, by simp⟩
        have ec : c0 = a2 := by omega
        subst ec
        rw [k1] at g3 ⊢
        have x3 : oI r3.2.1 := ⟨by omega, by omega⟩
        simp only [Bool.not_true, cond_false, cond_true] at g3 ⊢
        rw [show ((2 : Int) == 0) = false from rfl, cond_false, show ((2 : Int) == 1) = false from rfl, cond_false, show ((2 : Int) == 2) = true from rfl, cond_true, show ad 2 1 = 3 from ad1 (i := 2) (by omega)]
        simp only
        obtain ⟨r4, p4, q4, l1⟩ := ReadVar_eq u r3.2.1 (by omega) x3
        have g4 := l06Var_good u r3.2.1 hul p4
        rw [loopO_eq, hB]
        unfold i_ReadPage_b1
        rw [decide_eq_true (by omega : (3 : Int) < 4), cond_true, q4, Option.bind_some]
        rcases l1 with ⟨l1, _, _⟩ | ⟨l1, d0, a4, n4, l2, l3, l4, l5, l6, l7, l8⟩
        · rw [l1] at g4 ⊢
          exact ⟨r3.2.1, r1.1, r2.1, r3.1, 0, true, ⟨_, _, _, g1, g2, g3, g4⟩, rfl, by simp⟩
        have ed : d0 = a3 := by omega
        subst ed
        rw [l1] at g4 ⊢
        simp only [Bool.not_true, cond_false, cond_true] at g4 ⊢
        rw [show ((3 : Int) == 0) = false from rfl, cond_false, show ((3 : Int) == 1) = false from rfl, cond_false, show ((3 : Int) == 2) = false from rfl, cond_false, show ((3 : Int) == 3) = true from rfl, cond_true, show ad 3 1 = 4 from ad1 (i := 3) (by omega)]
        simp only
        rw [loopO_eq, hB]
        unfold i_ReadPage_b1
        rw [decide_eq_false (by omega : ¬(4 : Int) < 4), cond_false]
        exact ⟨r4.2.1, r1.1, r2.1, r3.1, r4.1, false, ⟨_, _, _, g1, g2, g3, g4⟩, rfl, fun _ => ⟨b0, c0, d0, a4, n1, n2, n3, n4, z2, y4, k4, l4, l3, z3, y5, k5, l5, l6, z5, y7, k7, l7, z6, y8, k8, l8⟩⟩
      obtain ⟨a, m1, m2, m3, m4, bad, ⟨c1, c2, c3, f1, f2, f3, f4⟩, f5, f6⟩ := four_ (fun s : Int × Int × Int × Int × Int × Int => i_ReadPage_b1 (u, true) s.1 s.2.1 s.2.2.1 s.2.2.2.1 s.2.2.2.2.1 s.2.2.2.2.2) (fun _ _ _ _ _ _ => rfl)
      rw [f5]
      simp only [f1, f2, f3, f4, Option.bind_some]
      cases bad with
      | true => exact ⟨page0, false, rfl, rfl, fun _ => rfl, by simp⟩
      | false =>
        obtain ⟨a1, a2, a3, a4, n1, n2, n3, n4, rfl, rfl, rfl, rfl, rfl, i1, i2, i3, i4, i5, j1, j2, j3, j4, s1, s2, s3, s4⟩ := f6 rfl
        simp only [cond_false, Option.bind_some, Sum.elim_inl]
        have hx0 : sx u 0 = some (((L u)[0]'(by omega)).toNat : Int) := sx_nat u (i := 0) (by omega)
        have hsub : sub u (a4 : Int) (sln u) = some (u.extract a4 (L u).length) := by rw [sln_eq]; exact sub_nat u (by omega) (by omega)
        rw [hx0, hsub]
        simp only [Option.bind_some]
        have hk := u8_lt ((L u)[0]'(by omega))
        have hw : IntKind.i64.wrap (((L u)[0]'(by omega)).toNat : Int) = ((L u)[0]'(by omega)).toNat := wr64 (by omega) (by omega)
        rw [hw]
        obtain ⟨po, po1, po2, _⟩ := PageOk_eq (Page.mk (((L u)[0]'(by omega)).toNat : Int) n1 n2 n3 n4 (u.extract a4 (L u).length))
        rw [po2]
        simp only [Option.bind_some]
        cases po with
        | false =>
          have : s_PageText (Page.mk (((L u)[0]'(by omega)).toNat : Int) n1 n2 n3 n4 (u.extract a4 (L u).length)) = some (bs [], false) := by
            unfold s_PageText
            rw [po1]
            rfl
          rw [this]
          exact ⟨page0, false, rfl, rfl, fun _ => rfl, by simp⟩
        | true =>
          have hT : L (u.extract a4 (L u).length) = (L u).drop a4 := by
            rw [L_ext]
            exact List.take_of_length_le (by simp)
          have hsplit : L u = [(L u)[0]'(by omega)] ++ encV n1 ++ encV n2 ++ encV n3 ++ encV n4 ++ L (u.extract a4 (L u).length) := by
            rw [hT, s1, s2, s3, s4]
            have h0 : L u = [(L u)[0]'(by omega)] ++ (L u).drop 1 := by
              have := List.drop_eq_getElem_cons (l := L u) (i := 0) (by omega)
              simpa using this
            have d1 := drop_split (L u) (a := 1) (b := a1) (by omega)
            have d2 := drop_split (L u) (a := a1) (b := a2) (by omega)
            have d3 := drop_split (L u) (a := a2) (b := a3) (by omega)
            have d4 := drop_split (L u) (a := a3) (b := a4) (by omega)
            simp only [List.append_assoc]
            rw [← d4, ← d3, ← d2, ← d1]
            exact h0
          rw [PageText_eq _ u ((L u)[0]'(by omega)) n1 n2 n3 n4 po1 rfl rfl rfl rfl rfl j1 j2 j3 j4 hul hsplit]
          obtain ⟨v', hv', hs'⟩ := (Sealed_ex u).2 hul
          rw [hv] at hv'
          injection hv' with hv'
          subst hv'
          rw [hs', Option.bind_some]
          have : seq (u ++ four v) t = true := by rw [seq_eq, decide_eq_true_eq]; exact htu.symm
          simp only [Bool.not_true, cond_false, Option.bind_some, this]
          exact ⟨_, true, rfl, rfl, by simp, fun _ => po1⟩
end Go.TI


namespace Go.TI
open Go
set_option linter.unusedSimpArgs false
set_option linter.unusedVariables false

def zLeaf (x : Leaf) : Nat := x.Text.size
def zBlock (x : Block) : Nat := zl zLeaf x.Leaves
def zFlash (x : Flash) : Nat := zl zBlock x.Blocks
theorem szLeaf_eq (x : Leaf) (h : oLeaf x) : Weighs zLeaf w_szLeaf x := by
  intro left h0 h1
  have hx : x.Text.size ≤ 9223372036854775807 := h.2
  have e : sln x.Text = (x.Text.size : Int) := rfl
  unfold w_szLeaf
  rw [sb_eq (by rw [e]; omega) (by rw [e]; omega), e]
  unfold zLeaf
  by_cases hc : (x.Text.size : Int) ≤ left
  · rw [decide_eq_false (by omega), cond_false]
    exact ⟨_, rfl, by rw [if_pos hc]⟩
  · rw [decide_eq_true (by omega), cond_true]
    exact ⟨_, rfl, by rw [if_neg hc]; omega⟩
theorem szLeafS_eq (l : List Leaf) (h : ol oLeaf l) : Weighs (zl zLeaf) w_szLeafS l :=
  Weighs.list (sz_listF zLeaf w_szLeaf l h.1 (fun x hx => szLeaf_eq x (h.2 x hx)) (fun _ _ => rfl) (fun _ => rfl))
theorem Weighs.wrap {α β : Type} {z : β → Nat} {g : β → Int → Option Int} {f : α → Int → Option Int} {x : α} {y : β} {z' : α → Nat} (h : Weighs z g y) (hz : z' x = z y) (hf : ∀ left, f x left = (g y left).bind fun v => bif decide (v < 0) then some (-1) else some v) : Weighs z' f x := by
  intro left h0 h1
  rw [hz]
  obtain ⟨v, h2, h3⟩ := h left h0 h1
  rw [hf, h2, Option.bind_some]
  split at h3
  · rename_i hc
    rw [decide_eq_false (by omega), cond_false]
    exact ⟨_, rfl, by rw [if_pos hc]; exact h3⟩
  · rename_i hc
    rw [decide_eq_true h3, cond_true]
    exact ⟨_, rfl, by rw [if_neg hc]; omega⟩
theorem szBlock_eq (x : Block) (h : oBlock x) : Weighs zBlock w_szBlock x := Weighs.wrap (szLeafS_eq x.Leaves h.2.2) rfl (fun _ => rfl)
theorem szBlockS_eq (l : List Block) (h : ol oBlock l) : Weighs (zl zBlock) w_szBlockS l :=
  Weighs.list (sz_listF zBlock w_szBlock l h.1 (fun x hx => szBlock_eq x (h.2 x hx)) (fun _ _ => rfl) (fun _ => rfl))
theorem szFlash_eq (x : Flash) (h : oFlash x) : Weighs zFlash w_szFlash x := Weighs.wrap (szBlockS_eq x.Blocks h) rfl (fun _ => rfl)
theorem toLeafS_eq (l : List Leaf) (h : zl zLeaf l ≤ 1048576) : w_toLeafS l = some l := by
  have := zl_len (z := zLeaf) (l := l)
  exact to_listF w_toLeaf l (by omega) (by omega) (fun _ _ => rfl) (fun _ _ => rfl) rfl
theorem toBlock_eq (x : Block) (h : zBlock x ≤ 1048576) : w_toBlock x = some x := by
  unfold w_toBlock
  rw [toLeafS_eq _ h]
  rfl
theorem toBlockS_eq (l : List Block) (h : zl zBlock l ≤ 1048576) : w_toBlockS l = some l := by
  have := zl_len (z := zBlock) (l := l)
  exact to_listF w_toBlock l (by omega) (by omega) (fun x hx => toBlock_eq x (by have := zl_mem (z := zBlock) hx; omega)) (fun _ _ => rfl) rfl
theorem toFlash_eq (x : Flash) (h : zFlash x ≤ 1048576) : w_toFlash x = some x := by
  unfold w_toFlash
  rw [toBlockS_eq _ h]
  rfl
theorem eqLeaf_eq (a b : Leaf) : Tells (w_eqLeaf a b) a b := by
  cases a with
  | mk a1 a2 =>
  cases b with
  | mk b1 b2 =>
  have : Says (w_eqLeaf (Leaf.mk a1 a2) (Leaf.mk b1 b2)) (a1 = b1 ∧ a2 = b2 ∧ True) := says_and (by simp) (says_and seq_ne says_true)
  simpa only [Tells, Says, Leaf.mk.injEq, and_true] using this
theorem eqLeafS_eq (a b : List Leaf) (h : a.length ≤ 1048576) : Tells (w_eqLeafS a b) a b :=
  eq_listF w_eqLeaf a b (by omega) (fun x _ y _ => eqLeaf_eq x y) (fun _ => rfl) rfl
theorem eqBlock_eq (a b : Block) (h : zBlock a ≤ 1048576) : Tells (w_eqBlock a b) a b := by
  cases a with
  | mk a1 a2 a3 =>
  cases b with
  | mk b1 b2 b3 =>
  have hl := zl_len (z := zLeaf) (l := a3)
  have : Says (w_eqBlock (Block.mk a1 a2 a3) (Block.mk b1 b2 b3)) (a1 = b1 ∧ a2 = b2 ∧ a3 = b3 ∧ True) := says_and (by cases a1 <;> cases b1 <;> simp) (says_and (by simp) (says_bind (eqLeafS_eq a3 b3 (by unfold zBlock at h; simp only at h; omega)) says_true))
  simpa only [Tells, Says, Block.mk.injEq, and_true] using this
theorem eqBlockS_eq (a b : List Block) (h : zl zBlock a ≤ 1048576) : Tells (w_eqBlockS a b) a b := by
  have := zl_len (z := zBlock) (l := a)
  exact eq_listF w_eqBlock a b (by omega) (fun x hx y _ => eqBlock_eq x y (by have := zl_mem (z := zBlock) hx; omega)) (fun _ => rfl) rfl
theorem eqFlash_eq (a b : Flash) (h : zFlash a ≤ 1048576) : Tells (w_eqFlash a b) a b := by
  cases a with
  | mk a1 =>
  cases b with
  | mk b1 =>
  have : Says (w_eqFlash (Flash.mk a1) (Flash.mk b1)) (a1 = b1 ∧ True) := says_bind (eqBlockS_eq a1 b1 h) says_true
  simpa only [Tells, Says, Flash.mk.injEq, and_true] using this

theorem capF_of (f : Flash) (h : zFlash f ≤ 1048576) : capF f ∧ ∀ b ∈ f.Blocks, ∀ x ∈ b.Leaves, (L x.Text).length ≤ 1048576 := by
  have h1 := zl_len (z := zBlock) (l := f.Blocks)
  unfold zFlash at h
  refine ⟨⟨by omega, fun b hb => ?_⟩, fun b hb x hx => ?_⟩
  · have h2 := zl_mem (z := zBlock) hb
    have h3 := zl_len (z := zLeaf) (l := b.Leaves)
    have e : zBlock b = zl zLeaf b.Leaves := rfl
    omega
  · have h2 := zl_mem (z := zBlock) hb
    have h3 := zl_mem (z := zLeaf) hx
    have e : zBlock b = zl zLeaf b.Leaves := rfl
    have e2 : zLeaf x = x.Text.size := rfl
    rw [L_size]
    omega
end Go.TI


namespace Go.TI
open Go
set_option linter.unusedSimpArgs false
set_option linter.unusedVariables false

def nl (l : List Block) : Nat := (l.map fun b => b.Leaves.length).sum
theorem nl_le (f : Flash) : nl f.Blocks ≤ zFlash f := by
  unfold nl zFlash zl
  have : ∀ l : List Block, (l.map fun b => b.Leaves.length).sum ≤ (l.map zBlock).sum := by
    intro l
    induction l with
    | nil => simp
    | cons b l ih =>
      have := zl_len (z := zLeaf) (l := b.Leaves)
      have e : zBlock b = zl zLeaf b.Leaves := rfl
      simp only [List.map_cons, List.sum_cons]
      omega
  have := this f.Blocks
  omega
def isPage (f : Flash) (y : Found) : Prop := ∃ b x, gi f.Blocks y.Block = some b ∧ gi b.Leaves y.Leaf = some x ∧ (x.Is == 1) = true ∧ s_ReadPage x.Text = some (y.Page, true)
theorem ReadLeaf_at (f : Flash) (hf : capF f) {i k : Nat} {b : Block} {x : Leaf} (hb : f.Blocks[i]? = some b) (hx : b.Leaves[k]? = some x) : s_ReadLeaf f i k = some (bif x.Is == 1 then (x.Text, true) else (bs [], false)) := by
  have h1 := (List.getElem?_eq_some_iff.1 hb).1
  have h2 := (List.getElem?_eq_some_iff.1 hx).1
  have h3 := hf.1
  have h4 := hf.2 b (List.mem_of_getElem? hb)
  unfold s_ReadLeaf
  rw [sb_eq (by rw [ln_eq]; omega) (by rw [ln_eq]; omega), in_eq, ln_eq, decide_eq_true (by omega : (0 : Int) ≤ (i : Int)), decide_eq_true (by omega : (i : Int) ≤ (f.Blocks.length : Int) - 1)]
  simp only [Option.bind_some, Bool.and_self, Bool.not_true, cond_false, gi_nat, hb]
  rw [sb_eq (by rw [ln_eq]; omega) (by rw [ln_eq]; omega), in_eq, ln_eq, decide_eq_true (by omega : (0 : Int) ≤ (k : Int)), decide_eq_true (by omega : (k : Int) ≤ (b.Leaves.length : Int) - 1)]
  simp only [Option.bind_some, Bool.and_self, Bool.not_true, cond_false, hx]
  cases h : x.Is == 1 with
  | true =>
    have : (x.Is != 1) = false := by simp [bne, h]
    simp [this]
  | false =>
    have : (x.Is != 1) = true := by simp [bne, h]
    simp [this]
theorem collect_eq (f : Flash) (hf : capF f) (hT : ∀ b ∈ f.Blocks, ∀ x ∈ b.Leaves, (L x.Text).length ≤ 1048576) (hn : nl f.Blocks ≤ 1048576) :
    ∃ X, loopO (fun s : List Found × Int => s_ScanAll_b1 f s.1 s.2) ([], 0) = some X ∧ loopO (fun s : Int × List Found => i_ScanAll_b1 f s.1 s.2) (0, []) = some X ∧ X.length ≤ nl f.Blocks ∧ ∀ y ∈ X, isPage f y := by
  refine loop_two (body := fun s : List Found × Int => s_ScanAll_b1 f s.1 s.2) (body' := fun s : Int × List Found => i_ScanAll_b1 f s.1 s.2) (fun s i => (s, i)) (fun s i => (i, s)) f.Blocks.length (fun i out => out.length ≤ ((f.Blocks.take i).map fun b => b.Leaves.length).sum ∧ ∀ y ∈ out, isPage f y) (fun X => X.length ≤ nl f.Blocks ∧ ∀ y ∈ X, isPage f y) ?_ ?_ (s := []) ⟨by simp, by simp⟩
  · intro out i hi ⟨ho1, ho2⟩
    have hb : f.Blocks[i]? = some f.Blocks[i] := List.getElem?_eq_getElem hi
    have hm : f.Blocks[i] ∈ f.Blocks := List.getElem_mem _
    have hsum := sum_take (fun b : Block => b.Leaves.length) f.Blocks i hi
    have hle := sum_take_le (fun b : Block => b.Leaves.length) f.Blocks (i + 1)
    unfold nl at hn
    have hf1 := hf.1
    refine .inl ?_
    simp only [s_ScanAll_b1, i_ScanAll_b1, lt_ln, decide_eq_true hi, cond_true, gi_nat, hb, Option.bind_some]
    obtain ⟨u, q1, q2, q3⟩ := loop_two (body := fun s : List Found × Int => s_ScanAll_b2 f (i : Int) s.1 s.2) (body' := fun s : Int × List Found => i_ScanAll_b2 (i : Int) f.Blocks[i] s.1 s.2) (fun s i => (s, i)) (fun s i => (i, s)) f.Blocks[i].Leaves.length (fun k u => u.length ≤ out.length + k ∧ ∀ y ∈ u, isPage f y) (fun u => u.length ≤ out.length + f.Blocks[i].Leaves.length ∧ ∀ y ∈ u, isPage f y)
      (fun u k hk hu => by
        have hx : f.Blocks[i].Leaves[k]? = some f.Blocks[i].Leaves[k] := List.getElem?_eq_getElem hk
        have hxm : f.Blocks[i].Leaves[k] ∈ f.Blocks[i].Leaves := List.getElem_mem _
        have hk2 := hf.2 _ hm
        have hap : ∀ y : Found, ap 72 u [y] = some (u ++ [y]) := fun y => ap_eq (by simp only [List.length_singleton]; omega)
        refine .inl ?_
        obtain ⟨p, ok, r1, r2, r3, r4⟩ := ReadPage_eq f.Blocks[i].Leaves[k].Text (by have := hT _ hm _ hxm; omega)
        simp only [s_ScanAll_b2, i_ScanAll_b2, lt_ln, decide_eq_true hk, cond_true, gi_nat, hb, hx, Option.bind_some, ReadLeaf_at f hf hb hx, r2, hap]
        have hu2 := hu.1
        cases hfull : f.Blocks[i].Leaves[k].Is == 1 with
        | false =>
          obtain ⟨p', ok', t1, _⟩ := ReadPage_eq (bs []) (by rw [L_bs]; simp)
          simp only [cond_false, Option.bind_some, t1]
          refine ⟨u, by rw [ad1 (by omega)], by cases ok <;> (simp only [cond_true, cond_false, Option.bind_some]; rw [ad1 (by omega)]), by omega, hu.2⟩
        | true =>
          simp only [cond_true, Option.bind_some, r1]
          cases ok with
          | false => exact ⟨u, by simp only [cond_false]; rw [ad1 (by omega)], by simp only [cond_false, Option.bind_some]; rw [ad1 (by omega)], by omega, hu.2⟩
          | true =>
            refine ⟨u ++ [Found.mk i k p], by simp only [cond_true]; rw [ad1 (by omega)], by simp only [cond_true, Option.bind_some]; rw [ad1 (by omega)], by simp only [List.length_append, List.length_singleton]; omega, fun y hy => ?_⟩
            rcases List.mem_append.1 hy with hy | hy
            · exact hu.2 y hy
            · rw [List.mem_singleton] at hy
              subst hy
              exact ⟨_, _, by simp only [gi_nat]; exact hb, by simp only [gi_nat]; exact hx, hfull, r1⟩)
      (fun u hu => ⟨u, by simp only [s_ScanAll_b2, gi_nat, hb, Option.bind_some, lt_ln, Nat.lt_irrefl, decide_false, cond_false], by simp only [i_ScanAll_b2, lt_ln, Nat.lt_irrefl, decide_false, cond_false], hu⟩) (s := out) ⟨by omega, ho2⟩
    rw [q1, q2]
    simp only [Option.bind_some]
    rw [ad1 (by omega)]
    exact ⟨u, rfl, rfl, by omega, q3.2⟩
  · intro out ⟨ho1, ho2⟩
    refine ⟨out, by simp only [s_ScanAll_b1, lt_ln, Nat.lt_irrefl, decide_false, cond_false], by simp only [i_ScanAll_b1, lt_ln, Nat.lt_irrefl, decide_false, cond_false], ?_, ho2⟩
    rw [List.take_length] at ho1
    exact ho1
theorem gi_si_isSome {γ : Type} {l : List γ} {i j : Int} {x y : γ} (h : gi l j = some y) : ∃ z, gi (si l i x) j = some z := by
  obtain ⟨h1, h2⟩ := gi_eq_some h
  have := (List.getElem?_eq_some_iff.1 h2).1
  unfold gi
  rw [if_pos h1]
  exact ⟨_, List.getElem?_eq_getElem (by simp only [si, List.length_set]; exact this)⟩
theorem swap_round (l : List Found) (k : Int) : s_ScanAll_b4 l k = (sort_insertionSort_func_b2 (ltk i_ScanAll_1) 0 k l).map (Sum.map (fun s => (s.2, s.1)) id) := by
  unfold s_ScanAll_b4 sort_insertionSort_func_b2 gi2 swp
  cases hk : decide (k > 0) with
  | false => rfl
  | true =>
    simp only [cond_true]
    cases h1 : gi l (sb k 1) with
    | none => cases h2 : gi l k <;> simp
    | some x =>
      cases h2 : gi l k with
      | none => simp
      | some y =>
        simp only [Option.bind_some]
        have e : (decide (x.Page.Seq > y.Page.Seq)) = ltk i_ScanAll_1 y x := rfl
        rw [e]
        cases ltk i_ScanAll_1 y x with
        | false => rfl
        | true =>
          simp only [cond_true, h1, h2, Option.bind_some]
          obtain ⟨z, hz⟩ := gi_si_isSome (i := k) (x := x) h1
          rw [hz]
          rfl
theorem swp_len {γ : Type} {l l' : List γ} {i j : Int} (h : swp l i j = some l') : l'.length = l.length := by
  unfold swp at h
  obtain ⟨x, _, h⟩ := Option.bind_eq_some_iff.1 h
  obtain ⟨y, _, h⟩ := Option.bind_eq_some_iff.1 h
  injection h with h
  subst h
  simp [si]
theorem ins_len {a : Int} {j : Int} {l r : List Found} (h : loopO (fun s : Int × List Found => sort_insertionSort_func_b2 (ltk i_ScanAll_1) a s.1 s.2) (j, l) = some r) : r.length = l.length := by
  refine loopO_inv (fun s : Int × List Found => s.2.length = l.length) (fun r => r.length = l.length) ?_ ?_ (s := (j, l)) rfl h
  · rintro ⟨j, m⟩ s' hm hb
    simp only [sort_insertionSort_func_b2] at hb
    obtain ⟨c, _, hb⟩ := Option.bind_eq_some_iff.1 hb
    cases c with
    | false => cases hb
    | true =>
      simp only [cond_true] at hb
      obtain ⟨m', h1, hb⟩ := Option.bind_eq_some_iff.1 hb
      injection hb with hb
      injection hb with hb
      subst hb
      exact (swp_len h1).trans hm
  · rintro ⟨j, m⟩ b hm hb
    simp only [sort_insertionSort_func_b2] at hb
    obtain ⟨c, _, hb⟩ := Option.bind_eq_some_iff.1 hb
    cases c with
    | false =>
      simp only [cond_false] at hb
      injection hb with hb
      injection hb with hb
      subst hb
      exact hm
    | true =>
      simp only [cond_true] at hb
      obtain ⟨m', h1, hb⟩ := Option.bind_eq_some_iff.1 hb
      cases hb
theorem ScanAll_eq (f : Flash) (hf : capF f) (hT : ∀ b ∈ f.Blocks, ∀ x ∈ b.Leaves, (L x.Text).length ≤ 1048576) (hn : nl f.Blocks ≤ 1048576) :
    ∃ r, s_ScanAll f = some r ∧ i_ScanAll f = some r ∧ r.length ≤ nl f.Blocks ∧ (∀ y ∈ r, isPage f y) ∧ srt i_ScanAll_1 r := by
  obtain ⟨X, h1, h2, h3, h4⟩ := collect_eq f hf hT hn
  obtain ⟨r, h5, h6, h7⟩ := stable_eq i_ScanAll_1 X (by omega)
  obtain ⟨r', h8, h9, h10⟩ := insertionSort_eq i_ScanAll_1 [] X [] (by simp only [List.length_nil]; omega)
  have hr : r' = r := srt_unique i_ScanAll_1 h9 h6 (fun k => by rw [h7 k, ← h10 k])
  subst hr
  refine ⟨r', ?_, ?_, ?_, ?_, h6⟩
  · unfold s_ScanAll
    rw [h1, Option.bind_some]
    simp only [List.nil_append, List.append_nil, List.length_nil, Nat.zero_add] at h8
    unfold sort_insertionSort_func at h8
    rw [show ad ((0 : Nat) : Int) 1 = 1 from rfl] at h8
    have hc : loopO (fun s : List Found × Int => s_ScanAll_b3 s.1 s.2) (X, 1) = loopO (fun s : Int × List Found => sort_insertionSort_func_b1 (ltk i_ScanAll_1) ((0 : Nat) : Int) (X.length : Int) s.1 s.2) (1, X) := by
      refine loopO_conjI (body := fun s : Int × List Found => sort_insertionSort_func_b1 (ltk i_ScanAll_1) ((0 : Nat) : Int) (X.length : Int) s.1 s.2) (body' := fun s : List Found × Int => s_ScanAll_b3 s.1 s.2) (fun s => (s.2, s.1)) (fun s => s.2.length = X.length) ?_ ?_ (1, X) rfl
      · rintro ⟨j, m⟩ hm
        simp only at hm
        simp only [s_ScanAll_b3, sort_insertionSort_func_b1, ln_eq, hm]
        cases decide (j < (X.length : Int)) with
        | false => rfl
        | true =>
          simp only [cond_true]
          rw [loopO_conj (body := fun s : Int × List Found => sort_insertionSort_func_b2 (ltk i_ScanAll_1) ((0 : Nat) : Int) s.1 s.2) (body' := fun s : List Found × Int => s_ScanAll_b4 s.1 s.2) (fun s => (s.2, s.1)) (fun s => swap_round s.2 s.1) (j, m)]
          cases loopO (fun s : Int × List Found => sort_insertionSort_func_b2 (ltk i_ScanAll_1) ((0 : Nat) : Int) s.1 s.2) (j, m) <;> rfl
      · rintro ⟨j, m⟩ s' hm hb
        simp only [sort_insertionSort_func_b1] at hb
        cases hc : decide (j < (X.length : Int)) with
        | false => rw [hc, cond_false] at hb; cases hb
        | true =>
          rw [hc, cond_true] at hb
          obtain ⟨m', h1, hb⟩ := Option.bind_eq_some_iff.1 hb
          injection hb with hb
          injection hb with hb
          subst hb
          exact (ins_len h1).trans hm
    rw [hc]
    exact h8
  · unfold i_ScanAll
    rw [h2, Option.bind_some, h5]
    rfl
  · rw [← h7.len]; exact h3
  · exact fun y hy => h4 y ((h7.mem).1 hy)
end Go.TI


namespace Go.TI
open Go
set_option linter.unusedSimpArgs false
set_option linter.unusedVariables false

theorem Weighs.two {α β γ : Type} {z1 : β → Nat} {z2 : γ → Nat} {g1 : β → Int → Option Int} {g2 : γ → Int → Option Int} {f : α → Int → Option Int} {x : α} {y1 : β} {y2 : γ} {z : α → Nat} (h1 : Weighs z1 g1 y1) (h2 : Weighs z2 g2 y2) (hz : z x = z1 y1 + z2 y2)
    (hf : ∀ left, f x left = (g1 y1 left).bind fun v => bif decide (v < 0) then some (-1) else ((g2 y2 v).bind fun w => bif decide (w < 0) then some (-1) else some w)) : Weighs z f x := by
  intro left h0 hm
  obtain ⟨v, k1, k2⟩ := h1 left h0 hm
  rw [hf, k1, Option.bind_some, hz]
  split at k2
  · rename_i hc
    rw [decide_eq_false (by omega), cond_false]
    obtain ⟨w, k3, k4⟩ := h2 v (by omega) (by omega)
    rw [k3, Option.bind_some]
    split at k4
    · rename_i hd
      rw [decide_eq_false (by omega), cond_false]
      exact ⟨_, rfl, by rw [if_pos (by omega)]; omega⟩
    · rename_i hd
      rw [decide_eq_true k4, cond_true]
      exact ⟨_, rfl, by rw [if_neg (by omega)]; omega⟩
  · rename_i hc
    rw [decide_eq_true k2, cond_true]
    exact ⟨_, rfl, by rw [if_neg (by omega)]; omega⟩
theorem Weighs.flat {α : Type} {l : List α} {f : List α → Int → Option Int} (hl : l.length ≤ 9223372036854775807) (hf : ∀ left, f l left = bif decide (sb left (ln l) < 0) then some (-1) else some (sb left (ln l))) : Weighs List.length f l := by
  intro left h0 hm
  rw [hf, sb_eq (by rw [ln_eq]; omega) (by rw [ln_eq]; omega), ln_eq]
  by_cases hc : (l.length : Int) ≤ left
  · rw [decide_eq_false (by omega), cond_false]
    exact ⟨_, rfl, by rw [if_pos hc]⟩
  · rw [decide_eq_true (by omega), cond_true]
    exact ⟨_, rfl, by rw [if_neg hc]; omega⟩
def zKnot (x : Knot) : Nat := x.Kids.length
def zArena (x : Arena) : Nat := zl zKnot x.Knots
def zStore (x : Store) : Nat := x.Vols.length + zArena x.Arena
def zDevice (x : Device) : Nat := zFlash x.Flash + zStore x.Store
theorem szKnot_eq (x : Knot) (h : oKnot x) : Weighs zKnot w_szKnot x := Weighs.wrap (z := List.length) (g := w_szIntS) (Weighs.flat h.2.1 (fun _ => rfl)) rfl (fun _ => rfl)
theorem szKnotS_eq (l : List Knot) (h : ol oKnot l) : Weighs (zl zKnot) w_szKnotS l :=
  Weighs.list (sz_listF zKnot w_szKnot l h.1 (fun x hx => szKnot_eq x (h.2 x hx)) (fun _ _ => rfl) (fun _ => rfl))
theorem szArena_eq (x : Arena) (h : oArena x) : Weighs zArena w_szArena x := Weighs.wrap (szKnotS_eq x.Knots h) rfl (fun _ => rfl)
theorem szStore_eq (x : Store) (h : oStore x) : Weighs zStore w_szStore x := Weighs.two (z1 := List.length) (g1 := w_szVolS) (Weighs.flat h.1.1 (fun _ => rfl)) (szArena_eq x.Arena h.2.1) rfl (fun _ => rfl)
theorem szDevice_eq (x : Device) (h : oDevice x) : Weighs zDevice w_szDevice x := Weighs.two (szFlash_eq x.Flash h.1) (szStore_eq x.Store h.2.1) rfl (fun _ => rfl)
theorem toVolS_eq (l : List Vol) (h : l.length ≤ 1048576) : w_toVolS l = some l := to_listF w_toVol l (by omega) (by omega) (fun _ _ => rfl) (fun _ _ => rfl) rfl
theorem toIntS_eq (l : List Int) (h : l.length ≤ 1048576) : w_toIntS l = some l := to_listF (fun x => some x) l (by omega) (by omega) (fun _ _ => rfl) (fun _ _ => rfl) rfl
theorem toKnot_eq (x : Knot) (h : zKnot x ≤ 1048576) : w_toKnot x = some x := by
  unfold w_toKnot
  rw [toIntS_eq _ h]
  rfl
theorem toKnotS_eq (l : List Knot) (h : zl zKnot l ≤ 1048576) : w_toKnotS l = some l := by
  have := zl_len (z := zKnot) (l := l)
  exact to_listF w_toKnot l (by omega) (by omega) (fun x hx => toKnot_eq x (by have := zl_mem (z := zKnot) hx; omega)) (fun _ _ => rfl) rfl
theorem toArena_eq (x : Arena) (h : zArena x ≤ 1048576) : w_toArena x = some x := by
  unfold w_toArena
  rw [toKnotS_eq _ h]
  rfl
theorem toStore_eq (x : Store) (h : zStore x ≤ 1048576) : w_toStore x = some x := by
  unfold zStore at h
  unfold w_toStore
  rw [toVolS_eq _ (by omega), Option.bind_some, toArena_eq _ (by omega)]
  rfl
theorem toDevice_eq (x : Device) (h : zDevice x ≤ 1048576) : w_toDevice x = some x := by
  unfold zDevice at h
  unfold w_toDevice
  rw [toFlash_eq _ (by omega), Option.bind_some, toStore_eq _ (by omega)]
  rfl
theorem eqVol_eq (a b : Vol) : Tells (w_eqVol a b) a b := by
  cases a with
  | mk a1 a2 =>
  cases b with
  | mk b1 b2 =>
  have : Says (w_eqVol (Vol.mk a1 a2) (Vol.mk b1 b2)) (a1 = b1 ∧ a2 = b2 ∧ True) := says_and (by simp) (says_and (by simp) says_true)
  simpa only [Tells, Says, Vol.mk.injEq, and_true] using this
theorem eqVolS_eq (a b : List Vol) (h : a.length ≤ 1048576) : Tells (w_eqVolS a b) a b :=
  eq_listF w_eqVol a b (by omega) (fun x _ y _ => eqVol_eq x y) (fun _ => rfl) rfl
theorem eqIntS_eq (a b : List Int) (h : a.length ≤ 1048576) : Tells (w_eqIntS a b) a b :=
  eq_listF (fun x y => some (!(x != y))) a b (by omega) (fun x _ y _ => ⟨_, rfl, by simp⟩) (fun i => by
    unfold w_eqIntS_b1
    cases decide (i < ln a) with
    | false => rfl
    | true =>
      simp only [cond_true]
      cases gi a i with
      | none => rfl
      | some x =>
        cases gi b i with
        | none => rfl
        | some y => simp only [Option.bind_some, Bool.not_not]) rfl
theorem eqKnot_eq (a b : Knot) (h : zKnot a ≤ 1048576) : Tells (w_eqKnot a b) a b := by
  cases a with
  | mk a1 a2 =>
  cases b with
  | mk b1 b2 =>
  have : Says (w_eqKnot (Knot.mk a1 a2) (Knot.mk b1 b2)) (a1 = b1 ∧ a2 = b2 ∧ True) := says_and (by cases a1 <;> cases b1 <;> simp) (says_bind (eqIntS_eq a2 b2 h) says_true)
  simpa only [Tells, Says, Knot.mk.injEq, and_true] using this
theorem eqKnotS_eq (a b : List Knot) (h : zl zKnot a ≤ 1048576) : Tells (w_eqKnotS a b) a b := by
  have := zl_len (z := zKnot) (l := a)
  exact eq_listF w_eqKnot a b (by omega) (fun x hx y _ => eqKnot_eq x y (by have := zl_mem (z := zKnot) hx; omega)) (fun _ => rfl) rfl
theorem eqArena_eq (a b : Arena) (h : zArena a ≤ 1048576) : Tells (w_eqArena a b) a b := by
  cases a with
  | mk a1 =>
  cases b with
  | mk b1 =>
  have : Says (w_eqArena (Arena.mk a1) (Arena.mk b1)) (a1 = b1 ∧ True) := says_bind (eqKnotS_eq a1 b1 h) says_true
  simpa only [Tells, Says, Arena.mk.injEq, and_true] using this
theorem eqStore_eq (a b : Store) (h : zStore a ≤ 1048576) : Tells (w_eqStore a b) a b := by
  cases a with
  | mk a1 a2 a3 =>
  cases b with
  | mk b1 b2 b3 =>
  unfold zStore at h
  simp only at h
  have : Says (w_eqStore (Store.mk a1 a2 a3) (Store.mk b1 b2 b3)) (a1 = b1 ∧ a2 = b2 ∧ a3 = b3 ∧ True) := says_bind (eqVolS_eq a1 b1 (by omega)) (says_bind (eqArena_eq a2 b2 (by omega)) (says_and (by simp) says_true))
  simpa only [Tells, Says, Store.mk.injEq, and_true] using this
theorem eqDevice_eq (a b : Device) (h : zDevice a ≤ 1048576) : Tells (w_eqDevice a b) a b := by
  cases a with
  | mk a1 a2 a3 a4 a5 =>
  cases b with
  | mk b1 b2 b3 b4 b5 =>
  unfold zDevice at h
  simp only at h
  have : Says (w_eqDevice (Device.mk a1 a2 a3 a4 a5) (Device.mk b1 b2 b3 b4 b5)) (a1 = b1 ∧ a2 = b2 ∧ a3 = b3 ∧ a4 = b4 ∧ a5 = b5 ∧ True) := says_bind (eqFlash_eq a1 b1 (by omega)) (says_bind (eqStore_eq a2 b2 (by omega)) (says_and (by simp) (says_and (by simp) (says_and (by simp) says_true))))
  simpa only [Tells, Says, Device.mk.injEq, and_true] using this

end Go.TI


namespace Go.TI
open Go
set_option linter.unusedSimpArgs false
set_option linter.unusedVariables false

end Go.TI


namespace Go.TI
open Go
set_option linter.unusedSimpArgs false
set_option linter.unusedVariables false

def capA (a : Arena) : Prop := a.Knots.length ≤ 1048576
theorem in_ok (x a b : Int) : s_l01In x a b = some (decide (a ≤ x ∧ x ≤ b)) := by
  rw [in_eq]
  congr 1
  rw [Bool.eq_iff_iff]
  simp
theorem ArenaOk_same (a : Arena) : i_ArenaOk a = s_ArenaOk a := by
  unfold i_ArenaOk s_ArenaOk
  have hb : i_ArenaOk_b1 a = s_ArenaOk_b1 a := by
    funext y
    unfold i_ArenaOk_b1 s_ArenaOk_b1
    cases decide (y < ln a.Knots) with
    | false => rfl
    | true =>
      simp only [cond_true]
      cases gi a.Knots y with
      | none => rfl
      | some k =>
        simp only [Option.bind_some]
        cases h : (ln k.Kids != 4) with
        | true => rfl
        | false =>
          simp only [cond_false]
          have h4 : ln k.Kids = 4 := by simpa using h
          have : (fun s : Int => i_ArenaOk_b2 a y k s) = fun s : Int => s_ArenaOk_b2 a y k s := by
            funext s
            unfold i_ArenaOk_b2 s_ArenaOk_b2
            rw [h4, eq_in]
          rw [this]
  rw [hb]
def kidOk (a : Arena) (i : Nat) (k : Knot) (n : Int) : Prop := if k.Leaf = true then 0 ≤ n else n = -1 ∨ (0 ≤ n ∧ n < i ∧ ∃ k', gi a.Knots n = some k' ∧ k'.Leaf = true)
theorem ArenaOk_ex (a : Arena) (ha : capA a) : ∃ v, s_ArenaOk a = some v ∧ (v = true → ∀ (i : Nat) k, a.Knots[i]? = some k → k.Kids.length = 4 ∧ ∀ n ∈ k.Kids, kidOk a i k n) := by
  unfold capA at ha
  unfold s_ArenaOk
  obtain ⟨r, h1, h2⟩ := loop_ex (body := fun s : Int => s_ArenaOk_b1 a s) (fun (_ : Unit) i => i) a.Knots.length (fun i _ => ∀ (j : Nat) k, j < i → a.Knots[j]? = some k → k.Kids.length = 4 ∧ ∀ n ∈ k.Kids, kidOk a j k n) (fun r => r = .inr false ∨ r = .inl () ∧ ∀ (i : Nat) k, a.Knots[i]? = some k → k.Kids.length = 4 ∧ ∀ n ∈ k.Kids, kidOk a i k n)
    (fun _ i hi hs => by
      obtain ⟨k, hk⟩ : ∃ k, a.Knots[i]? = some k := ⟨_, List.getElem?_eq_getElem hi⟩
      simp only [s_ArenaOk_b1, lt_ln, decide_eq_true hi, cond_true, gi_nat, hk, Option.bind_some]
      by_cases h4 : k.Kids.length = 4
      · have e1 : (ln k.Kids != 4) = false := by simp [ln, h4]
        simp only [e1, cond_false]
        obtain ⟨r, q1, q2⟩ := loop_ex (body := fun s : Int => s_ArenaOk_b2 a (i : Int) k s) (fun (_ : Unit) j => j) 4 (fun j _ => ∀ (m : Nat) n, m < j → k.Kids[m]? = some n → kidOk a i k n) (fun r => r = .inr (.inr (.inr false)) ∨ r = .inl () ∧ ∀ n ∈ k.Kids, kidOk a i k n)
          (fun _ j hj hk2 => by
            obtain ⟨n, hn⟩ : ∃ n, k.Kids[j]? = some n := ⟨_, List.getElem?_eq_getElem (by omega)⟩
            simp only [s_ArenaOk_b2]
            rw [decide_eq_true (by omega : (j : Int) < 4), cond_true, gi_nat, hn]
            simp only [Option.bind_some]
            have good : kidOk a i k n → (∃ s' : Unit, (bif false then (some (.inr (.inr (.inr (.inr false))))) else (some (.inl (ad (j : Int) 1))) : Option ((Int) ⊕ ((Unit) ⊕ ((Int) ⊕ ((Unit) ⊕ (Bool)))))) = some (.inl ((j + 1 : Nat) : Int)) ∧ ∀ (m : Nat) n, m < j + 1 → k.Kids[m]? = some n → kidOk a i k n) := fun hok => by
              refine ⟨(), by rw [cond_false, ad1 (by omega)], fun m n' hm hmn => ?_⟩
              by_cases e : m = j
              · subst e
                rw [hn] at hmn
                injection hmn with hmn
                rw [← hmn]; exact hok
              · exact hk2 m n' (by omega) hmn
            cases hl : k.Leaf with
            | true =>
              simp only [cond_true, Bool.not_true, cond_false]
              by_cases h0 : n < 0
              · rw [decide_eq_true h0, cond_true]
                exact .inr ⟨_, rfl, .inl rfl⟩
              · rw [decide_eq_false h0, cond_false]
                simp only [Option.bind_some]
                exact .inl (good (by unfold kidOk; rw [if_pos hl]; omega))
            | false =>
              simp only [cond_false, Bool.not_false, cond_true]
              by_cases h1 : n = -1
              · have : (n != -1) = false := by simp [h1]
                rw [this]
                simp only [cond_false, Option.bind_some]
                exact .inl (good (by unfold kidOk; rw [if_neg (by rw [hl]; simp)]; exact .inl h1))
              · have : (n != -1) = true := by simp [h1]
                rw [this]
                simp only [cond_true]
                rw [sb_eq (by omega) (by omega), in_ok]
                simp only [Option.bind_some]
                by_cases h2 : 0 ≤ n ∧ n ≤ (i : Int) - 1
                · rw [decide_eq_true h2]
                  simp only [Bool.not_true, cond_false]
                  rw [gi_ok h2.1 (by omega)]
                  simp only [Option.bind_some]
                  cases hl2 : (a.Knots[n.toNat]'(by omega)).Leaf with
                  | true =>
                    simp only [Bool.not_true]
                    refine .inl (good ?_)
                    unfold kidOk
                    rw [if_neg (by rw [hl]; simp)]
                    exact .inr ⟨h2.1, by omega, _, gi_ok h2.1 (by omega), hl2⟩
                  | false =>
                    simp only [Bool.not_false, cond_true]
                    exact .inr ⟨_, rfl, .inl rfl⟩
                · rw [decide_eq_false h2]
                  simp only [Bool.not_false, cond_true, Option.bind_some]
                  exact .inr ⟨_, rfl, .inl rfl⟩)
          (fun _ hk2 => ⟨_, by simp only [s_ArenaOk_b2]; rw [decide_eq_false (by omega : ¬((4 : Nat) : Int) < 4), cond_false], .inr ⟨rfl, fun n hn => by
            obtain ⟨m, hm, rfl⟩ := List.getElem_of_mem hn
            exact hk2 m _ (by omega) (List.getElem?_eq_getElem hm)⟩⟩) (s := ()) (fun m n hm => by omega)
        have q1' : loopO (fun s : Int => s_ArenaOk_b2 a (i : Int) k s) 0 = some r := q1
        rw [q1']
        rcases q2 with rfl | ⟨rfl, q2⟩
        · exact .inr ⟨_, rfl, .inl rfl⟩
        · simp only [Option.bind_some, Sum.elim_inl]
          rw [ad1 (by omega)]
          refine .inl ⟨(), rfl, fun j k' hj hjk => ?_⟩
          by_cases e : j = i
          · subst e
            rw [hk] at hjk
            injection hjk with hjk
            rw [← hjk]; exact ⟨h4, q2⟩
          · exact hs j k' (by omega) hjk
      · have e1 : (ln k.Kids != 4) = true := by simp [ln]; omega
        simp only [e1, cond_true]
        exact .inr ⟨_, rfl, .inl rfl⟩)
    (fun _ hs => ⟨_, by simp only [s_ArenaOk_b1, lt_ln, Nat.lt_irrefl, decide_false, cond_false], .inr ⟨rfl, fun i k hk => hs i k (List.getElem?_eq_some_iff.1 hk).1 hk⟩⟩) (s := ()) (fun j k hj => by omega)
  have h1' : loopO (fun s : Int => s_ArenaOk_b1 a s) 0 = some r := h1
  rw [h1']
  rcases h2 with rfl | ⟨rfl, h2⟩
  · exact ⟨_, rfl, by simp⟩
  · exact ⟨_, rfl, fun _ => h2⟩
theorem GetAt_eq (a : Arena) (ha : capA a) (root : Int) (s : Nat) (hs : s < 16) : ∃ v, s_GetAt a root (s : Int) = some v ∧ i_GetAt a root (s : Int) = some v := by
  have hcap : a.Knots.length ≤ 1048576 := ha
  obtain ⟨ok, h1, h2⟩ := ArenaOk_ex a ha
  unfold s_GetAt i_GetAt
  rw [ArenaOk_same, h1, eq_in]
  simp only [Option.bind_some, in_ok]
  rw [decide_eq_true (by omega : (0 : Int) ≤ (s : Int) ∧ (s : Int) ≤ 15)]
  simp only [Bool.not_true, cond_false, Option.bind_some]
  -- is it a root?
  have hroot : ∃ b, i_isRoot a root = some b ∧ s_l11Root a root = some (b || root == -1) ∧ (b = true → 0 ≤ root ∧ ∃ k, gi a.Knots root = some k ∧ k.Leaf = false) := by
    unfold i_isRoot s_l11Root
    rw [eq_in, sb_eq (by rw [ln_eq]; omega) (by rw [ln_eq]; omega), ln_eq, in_ok]
    simp only [Option.bind_some]
    by_cases hr : 0 ≤ root ∧ root ≤ (a.Knots.length : Int) - 1
    · have e1 : (root == -1) = false := by simp; omega
      rw [decide_eq_true hr, e1]
      simp only [cond_true, cond_false, Bool.or_false]
      rw [gi_ok hr.1 (by omega)]
      exact ⟨_, rfl, rfl, fun hb => ⟨hr.1, _, rfl, by simpa using hb⟩⟩
    · rw [decide_eq_false hr]
      simp only [cond_false]
      refine ⟨false, rfl, ?_, by simp⟩
      cases root == -1 <;> rfl
  obtain ⟨b, r1, r2, r3⟩ := hroot
  rw [r1, r2]
  simp only [Option.bind_some]
  cases ok with
  | false =>
    simp only [Bool.not_false, cond_true, Option.bind_some]
    cases b <;> exact ⟨0, rfl, rfl⟩
  | true =>
    simp only [Bool.not_true, cond_false]
    cases b with
    | false =>
      simp only [Bool.false_or, Bool.not_false, cond_true, Option.bind_some]
      cases hm : (root == -1) with
      | false => exact ⟨0, rfl, rfl⟩
      | true =>
        have hr : root = -1 := by simpa using hm
        simp only [Bool.not_true, cond_false, Option.bind_some, s_l11Get, hr]
        rw [decide_eq_true (by omega : (-1 : Int) < 0)]
        exact ⟨0, rfl, rfl⟩
    | true =>
      obtain ⟨hr, k, hk, hl⟩ := r3 rfl
      simp only [Bool.true_or, Bool.not_true, cond_false, Option.bind_some, s_l11Get, i_numberAt, hk]
      rw [decide_eq_false (by omega : ¬root < 0), cond_false]
      obtain ⟨g1, g2⟩ := gi_eq_some hk
      obtain ⟨k4, kk⟩ := h2 rfl root.toNat k g2
      have eq4 : qu (s : Int) 4 = ((s / 4 : Nat) : Int) := by
        unfold qu
        rw [show Int.tdiv (s : Int) 4 = ((s / 4 : Nat) : Int) from rfl, wr64 (by omega) (by omega)]
      have em : Int.tmod (s : Int) 4 = ((s % 4 : Nat) : Int) := rfl
      rw [eq4, em, gi_ok (by omega) (by omega)]
      simp only [Option.bind_some, Int.toNat_natCast]
      have hmem : k.Kids[s / 4]'(by omega) ∈ k.Kids := List.getElem_mem _
      have hkid := kk _ hmem
      unfold kidOk at hkid
      rw [if_neg (by rw [hl]; simp)] at hkid
      rcases hkid with hkid | ⟨c1, c2, k', c3, c4⟩
      · rw [hkid, decide_eq_true (by omega : (-1 : Int) < 0)]
        exact ⟨0, rfl, rfl⟩
      · rw [decide_eq_false (by omega), cond_false, c3]
        simp only [Option.bind_some]
        obtain ⟨g3, g4⟩ := gi_eq_some c3
        obtain ⟨k4', _⟩ := h2 rfl _ k' g4
        rw [gi_ok (by omega) (by omega)]
        exact ⟨_, rfl, rfl⟩
theorem AllAt_eq (a : Arena) (ha : capA a) (root : Int) : ∃ l, s_AllAt a root = some l ∧ i_AllAt a root = some l ∧ l.length = 16 := by
  unfold s_AllAt i_AllAt
  obtain ⟨l, h1, h2, h3⟩ := loop_two (body := fun s : List Int × Int => s_AllAt_b1 a root s.1 s.2) (body' := fun s : List Int × Int => i_AllAt_b1 a root s.1 s.2) (fun (o : List Int) i => (o, i)) (fun (o : List Int) i => (o, i)) 16 (fun i o => o.length = i) (fun o => o.length = 16)
    (fun o i hi ho => by
      obtain ⟨v, g1, g2⟩ := GetAt_eq a ha root i hi
      simp only [s_AllAt_b1, i_AllAt_b1]
      rw [decide_eq_true (by omega : (i : Int) < 16), cond_true, cond_true, g1, g2]
      simp only [Option.bind_some]
      rw [ap_eq (by simp only [List.length_singleton]; omega), ad1 (by omega)]
      exact .inl ⟨_, rfl, rfl, by simp only [List.length_append, List.length_singleton]; omega⟩)
    (fun o ho => ⟨o, by simp only [s_AllAt_b1]; rw [decide_eq_false (by omega : ¬((16 : Nat) : Int) < 16), cond_false], by simp only [i_AllAt_b1]; rw [decide_eq_false (by omega : ¬((16 : Nat) : Int) < 16), cond_false], ho⟩) (s := []) rfl
  rw [h1, h2]
  exact ⟨l, rfl, rfl, h3⟩
def found0 : Found := Found.mk 0 0 (Page.mk 0 0 0 0 0 (bs []))
def isOf (c : Int) (y : Found) : Bool := y.Page.Kind == 1 && y.Page.Tx == c
def fdAt (r : List Found) (o : Option Nat) : Found := match o with
  | some j => r[j]?.getD found0
  | none => found0
def lastP (c : Int) (r : List Found) (n : Nat) (o : Option Nat) : Prop := match o with
  | none => ∀ (k : Nat) y, k < n → r[k]? = some y → isOf c y = false
  | some j => j < n ∧ (∃ y, r[j]? = some y ∧ isOf c y = true) ∧ ∀ (k : Nat) y, j < k → k < n → r[k]? = some y → isOf c y = false
theorem lastP_one {c : Int} {r : List Found} {o o' : Option Nat} (h : lastP c r r.length o) (h' : lastP c r r.length o') : o = o' := by
  cases o with
  | none =>
    cases o' with
    | none => rfl
    | some j =>
      obtain ⟨h1, ⟨y, h2, h3⟩, _⟩ := h'
      rw [h j y h1 h2] at h3
      cases h3
  | some j =>
    obtain ⟨h1, ⟨y, h2, h3⟩, h4⟩ := h
    cases o' with
    | none =>
      rw [h' j y h1 h2] at h3
      cases h3
    | some i =>
      obtain ⟨k1, ⟨z, k2, k3⟩, k4⟩ := h'
      rcases Nat.lt_trichotomy i j with e | e | e
      · rw [k4 j y e h1 h2] at h3; cases h3
      · rw [e]
      · rw [h4 i z e k1 k2] at k3; cases k3
theorem srt_get {r : List Found} (h : srt i_ScanAll_1 r) {j i : Nat} {x y : Found} (hji : j < i) (hx : r[j]? = some x) (hy : r[i]? = some y) : x.Page.Seq ≤ y.Page.Seq := by
  unfold srt at h
  obtain ⟨h1, h2⟩ := List.getElem?_eq_some_iff.1 hx
  obtain ⟨h3, h4⟩ := List.getElem?_eq_some_iff.1 hy
  rw [← h2, ← h4]
  exact List.pairwise_iff_getElem.1 h j i h1 h3 hji
theorem dataOf_ex (f : Flash) (r : List Found) (hsc : i_ScanAll f = some r) (hr : r.length ≤ 1048576) (hsr : srt i_ScanAll_1 r) (c : Int) : ∃ o, i_dataOf f c = some (fdAt r o, o.isSome) ∧ lastP c r r.length o := by
  unfold i_dataOf
  rw [hsc]
  simp only [Option.bind_some]
  obtain ⟨b, h1, o, rfl, h2⟩ := loop_ex (body := fun s : Bool × Int × Int × Int × Int × Int × Int × Int × Int × ByteArray => i_dataOf_b1 c r s.1 s.2.1 s.2.2.1 s.2.2.2.1 s.2.2.2.2.1 s.2.2.2.2.2.1 s.2.2.2.2.2.2.1 s.2.2.2.2.2.2.2.1 s.2.2.2.2.2.2.2.2.1 s.2.2.2.2.2.2.2.2.2)
    (fun (o : Option Nat) i => (o.isSome, i, (fdAt r o).Block, (fdAt r o).Leaf, (fdAt r o).Page.Kind, (fdAt r o).Page.Seq, (fdAt r o).Page.Tx, (fdAt r o).Page.Part, (fdAt r o).Page.Count, (fdAt r o).Page.Text)) r.length (fun i o => lastP c r i o)
    (fun b => ∃ o, b = (o.isSome, (fdAt r o).Block, (fdAt r o).Leaf, (fdAt r o).Page.Kind, (fdAt r o).Page.Seq, (fdAt r o).Page.Tx, (fdAt r o).Page.Part, (fdAt r o).Page.Count, (fdAt r o).Page.Text) ∧ lastP c r r.length o)
    (fun o i hi ho => by
      have hg : r[i]? = some r[i] := List.getElem?_eq_getElem hi
      refine .inl ?_
      simp only [i_dataOf_b1, lt_ln, decide_eq_true hi, cond_true, gi_nat, hg, Option.bind_some]
      have keep : isOf c r[i] = false → lastP c r (i + 1) o := fun hno => by
        cases o with
        | none =>
          intro k y h1 h2
          by_cases e : k = i
          · subst e; rw [hg] at h2; injection h2 with h2; rw [← h2]; exact hno
          · exact ho k y (by omega) h2
        | some j =>
          obtain ⟨h1, h2, h3⟩ := ho
          refine ⟨by omega, h2, fun k y h4 h5 h6 => ?_⟩
          by_cases e : k = i
          · subst e; rw [hg] at h6; injection h6 with h6; rw [← h6]; exact hno
          · exact h3 k y h4 (by omega) h6
      cases hk : r[i].Page.Kind == 1 with
      | false =>
        simp only [cond_false, Option.bind_some]
        rw [ad1 (by omega)]
        exact ⟨o, rfl, keep (by unfold isOf; rw [hk]; rfl)⟩
      | true =>
        simp only [cond_true]
        cases ht : r[i].Page.Tx == c with
        | false =>
          simp only [cond_false, Option.bind_some]
          rw [ad1 (by omega)]
          exact ⟨o, rfl, keep (by unfold isOf; rw [ht, Bool.and_false])⟩
        | true =>
          simp only [cond_true]
          have hyes : isOf c r[i] = true := by unfold isOf; rw [hk, ht]; rfl
          have hnew : lastP c r (i + 1) (some i) := ⟨by omega, ⟨_, hg, hyes⟩, fun k y h1 h2 => by omega⟩
          have hfd : fdAt r (some i) = r[i] := by simp only [fdAt, hg, Option.getD_some]
          cases o with
          | none =>
            simp only [Option.isSome_none, Bool.not_false, cond_true, Option.bind_some]
            rw [ad1 (by omega)]
            exact ⟨some i, by rw [hfd]; rfl, hnew⟩
          | some j =>
            obtain ⟨h1, ⟨y, h2, h3⟩, _⟩ := ho
            have hfj : fdAt r (some j) = y := by simp only [fdAt, h2, Option.getD_some]
            have hle := srt_get hsr h1 h2 hg
            simp only [Option.isSome_some, Bool.not_true, cond_false, Option.bind_some, hfj]
            rw [decide_eq_true (by omega : r[i].Page.Seq ≥ y.Page.Seq)]
            simp only [cond_true]
            rw [ad1 (by omega)]
            exact ⟨some i, by rw [hfd]; rfl, hnew⟩)
    (fun o ho => ⟨_, by simp only [i_dataOf_b1, lt_ln, Nat.lt_irrefl, decide_false, cond_false], o, rfl, ho⟩) (s := none) (fun k y h1 => by omega)
  have h1' : loopO (fun s : Bool × Int × Int × Int × Int × Int × Int × Int × Int × ByteArray => i_dataOf_b1 c r s.1 s.2.1 s.2.2.1 s.2.2.2.1 s.2.2.2.2.1 s.2.2.2.2.2.1 s.2.2.2.2.2.2.1 s.2.2.2.2.2.2.2.1 s.2.2.2.2.2.2.2.2.1 s.2.2.2.2.2.2.2.2.2) (false, 0, 0, 0, 0, 0, 0, 0, 0, (bs [])) = _ := h1
  rw [h1']
  exact ⟨o, rfl, h2⟩
theorem page_len {f : Flash} (hT : ∀ b ∈ f.Blocks, ∀ x ∈ b.Leaves, (L x.Text).length ≤ 1048576) {y : Found} (h : isPage f y) : (L y.Page.Text).length ≤ 90 := by
  obtain ⟨b, x, h1, h2, _, h3⟩ := h
  obtain ⟨_, g1⟩ := gi_eq_some h1
  obtain ⟨_, g2⟩ := gi_eq_some h2
  obtain ⟨p, ok, k1, _, _, k2⟩ := ReadPage_eq x.Text (by have := hT b (List.mem_of_getElem? g1) x (List.mem_of_getElem? g2); omega)
  rw [h3] at k1
  injection k1 with k1
  injection k1 with k1 k3
  have hp := k2 k3.symm
  obtain ⟨v, q1, _, q2⟩ := PageOk_eq p
  rw [hp] at q1
  injection q1 with q1
  obtain ⟨_, _, _, _, _, q3⟩ := q2 q1.symm
  rw [k1]
  rw [sln_eq] at q3
  omega
structure Scan (f : Flash) (r : List Found) : Prop where
  s : s_ScanAll f = some r
  i : i_ScanAll f = some r
  len : r.length ≤ 1048576
  page : ∀ y ∈ r, isPage f y
  text : ∀ y ∈ r, (L y.Page.Text).length ≤ 90
  srt : srt i_ScanAll_1 r
theorem Scan_ex (f : Flash) (hz : zFlash f ≤ 1048576) : ∃ r, Scan f r := by
  obtain ⟨hf, hT⟩ := capF_of f hz
  have hn : nl f.Blocks ≤ 1048576 := Nat.le_trans (nl_le f) hz
  obtain ⟨r, h1, h2, h3, h4, h5⟩ := ScanAll_eq f hf hT hn
  exact ⟨r, h1, h2, by omega, h4, fun y hy => page_len hT (h4 y hy), h5⟩
end Go.TI


namespace Go.TI
open Go
set_option linter.unusedSimpArgs false
set_option linter.unusedVariables false

def asc (l : List Int) : Prop := l.Pairwise fun x y => x < y
theorem asc_ext : ∀ {a b : List Int}, asc a → asc b → (∀ x, x ∈ a ↔ x ∈ b) → a = b
  | [], [], _, _, _ => rfl
  | [], y :: b, _, _, h => by have := (h y).2 List.mem_cons_self; cases this
  | x :: a, [], _, _, h => by have := (h x).1 List.mem_cons_self; cases this
  | x :: a, y :: b, ha, hb, h => by
    obtain ⟨a1, a2⟩ := List.pairwise_cons.1 ha
    obtain ⟨b1, b2⟩ := List.pairwise_cons.1 hb
    have hxy : x = y := by
      have h1 := (h x).1 List.mem_cons_self
      have h2 := (h y).2 List.mem_cons_self
      rcases List.mem_cons.1 h1 with h1 | h1
      · exact h1
      · rcases List.mem_cons.1 h2 with h2 | h2
        · exact h2.symm
        · have := a1 y h2; have := b1 x h1; omega
    subst hxy
    congr 1
    refine asc_ext a2 b2 fun z => ⟨fun hz => ?_, fun hz => ?_⟩
    · rcases List.mem_cons.1 ((h z).1 (List.mem_cons_of_mem _ hz)) with e | e
      · have := a1 z hz; omega
      · exact e
    · rcases List.mem_cons.1 ((h z).2 (List.mem_cons_of_mem _ hz)) with e | e
      · have := b1 z hz; omega
      · exact e
def ins (l : List Int) (x : Int) : List Int := l.filter (fun y => decide (y < x)) ++ (if x > 0 then [x] else []) ++ l.filter (fun y => decide (y > x))
theorem filt_loop {body : List Int × Int → Option ((List Int × Int) ⊕ (List Int))} (l : List Int) (p : Int → Bool) (o : List Int) (hM : l.length + o.length ≤ 1073741824)
    (hb : ∀ (u : List Int) (i : Nat) x, l[i]? = some x → u.length ≤ o.length + i → body (u, (i : Int)) = (bif p x then ((ap 8 u [x]).bind fun c => some (.inl (c, ad (i : Int) 1))) else some (.inl (u, ad (i : Int) 1)))) (he : ∀ u, body (u, (l.length : Int)) = some (.inr u)) : loopO body (o, 0) = some (o ++ l.filter p) := by
  obtain ⟨b, h1, rfl⟩ := loop_ex (body := body) (fun (u : List Int) i => (u, i)) l.length (fun i u => u = o ++ (l.take i).filter p) (fun u => u = o ++ l.filter p)
    (fun u i hi hu => by
      have hg : l[i]? = some l[i] := List.getElem?_eq_getElem hi
      have hlen : u.length ≤ o.length + i := by
        rw [hu, List.length_append]
        have := List.length_filter_le p (l.take i)
        simp only [List.length_take] at this
        omega
      refine .inl ?_
      rw [hb u i _ hg hlen]
      have et : l.take (i + 1) = l.take i ++ [l[i]] := by rw [List.take_succ_eq_append_getElem hi]
      cases hp : p l[i] with
      | true =>
        simp only [cond_true]
        rw [ap_eq (by simp only [List.length_singleton]; omega), ad1 (by omega)]
        refine ⟨_, rfl, ?_⟩
        rw [et, List.filter_append, hu, List.filter_cons_of_pos (by simpa using hp), List.filter_nil, List.append_assoc]
      | false =>
        simp only [cond_false]
        rw [ad1 (by omega)]
        refine ⟨_, rfl, ?_⟩
        rw [et, List.filter_append, hu, List.filter_cons_of_neg (by simp [hp]), List.filter_nil, List.append_nil])
    (fun u hu => ⟨u, he u, by rw [hu, List.take_length]⟩) (s := o) (by simp)
  exact h1
theorem ins_eq (l : List Int) (x : Int) (hl : l.length ≤ 33554432) : s_l12Insert l x = some (ins l x) := by
  unfold s_l12Insert
  rw [filt_loop (body := fun s : List Int × Int => s_l12Insert_b1 l x s.1 s.2) l (fun y => decide (y < x)) [] (by simp only [List.length_nil]; omega)
    (fun u i y hy _ => by
      have hi := (List.getElem?_eq_some_iff.1 hy).1
      simp only [s_l12Insert_b1, lt_ln, decide_eq_true hi, cond_true, gi_nat, hy, Option.bind_some])
    (fun u => by simp only [s_l12Insert_b1, lt_ln, Nat.lt_irrefl, decide_false, cond_false])]
  simp only [Option.bind_some, List.nil_append]
  have h1 := List.length_filter_le (fun y => decide (y < x)) l
  have step : ∀ o : List Int, o.length ≤ 33554433 → loopO (fun s : List Int × Int => s_l12Insert_b2 l x s.1 s.2) (o, 0) = some (o ++ l.filter (fun y => decide (y > x))) := fun o ho =>
    filt_loop (body := fun s : List Int × Int => s_l12Insert_b2 l x s.1 s.2) l (fun y => decide (y > x)) o (by omega)
      (fun u i y hy _ => by
        have hi := (List.getElem?_eq_some_iff.1 hy).1
        simp only [s_l12Insert_b2, lt_ln, decide_eq_true hi, cond_true, gi_nat, hy, Option.bind_some])
      (fun u => by simp only [s_l12Insert_b2, lt_ln, Nat.lt_irrefl, decide_false, cond_false])
  unfold ins
  by_cases hx : x > 0
  · rw [decide_eq_true hx, cond_true, ap_eq (by simp only [List.length_singleton]; omega), if_pos hx]
    simp only [Option.bind_some]
    rw [step _ (by simp only [List.length_append, List.length_singleton]; omega)]
    rfl
  · rw [decide_eq_false hx, cond_false, if_neg hx]
    simp only [Option.bind_some]
    rw [step _ (by omega), List.append_nil]
    rfl
theorem ins_mem {l : List Int} {x y : Int} (hl : ∀ z ∈ l, 0 < z) : y ∈ ins l x ↔ y ∈ l ∨ (y = x ∧ 0 < x) := by
  unfold ins
  simp only [List.mem_append, List.mem_filter, decide_eq_true_eq]
  constructor
  · rintro ((⟨h1, _⟩ | h1) | ⟨h1, _⟩)
    · exact .inl h1
    · split at h1
      · rename_i hx
        rw [List.mem_singleton] at h1
        exact .inr ⟨h1, hx⟩
      · cases h1
    · exact .inl h1
  · rintro (h1 | ⟨rfl, h2⟩)
    · rcases Int.lt_trichotomy y x with h | h | h
      · exact .inl (.inl ⟨h1, h⟩)
      · subst h
        have := hl y h1
        exact .inl (.inr (by rw [if_pos this]; exact List.mem_singleton.2 rfl))
      · exact .inr ⟨h1, h⟩
    · exact .inl (.inr (by rw [if_pos h2]; exact List.mem_singleton.2 rfl))
theorem ins_asc {l : List Int} {x : Int} (h : asc l) : asc (ins l x) := by
  unfold ins asc
  rw [List.pairwise_append, List.pairwise_append]
  refine ⟨⟨List.Pairwise.filter _ h, ?_, ?_⟩, List.Pairwise.filter _ h, ?_⟩
  · split <;> simp
  · intro a ha b hb
    split at hb
    · rw [List.mem_singleton] at hb
      subst hb
      simpa using (List.mem_filter.1 ha).2
    · cases hb
  · intro a ha b hb
    have hb2 : x < b := by simpa using (List.mem_filter.1 hb).2
    rcases List.mem_append.1 ha with ha | ha
    · have : a < x := by simpa using (List.mem_filter.1 ha).2
      omega
    · split at ha
      · rw [List.mem_singleton] at ha
        omega
      · cases ha
theorem insert_len (l : List Int) (x : Int) (h : asc l) : (ins l x).length ≤ l.length + 1 := by
  have hd : (l.filter (fun y => decide (y < x))).length + (l.filter (fun y => decide (y > x))).length ≤ l.length := by
    have e : ∀ l : List Int, (l.filter (fun y => decide (y < x))).length + (l.filter (fun y => decide (y > x))).length ≤ l.length := by
      intro l
      induction l with
      | nil => simp
      | cons z l ih =>
        simp only [List.filter_cons, List.length_cons]
        by_cases h1 : z < x
        · rw [if_pos (by simpa using h1), if_neg (by simp; omega)]
          simp only [List.length_cons]; omega
        · by_cases h2 : z > x
          · rw [if_neg (by simpa using h1), if_pos (by simpa using h2)]
            simp only [List.length_cons]; omega
          · rw [if_neg (by simpa using h1), if_neg (by simpa using h2)]
            omega
    exact e l
  unfold ins
  simp only [List.length_append]
  split <;> simp only [List.length_singleton, List.length_nil] <;> omega
noncomputable def nums (s : Store) (n : Nat) : List Int := ((s.Vols.take n).map fun v => (s_AllAt s.Arena v.Root).getD []).flatten
theorem nums_succ (s : Store) (n : Nat) (h : n < s.Vols.length) : nums s (n + 1) = nums s n ++ (s_AllAt s.Arena s.Vols[n].Root).getD [] := by
  unfold nums
  rw [List.take_succ_eq_append_getElem h, List.map_append, List.flatten_append]
  simp
theorem nums_len (s : Store) (ha : capA s.Arena) (n : Nat) (h : n ≤ s.Vols.length) : (nums s n).length = 16 * n := by
  induction n with
  | zero => simp [nums]
  | succ n ih =>
    obtain ⟨l, h1, _, h2⟩ := AllAt_eq s.Arena ha (s.Vols[n]'(by omega)).Root
    rw [nums_succ s n (by omega), List.length_append, ih (by omega), h1, Option.getD_some, h2]
    omega
def isLive (s : Store) (n : Nat) (l : List Int) : Prop := asc l ∧ ∀ x, x ∈ l ↔ x ∈ nums s n ∧ 0 < x
theorem s_LiveOf_ex (s : Store) (hv : s.Vols.length ≤ 1048576) (ha : capA s.Arena) : ∃ l, s_LiveOf s = some l ∧ isLive s s.Vols.length l ∧ l.length ≤ 16777216 := by
  unfold s_LiveOf
  obtain ⟨l, h1, h2, h3⟩ := loop_ex (body := fun q : List Int × Int => s_LiveOf_b1 s q.1 q.2) (fun (o : List Int) i => (o, i)) s.Vols.length (fun i o => isLive s i o ∧ o.length ≤ 16 * i) (fun o => isLive s s.Vols.length o ∧ o.length ≤ 16777216)
    (fun o i hi ho => by
      have hg : s.Vols[i]? = some s.Vols[i] := List.getElem?_eq_getElem hi
      obtain ⟨⟨ho1, ho2⟩, ho3⟩ := ho
      obtain ⟨a, a1, _, a2⟩ := AllAt_eq s.Arena ha s.Vols[i].Root
      refine .inl ?_
      simp only [s_LiveOf_b1, lt_ln, decide_eq_true hi, cond_true, gi_nat, hg, Option.bind_some, a1]
      obtain ⟨u, q1, ⟨q2, q3⟩, q4⟩ := loop_ex (body := fun q : List Int × Int => s_LiveOf_b2 a q.1 q.2) (fun (u : List Int) k => (u, k)) a.length (fun k u => (asc u ∧ ∀ x, x ∈ u ↔ (x ∈ nums s i ++ a.take k) ∧ 0 < x) ∧ u.length ≤ o.length + k) (fun u => (asc u ∧ ∀ x, x ∈ u ↔ (x ∈ nums s i ++ a) ∧ 0 < x) ∧ u.length ≤ o.length + a.length)
        (fun u k hk hu => by
          have hgk : a[k]? = some a[k] := List.getElem?_eq_getElem hk
          obtain ⟨⟨hu1, hu2⟩, hu3⟩ := hu
          refine .inl ?_
          simp only [s_LiveOf_b2, lt_ln, decide_eq_true hk, cond_true, gi_nat, hgk, Option.bind_some]
          rw [ins_eq u a[k] (by omega), ad1 (by omega)]
          refine ⟨_, rfl, ⟨ins_asc hu1, fun x => ?_⟩, by have := insert_len u a[k] hu1; omega⟩
          rw [ins_mem (fun z hz => ((hu2 z).1 hz).2), hu2, List.take_succ_eq_append_getElem hk]
          simp only [List.mem_append, List.mem_singleton]
          constructor
          · rintro (⟨h, h0⟩ | ⟨rfl, h0⟩)
            · exact ⟨h.imp id .inl, h0⟩
            · exact ⟨.inr (.inr rfl), h0⟩
          · rintro ⟨h | h | h, h0⟩
            · exact .inl ⟨.inl h, h0⟩
            · exact .inl ⟨.inr h, h0⟩
            · exact .inr ⟨h, by omega⟩)
        (fun u hu => ⟨u, by simp only [s_LiveOf_b2, lt_ln, Nat.lt_irrefl, decide_false, cond_false], by rw [List.take_length] at hu; exact hu⟩) (s := o) ⟨⟨ho1, fun x => by rw [ho2]; simp⟩, by omega⟩
      rw [q1]
      simp only [Option.bind_some]
      rw [ad1 (by omega)]
      refine ⟨u, rfl, ⟨q2, fun x => ?_⟩, by omega⟩
      rw [q3, nums_succ s i hi, a1, Option.getD_some])
    (fun o ho => ⟨o, by simp only [s_LiveOf_b1, lt_ln, Nat.lt_irrefl, decide_false, cond_false], ho.1, by omega⟩) (s := []) ⟨⟨List.Pairwise.nil, fun x => by simp [nums]⟩, by simp⟩
  rw [h1]
  exact ⟨l, rfl, h2, h3⟩
theorem chunksOf_eq (s : Store) (hv : s.Vols.length ≤ 1048576) (ha : capA s.Arena) : i_chunksOf s = some ((nums s s.Vols.length).filter fun x => decide (x > 0)) := by
  unfold i_chunksOf
  obtain ⟨l, h1, rfl⟩ := loop_ex (body := fun q : List Int × Int => i_chunksOf_b1 s q.1 q.2) (fun (o : List Int) i => (o, i)) s.Vols.length (fun i o => o = (nums s i).filter fun x => decide (x > 0)) (fun o => o = (nums s s.Vols.length).filter fun x => decide (x > 0))
    (fun o i hi ho => by
      have hg : s.Vols[i]? = some s.Vols[i] := List.getElem?_eq_getElem hi
      obtain ⟨a, a1, a3, a2⟩ := AllAt_eq s.Arena ha s.Vols[i].Root
      have hol : o.length ≤ 16 * i := by
        rw [ho]
        have := List.length_filter_le (fun x : Int => decide (x > 0)) (nums s i)
        rw [nums_len s ha i (by omega)] at this
        exact this
      refine .inl ?_
      simp only [i_chunksOf_b1, lt_ln, decide_eq_true hi, cond_true, gi_nat, hg, Option.bind_some, a3]
      rw [filt_loop (body := fun q : List Int × Int => i_chunksOf_b2 a q.1 q.2) a (fun x => decide (x > 0)) o (by omega)
        (fun u k y hy _ => by
          have hk := (List.getElem?_eq_some_iff.1 hy).1
          simp only [i_chunksOf_b2, lt_ln, decide_eq_true hk, cond_true, gi_nat, hy, Option.bind_some])
        (fun u => by simp only [i_chunksOf_b2, lt_ln, Nat.lt_irrefl, decide_false, cond_false])]
      simp only [Option.bind_some]
      rw [ad1 (by omega)]
      refine ⟨_, rfl, ?_⟩
      rw [nums_succ s i hi, a1, Option.getD_some, List.filter_append, ho])
    (fun o ho => ⟨o, by simp only [i_chunksOf_b1, lt_ln, Nat.lt_irrefl, decide_false, cond_false], ho⟩) (s := []) (by simp [nums])
  rw [h1]
  rfl
theorem i_LiveOf_ex (s : Store) (hv : s.Vols.length ≤ 1048576) (ha : capA s.Arena) : ∃ l, i_LiveOf s = some l ∧ isLive s s.Vols.length l := by
  unfold i_LiveOf
  rw [chunksOf_eq s hv ha]
  simp only [Option.bind_some]
  have hcl : ((nums s s.Vols.length).filter fun x => decide (x > 0)).length ≤ 16777216 := by
    have := List.length_filter_le (fun x : Int => decide (x > 0)) (nums s s.Vols.length)
    rw [nums_len s ha _ (Nat.le_refl _)] at this
    omega
  unfold sortI
  rw [if_pos (by omega)]
  simp only [Option.bind_some]
  have hml : (srtI ((nums s s.Vols.length).filter fun x => decide (x > 0))).length ≤ 16777216 := by rw [srtI_len]; exact hcl
  have hmem : ∀ x, x ∈ srtI ((nums s s.Vols.length).filter fun x => decide (x > 0)) ↔ x ∈ nums s s.Vols.length ∧ 0 < x := fun x => by
    unfold srtI
    rw [List.mem_mergeSort, List.mem_filter]
    simp
  have hsorted : (srtI ((nums s s.Vols.length).filter fun x => decide (x > 0))).Pairwise fun x y => x ≤ y := by
    have := List.pairwise_mergeSort (le := fun x y : Int => decide (x ≤ y)) (fun a b c h1 h2 => by simp at *; omega) (fun a b => by simp; omega) ((nums s s.Vols.length).filter fun x => decide (x > 0))
    unfold srtI
    exact this.imp (fun h => by simpa using h)
  generalize srtI ((nums s s.Vols.length).filter fun x => decide (x > 0)) = m at hml hmem hsorted
  obtain ⟨l, h1, h2, h3⟩ := loop_ex (body := fun q : List Int × Int => i_LiveOf_b1 m q.1 q.2) (fun (o : List Int) i => (o, i)) m.length (fun i o => asc o ∧ (∀ x, x ∈ o ↔ x ∈ m.take i) ∧ o.length ≤ i) (fun o => asc o ∧ ∀ x, x ∈ o ↔ x ∈ m)
    (fun o i hi ho => by
      have hg : m[i]? = some m[i] := List.getElem?_eq_getElem hi
      obtain ⟨ho1, ho2, ho3⟩ := ho
      have hle : ∀ x ∈ o, x ≤ m[i] := fun x hx => by
        obtain ⟨k, hk, rfl⟩ := List.getElem_of_mem ((ho2 x).1 hx)
        simp only [List.length_take] at hk
        rw [List.getElem_take]
        exact List.pairwise_iff_getElem.1 hsorted k i (by omega) hi (by omega)
      refine .inl ?_
      simp only [i_LiveOf_b1, lt_ln, decide_eq_true hi, cond_true, gi_nat, hg, Option.bind_some]
      have add : m[i] ∉ o → ∃ s', (some (.inl (o ++ [m[i]], ((i + 1 : Nat) : Int))) : Option ((List Int × Int) ⊕ (List Int))) = some (.inl (s', ((i + 1 : Nat) : Int))) ∧ asc s' ∧ (∀ x, x ∈ s' ↔ x ∈ m.take (i + 1)) ∧ s'.length ≤ i + 1 := fun hno => by
        refine ⟨_, rfl, ?_, fun x => ?_, by simp only [List.length_append, List.length_singleton]; omega⟩
        · unfold asc
          rw [List.pairwise_append]
          refine ⟨ho1, List.pairwise_singleton _ _, fun a ha b hb => ?_⟩
          rw [List.mem_singleton] at hb
          subst hb
          have h1 := hle a ha
          have h2 : a ≠ m[i] := fun e => hno (e ▸ ha)
          omega
        · rw [List.take_succ_eq_append_getElem hi, List.mem_append, List.mem_append, ho2]
      have skip : m[i] ∈ o → ∃ s', (some (.inl (o, ((i + 1 : Nat) : Int))) : Option ((List Int × Int) ⊕ (List Int))) = some (.inl (s', ((i + 1 : Nat) : Int))) ∧ asc s' ∧ (∀ x, x ∈ s' ↔ x ∈ m.take (i + 1)) ∧ s'.length ≤ i + 1 := fun hin => by
        refine ⟨_, rfl, ho1, fun x => ?_, by omega⟩
        rw [List.take_succ_eq_append_getElem hi, List.mem_append, ho2, List.mem_singleton]
        constructor
        · exact .inl
        · rintro (h | rfl)
          · exact h
          · exact (ho2 _).1 hin
      rw [ap_eq (by simp only [List.length_singleton]; omega), ad1 (by omega)]
      by_cases h0 : i = 0
      · subst h0
        simp only [show (((0 : Nat) : Int) == 0) = true from rfl, cond_true, Option.bind_some]
        have : o = [] := List.eq_nil_of_length_eq_zero (by omega)
        exact add (by rw [this]; simp)
      · have e0 : ((i : Int) == 0) = false := by simp; omega
        rw [e0, sb_eq (by omega) (by omega), show ((i : Int) - 1) = ((i - 1 : Nat) : Int) by omega, gi_nat]
        have hg1 : m[i - 1]? = some (m[i - 1]'(by omega)) := List.getElem?_eq_getElem (by omega)
        rw [hg1]
        simp only [cond_false, Option.bind_some]
        by_cases hne : m[i - 1]'(by omega) = m[i]
        · have : ((m[i - 1]'(by omega)) != m[i]) = false := by simp [hne]
          rw [this]
          simp only [cond_false]
          refine skip ((ho2 _).2 ?_)
          rw [← hne]
          rw [List.mem_iff_getElem]
          exact ⟨i - 1, by simp; omega, by rw [List.getElem_take]⟩
        · have : ((m[i - 1]'(by omega)) != m[i]) = true := by simp [hne]
          rw [this]
          simp only [cond_true, Option.bind_some]
          refine add fun hin => ?_
          obtain ⟨k, hk, hkx⟩ := List.getElem_of_mem ((ho2 _).1 hin)
          simp only [List.length_take] at hk
          rw [List.getElem_take] at hkx
          have h1 : m[k]'(by omega) ≤ m[i - 1]'(by omega) := by
            rcases Nat.lt_or_ge k (i - 1) with h | h
            · exact List.pairwise_iff_getElem.1 hsorted k (i - 1) (by omega) (by omega) h
            · have : k = i - 1 := by omega
              subst this
              exact Int.le_refl _
          have h2 : m[i - 1]'(by omega) ≤ m[i] := List.pairwise_iff_getElem.1 hsorted (i - 1) i (by omega) hi (by omega)
          rw [hkx] at h1
          omega)
    (fun o ho => ⟨o, by simp only [i_LiveOf_b1, lt_ln, Nat.lt_irrefl, decide_false, cond_false], ho.1, fun x => by rw [ho.2.1, List.take_length]⟩) (s := []) ⟨List.Pairwise.nil, by simp, by simp⟩
  rw [h1]
  exact ⟨l, rfl, h2, fun x => by rw [h3, hmem]⟩
theorem LiveOf_eq (s : Store) (hv : s.Vols.length ≤ 1048576) (ha : capA s.Arena) : ∃ l, s_LiveOf s = some l ∧ i_LiveOf s = some l ∧ isLive s s.Vols.length l ∧ l.length ≤ 16777216 := by
  obtain ⟨l, h1, h2, h3⟩ := s_LiveOf_ex s hv ha
  obtain ⟨l', k1, k2⟩ := i_LiveOf_ex s hv ha
  have : l' = l := asc_ext k2.1 h2.1 (fun x => by rw [k2.2, h2.2])
  subst this
  exact ⟨l', h1, k1, h2, h3⟩
end Go.TI


namespace Go.TI
open Go
set_option linter.unusedSimpArgs false
set_option linter.unusedVariables false

theorem markText_ex {k : Int} (h0 : 0 ≤ k) (h1 : k ≤ 9223372036854775807) : ∃ v, w_markText k = some v := by
  unfold w_markText
  by_cases hk : k ≤ 0
  · exact ⟨_, by rw [decide_eq_true hk, cond_true]⟩
  · rw [decide_eq_false hk, cond_false]
    obtain ⟨u, hu, hl⟩ := digits_loop (body := fun s : Int × ByteArray => w_markText_b1 s.1 s.2)
      (fun k t h2 h3 h4 => by
        unfold w_markText_b1
        simp only [decide_eq_true h2, cond_true]
        rw [cat_eq _ _ (by rw [L_strB]; simp; omega), Option.bind_some]
        unfold qu
        rw [wr64 (by rw [Int.tdiv_eq_ediv_of_nonneg (by omega)]; omega) (by rw [Int.tdiv_eq_ediv_of_nonneg (by omega)]; omega)])
      (fun k t h2 => by
        unfold w_markText_b1
        simp only [decide_eq_false (show ¬k > 0 by omega), cond_false])
      19 k (bs []) (Int.lt_of_le_of_lt h1 (by decide)) h1 (by rw [L_bs]; simp)
    rw [hu, Option.bind_some, cat_eq _ _ (by rw [L_bs]; simp; omega), Option.bind_some]
    exact ⟨_, rfl⟩
noncomputable def mt (k : Int) : ByteArray := (w_markText k).getD (bs [])
theorem markText_eq {k : Int} (h0 : 0 ≤ k) (h1 : k ≤ 9223372036854775807) : w_markText k = some (mt k) := by
  obtain ⟨v, h⟩ := markText_ex h0 h1
  rw [mt, h]
  rfl

noncomputable def fLeaf (k : Int) (x : Leaf) : Leaf := Leaf.mk k (mt (k + 1))
theorem markLeafS_eq (l : List Leaf) {k : Int} (h0 : 0 ≤ k) (hB : k + (((l.map fun _ => 2).sum : Nat) : Int) ≤ 1152921504606846976) :
    w_markLeafS l k = some (k + (((l.map fun _ => 2).sum : Nat) : Int), marks (fun _ => 2) fLeaf l k) := by
  have hl : l.length ≤ 1152921504606846976 := by rw [sum_const] at hB; omega
  refine mark_list (fun _ => 2) fLeaf (fun _ => True) 1152921504606846976 l rfl (fun pre x post k h1 _ h2 h3 => ?_) (fun m k hm => ?_) (fun _ _ => trivial) h0 hB
  · simp only [w_markLeafS_b1, lt_midM, cond_true, gi_midM, si_midM, Option.bind_some]
    rw [ad_eq (by omega) (by omega), markText_eq (by omega) (by omega), Option.bind_some, ad_eq (by omega) (by omega), ad1 (by omega)]
    simp only [fLeaf]
    congr 4
    omega
  · simp only [w_markLeafS_b1, lt_endM m hm, cond_false]
def cBlock (x : Block) : Nat := 2 + (x.Leaves.map fun _ => 2).sum
noncomputable def fBlock (k : Int) (x : Block) : Block := Block.mk ((Int.tmod k 3) == 0) (k + 1) (marks (fun _ => 2) fLeaf x.Leaves (k + 2))
theorem markBlockS_eq (l : List Block) {k : Int} (h0 : 0 ≤ k) (hB : k + (((l.map cBlock).sum : Nat) : Int) ≤ 1152921504606846976) :
    w_markBlockS l k = some (k + (((l.map cBlock).sum : Nat) : Int), marks cBlock fBlock l k) := by
  have hl : l.length ≤ 1152921504606846976 := by
    have := sum_le (c := fun _ => 2) (z := cBlock) (l := l) (fun x => by simp [cBlock])
    rw [sum_const] at this
    omega
  refine mark_list cBlock fBlock (fun _ => True) 1152921504606846976 l rfl (fun pre x post k h1 _ h2 h3 => ?_) (fun m k hm => ?_) (fun _ _ => trivial) h0 hB
  · have h3' : k + ((2 + (x.Leaves.map fun _ => 2).sum : Nat) : Int) ≤ 1152921504606846976 := h3
    simp only [w_markBlockS_b1, lt_midM, cond_true, gi_midM, si_midM, Option.bind_some]
    rw [ad_eq (a := k) (by omega) (by omega), ad_eq (by omega) (by omega), markLeafS_eq _ (by omega) (by omega), Option.bind_some, ad1 (by omega)]
    have e : k + 1 + 1 = k + 2 := by omega
    simp only [fBlock, e, cBlock]
    congr 4
    omega
  · simp only [w_markBlockS_b1, lt_endM m hm, cond_false]
def fVol (k : Int) (x : Vol) : Vol := Vol.mk k (k + 1)
theorem markVolS_eq (l : List Vol) {k : Int} (h0 : 0 ≤ k) (hB : k + (((l.map fun _ => 2).sum : Nat) : Int) ≤ 1152921504606846976) :
    w_markVolS l k = some (k + (((l.map fun _ => 2).sum : Nat) : Int), marks (fun _ => 2) fVol l k) := by
  have hl : l.length ≤ 1152921504606846976 := by rw [sum_const] at hB; omega
  refine mark_list (fun _ => 2) fVol (fun _ => True) 1152921504606846976 l rfl (fun pre x post k h1 _ h2 h3 => ?_) (fun m k hm => ?_) (fun _ _ => trivial) h0 hB
  · simp only [w_markVolS_b1, lt_midM, cond_true, gi_midM, si_midM, Option.bind_some]
    rw [ad_eq (by omega) (by omega), ad_eq (by omega) (by omega), ad1 (by omega)]
    simp only [fVol]
    congr 4
    omega
  · simp only [w_markVolS_b1, lt_endM m hm, cond_false]
def fInt (k : Int) (x : Int) : Int := k
theorem markIntS_eq (l : List Int) {k : Int} (h0 : 0 ≤ k) (hB : k + (((l.map fun _ => 1).sum : Nat) : Int) ≤ 1152921504606846976) :
    w_markIntS l k = some (k + (((l.map fun _ => 1).sum : Nat) : Int), marks (fun _ => 1) fInt l k) := by
  have hl : l.length ≤ 1152921504606846976 := by rw [sum_const] at hB; omega
  refine mark_list (fun _ => 1) fInt (fun _ => True) 1152921504606846976 l rfl (fun pre x post k h1 _ h2 h3 => ?_) (fun m k hm => ?_) (fun _ _ => trivial) h0 hB
  · simp only [w_markIntS_b1, lt_midM, cond_true, gi_midM, si_midM, Option.bind_some]
    rw [ad_eq (by omega) (by omega), ad1 (by omega)]
    rfl
  · simp only [w_markIntS_b1, lt_endM m hm, cond_false]
theorem heldIntS_eq (l : List Int) {k : Int} (h0 : 0 ≤ k) (hB : k + (((l.map fun _ => 1).sum : Nat) : Int) ≤ 1152921504606846976) :
    w_heldIntS (marks (fun _ => 1) fInt l k) k = some (k + (((l.map fun _ => 1).sum : Nat) : Int)) := by
  have hl : l.length ≤ 1152921504606846976 := by rw [sum_const] at hB; omega
  unfold w_heldIntS
  rw [held_list (body := fun s : Int × Int => w_heldIntS_b1 (marks (fun _ => 1) fInt l k) s.1 s.2) (fun _ => 1) fInt (fun _ => True) 1152921504606846976 l (fun i x k' hi hg _ h2 h3 => ?_) (fun k' => ?_) (fun _ _ => trivial) h0 hB]
  · rfl
  · have hlt : i < (marks (fun _ => 1) fInt l k).length := by rw [marks_len]; exact hi
    simp only [w_heldIntS_b1, lt_ln, decide_eq_true hlt, cond_true, gi_nat, hg, Option.bind_some, fInt, bne_self_eq_false, cond_false]
    rw [ad_eq (by omega) (by omega), ad1 (by omega)]
    rfl
  · simp only [w_heldIntS_b1, lt_ln, marks_len, Nat.lt_irrefl, decide_false, cond_false]
def cKnot (x : Knot) : Nat := 1 + (x.Kids.map fun _ => 1).sum
def fKnot (k : Int) (x : Knot) : Knot := Knot.mk ((Int.tmod k 3) == 0) (marks (fun _ => 1) fInt x.Kids (k + 1))
theorem markKnotS_eq (l : List Knot) {k : Int} (h0 : 0 ≤ k) (hB : k + (((l.map cKnot).sum : Nat) : Int) ≤ 1152921504606846976) :
    w_markKnotS l k = some (k + (((l.map cKnot).sum : Nat) : Int), marks cKnot fKnot l k) := by
  have hl : l.length ≤ 1152921504606846976 := by
    have := sum_le (c := fun _ => 1) (z := cKnot) (l := l) (fun x => by simp [cKnot])
    rw [sum_const] at this
    omega
  refine mark_list cKnot fKnot (fun _ => True) 1152921504606846976 l rfl (fun pre x post k h1 _ h2 h3 => ?_) (fun m k hm => ?_) (fun _ _ => trivial) h0 hB
  · have h3' : k + ((1 + (x.Kids.map fun _ => 1).sum : Nat) : Int) ≤ 1152921504606846976 := h3
    simp only [w_markKnotS_b1, lt_midM, cond_true, gi_midM, si_midM, Option.bind_some]
    rw [ad_eq (a := k) (by omega) (by omega), markIntS_eq _ (by omega) (by omega), Option.bind_some, ad1 (by omega)]
    simp only [fKnot, cKnot]
    congr 4
    omega
  · simp only [w_markKnotS_b1, lt_endM m hm, cond_false]
theorem markDevice_eq (d : Device) (hz : zDevice d ≤ 1048576) : ∃ v, w_markDevice d 1 = some v ∧ 0 ≤ v := by
  unfold zDevice zStore zArena zFlash at hz
  have b1 := sum_le (c := cBlock) (z := fun x => 2 + 2 * zBlock x) (l := d.Flash.Blocks) (fun x => by
    have := zl_len (z := zLeaf) (l := x.Leaves)
    unfold cBlock zBlock
    rw [sum_const]; omega)
  have b2 : (d.Flash.Blocks.map fun x => 2 + 2 * zBlock x).sum = 2 * zl zBlock d.Flash.Blocks := by
    unfold zl
    generalize d.Flash.Blocks = l
    induction l with
    | nil => rfl
    | cons x l ih => simp only [List.map_cons, List.sum_cons, List.length_cons, ih]; omega
  have b3 := sum_le (c := cKnot) (z := fun x => 1 + zKnot x) (l := d.Store.Arena.Knots) (fun x => by
    unfold cKnot zKnot
    rw [sum_const]; omega)
  have b4 : (d.Store.Arena.Knots.map fun x => 1 + zKnot x).sum = zl zKnot d.Store.Arena.Knots := by
    unfold zl
    generalize d.Store.Arena.Knots = l
    induction l with
    | nil => rfl
    | cons x l ih => simp only [List.map_cons, List.sum_cons, List.length_cons, ih]; omega
  have b5 : (d.Store.Vols.map fun _ => 2).sum ≤ 2 * 1048576 := by
    rw [sum_const]; omega
  unfold w_markDevice w_markFlash w_markStore w_markArena
  rw [markBlockS_eq _ (by omega) (by omega)]
  simp only [Option.bind_some]
  rw [markVolS_eq _ (by omega) (by omega)]
  simp only [Option.bind_some]
  rw [markKnotS_eq _ (by omega) (by omega)]
  simp only [Option.bind_some]
  exact ⟨_, rfl, by omega⟩
end Go.TI


namespace Go.TI
open Go
set_option linter.unusedSimpArgs false
set_option linter.unusedVariables false

def cn (n : Nat) (p : Nat → Bool) : Nat := ((List.range n).filter p).length
theorem cn_succ (n : Nat) (p : Nat → Bool) : cn (n + 1) p = cn n p + (bif p n then 1 else 0) := by
  unfold cn
  rw [List.range_succ, List.filter_append, List.length_append]
  cases h : p n with
  | true => rw [List.filter_cons_of_pos (by simpa using h)]; simp
  | false => rw [List.filter_cons_of_neg (by simp [h])]; simp
theorem cn_le (n : Nat) (p : Nat → Bool) : cn n p ≤ n := by
  have := List.length_filter_le p (List.range n)
  rw [List.length_range] at this
  exact this
theorem cn_ext {n : Nat} {p q : Nat → Bool} (h : ∀ j, j < n → p j = q j) : cn n p = cn n q := by
  induction n with
  | zero => rfl
  | succ n ih => rw [cn_succ, cn_succ, ih (fun j hj => h j (by omega)), h n (by omega)]
theorem cn_or {n : Nat} {p q : Nat → Bool} (h : ∀ j, j < n → p j = true → q j = false) : cn n (fun j => p j || q j) = cn n p + cn n q := by
  induction n with
  | zero => rfl
  | succ n ih =>
    rw [cn_succ, cn_succ, cn_succ, ih (fun j hj => h j (by omega))]
    have := h n (by omega)
    cases hp : p n with
    | true => rw [this hp]; simp; omega
    | false => cases q n <;> simp; omega
theorem cn_one {n i : Nat} (hi : i < n) (b : Bool) : cn n (fun j => (some i == some j) && b) = bif b then 1 else 0 := by
  induction n with
  | zero => omega
  | succ n ih =>
    rw [cn_succ]
    by_cases e : i = n
    · subst e
      have : cn i (fun j => (some i == some j) && b) = 0 := by
        have h2 : cn i (fun j => (some i == some j) && b) = cn i (fun _ => false) := cn_ext (fun j hj => by
          have : (some i == some j) = false := by simp; omega
          rw [this]; rfl)
        rw [h2]
        unfold cn
        simp
      rw [this]
      cases b <;> simp
    · rw [ih (by omega)]
      have : (some i == some n) = false := by simp; omega
      rw [this]
      cases b <;> simp
theorem cn_none {n : Nat} (f : Nat → Bool) : cn n (fun j => ((none : Option Nat) == some j) && f j) = 0 := by
  have h2 : cn n (fun j => ((none : Option Nat) == some j) && f j) = cn n (fun _ => false) := cn_ext (fun j _ => rfl)
  rw [h2]
  unfold cn
  simp

theorem cntR_loop {body : Int × Int → Option ((Int × Int) ⊕ Int)} (n : Nat) (p : Nat → Bool) (n0 : Int) (h0 : 0 ≤ n0) (hM : (n : Int) + n0 ≤ 1152921504606846976)
    (hb : ∀ (m : Int) (i : Nat), i < n → body (m, (i : Int)) = (bif p i then some (.inl (ad m 1, ad (i : Int) 1)) else some (.inl (m, ad (i : Int) 1)))) (he : ∀ m, body (m, (n : Int)) = some (.inr m)) : loopO body (n0, 0) = some (n0 + (cn n p : Int)) := by
  obtain ⟨b, h1, rfl⟩ := loop_ex (body := body) (fun (m : Int) i => (m, i)) n (fun i m => m = n0 + (cn i p : Int)) (fun m => m = n0 + (cn n p : Int))
    (fun m i hi hm => by
      have hc := cn_le i p
      refine .inl ?_
      rw [hb m i hi]
      cases hp : p i with
      | true =>
        simp only [cond_true]
        rw [ad_eq (by omega) (by omega), ad1 (by omega)]
        refine ⟨_, rfl, ?_⟩
        rw [cn_succ, hp, hm]
        simp
        omega
      | false =>
        simp only [cond_false]
        rw [ad1 (by omega)]
        refine ⟨_, rfl, ?_⟩
        rw [cn_succ, hp, hm]
        simp)
    (fun m hm => ⟨m, he m, hm⟩) (s := n0) (by simp [cn])
  exact h1
theorem gath_loop {γ : Type} {body : List γ × Int → Option ((List γ × Int) ⊕ List γ)} (by_ : Nat) (n : Nat) (p : Nat → Bool) (g : Nat → γ) (hM : n * by_ ≤ 140737488355328) (hn : n ≤ 1152921504606846976)
    (hb : ∀ (u : List γ) (i : Nat), i < n → body (u, (i : Int)) = (bif p i then ((ap by_ u [g i]).bind fun c => some (.inl (c, ad (i : Int) 1))) else some (.inl (u, ad (i : Int) 1)))) (he : ∀ u, body (u, (n : Int)) = some (.inr u)) : loopO body ([], 0) = some (((List.range n).filter p).map g) := by
  obtain ⟨b, h1, rfl⟩ := loop_ex (body := body) (fun (u : List γ) i => (u, i)) n (fun i u => u = ((List.range i).filter p).map g) (fun u => u = ((List.range n).filter p).map g)
    (fun u i hi hu => by
      have hlen : u.length ≤ i := by
        rw [hu, List.length_map]
        exact cn_le i p
      refine .inl ?_
      rw [hb u i hi]
      cases hp : p i with
      | true =>
        simp only [cond_true]
        have : (u.length + [g i].length) * by_ ≤ n * by_ := Nat.mul_le_mul_right _ (by simp only [List.length_singleton]; omega)
        rw [ap_eq (by omega), ad1 (by omega)]
        refine ⟨_, rfl, ?_⟩
        rw [List.range_succ, List.filter_append, List.filter_cons_of_pos (by simpa using hp), List.filter_nil, List.map_append, hu]
        rfl
      | false =>
        simp only [cond_false]
        rw [ad1 (by omega)]
        refine ⟨_, rfl, ?_⟩
        rw [List.range_succ, List.filter_append, List.filter_cons_of_neg (by simp [hp]), List.filter_nil, List.append_nil, hu])
    (fun u hu => ⟨u, he u, hu⟩) (s := []) (by simp)
  exact h1

def top (c : Int) (r : List Found) : Nat → Option Nat
  | 0 => none
  | n + 1 => bif isOf c (r[n]?.getD found0) then some n else top c r n
theorem top_last (c : Int) (r : List Found) : ∀ n, n ≤ r.length → lastP c r n (top c r n)
  | 0, _ => fun k y hk => by omega
  | n + 1, hn => by
    have hg : r[n]? = some r[n] := List.getElem?_eq_getElem (by omega)
    have ih := top_last c r n (by omega)
    unfold top
    rw [hg, Option.getD_some]
    cases hi : isOf c r[n] with
    | true => exact ⟨by omega, ⟨_, hg, hi⟩, fun k y h1 h2 => by omega⟩
    | false =>
      simp only [cond_false]
      cases ht : top c r n with
      | none =>
        rw [ht] at ih
        intro k y hk hy
        by_cases e : k = n
        · subst e; rw [hg] at hy; injection hy with hy; rw [← hy]; exact hi
        · exact ih k y (by omega) hy
      | some j =>
        rw [ht] at ih
        obtain ⟨h1, h2, h3⟩ := ih
        refine ⟨by omega, h2, fun k y hj hk hy => ?_⟩
        by_cases e : k = n
        · subst e; rw [hg] at hy; injection hy with hy; rw [← hy]; exact hi
        · exact h3 k y hj (by omega) hy
theorem top_some {c : Int} {r : List Found} {n j : Nat} (hn : n ≤ r.length) (h : top c r n = some j) : j < n ∧ ∃ y, r[j]? = some y ∧ isOf c y = true := by
  have := top_last c r n hn
  rw [h] at this
  exact ⟨this.1, this.2.1⟩

def isMeta (base : Int) (y : Found) : Bool := y.Page.Kind == 2 && decide (y.Page.Tx ≥ base)
def mkN (r : List Found) (out : List Bool) (c : Int) : List Bool := match top c r r.length with
  | some i => out.set i true
  | none => out
theorem need_down (r : List Found) (live : List Int) (hr : r.length ≤ 1048576) {k : Nat} {c : Int} (hc : live[k]? = some c) (out : List Bool) (ho : out.length = r.length) : ∀ n, n ≤ r.length →
    loopO (fun s : List Bool × Int => s_l13Needed_b3 r live (k : Int) s.1 s.2) (out, (n : Int) - 1) = some (match top c r n with | some i => out.set i true | none => out)
  | 0, _ => by
    rw [loopO_eq]
    simp only [s_l13Needed_b3]
    rw [decide_eq_false (by omega), cond_false]
    rfl
  | n + 1, hn => by
    have hg : r[n]? = some r[n] := List.getElem?_eq_getElem (by omega)
    have hg2 : out[n]? = some out[n] := List.getElem?_eq_getElem (by omega)
    have e : ((n + 1 : Nat) : Int) - 1 = (n : Int) := by omega
    have ht : top c r (n + 1) = bif isOf c r[n] then some n else top c r n := by
      rw [top, hg, Option.getD_some]
    have hj : (bif r[n].Page.Kind == 1 then some (r[n].Page.Tx == c) else some false) = some (isOf c r[n]) := by
      unfold isOf
      cases r[n].Page.Kind == 1 <;> rfl
    have hb : s_l13Needed_b3 r live (k : Int) out (n : Int) = some (bif isOf c r[n] then .inl (out.set n true, -2) else .inl (out, (n : Int) - 1)) := by
      simp only [s_l13Needed_b3]
      rw [decide_eq_true (by omega), cond_true]
      simp only [gi_nat, hg, hg2, hc, Option.bind_some]
      rw [hj, Option.bind_some, sb_eq (by omega) (by omega), sb_eq (a := (n : Int)) (by omega) (by omega)]
      cases isOf c r[n] <;> simp only [cond_true, cond_false, si_nat] <;> rfl
    rw [e, loopO_eq]
    simp only [hb, ht]
    cases isOf c r[n] with
    | true =>
      simp only [cond_true]
      rw [loopO_eq]
      simp only [s_l13Needed_b3]
      rw [decide_eq_false (by omega), cond_false]
    | false => exact need_down r live hr hc out ho n (by omega)
theorem mkN_len (r : List Found) (out : List Bool) (c : Int) : (mkN r out c).length = out.length := by
  unfold mkN
  split <;> simp
theorem mkN_get (r : List Found) (out : List Bool) (c : Int) (j : Nat) : (mkN r out c)[j]? = out[j]?.map (fun b => b || (top c r r.length == some j)) := by
  unfold mkN
  cases top c r r.length with
  | none =>
    show out[j]? = out[j]?.map (fun b => b || ((none : Option Nat) == some j))
    have e : (fun b : Bool => b || ((none : Option Nat) == some j)) = id := by
      funext b
      cases b <;> rfl
    rw [e, Option.map_id]
    rfl
  | some i =>
    simp only [List.getElem?_set]
    by_cases e : i = j
    · subst e
      simp only [if_true]
      by_cases hi : i < out.length
      · rw [if_pos hi, List.getElem?_eq_getElem hi]; simp
      · rw [if_neg hi, List.getElem?_eq_none (by omega)]; rfl
    · rw [if_neg e]
      have : (some i == some j) = false := by simpa using e
      rw [this]
      have e2 : (fun b : Bool => b || false) = id := by
        funext b
        cases b <;> rfl
      rw [e2, Option.map_id]
      rfl
theorem need_get (r : List Found) (j : Nat) : ∀ (live : List Int) (out : List Bool), (live.foldl (mkN r) out)[j]? = out[j]?.map (fun b => b || live.any (fun c => top c r r.length == some j))
  | [], out => by simp
  | c :: live, out => by
    simp only [List.foldl_cons, List.any_cons]
    rw [need_get r j live, mkN_get]
    cases out[j]? <;> simp [Bool.or_assoc]
theorem fold_len (r : List Found) : ∀ (live : List Int) (out : List Bool), (live.foldl (mkN r) out).length = out.length
  | [], out => rfl
  | c :: live, out => by simp only [List.foldl_cons]; rw [fold_len r live, mkN_len]
theorem need_eq (r : List Found) (live : List Int) (base : Int) (hr : r.length ≤ 1048576) (hl : live.length ≤ 16777216) : s_l13Needed r live base = some (live.foldl (mkN r) (r.map (isMeta base))) := by
  unfold s_l13Needed
  have hmk : mk 1 false (ln r) = some (List.replicate r.length false) := by
    unfold mk
    rw [ln_eq, if_pos ⟨by omega, by omega, by omega⟩, Int.toNat_natCast]
  rw [hmk, Option.bind_some]
  obtain ⟨u, h1, rfl⟩ := loop_ex (body := fun s : List Bool × Int => s_l13Needed_b1 r base s.1 s.2) (fun (u : List Bool) i => (u, i)) r.length (fun i u => u = (r.take i).map (isMeta base) ++ List.replicate (r.length - i) false) (fun u => u = r.map (isMeta base))
    (fun u i hi hu => by
      have hg : r[i]? = some r[i] := List.getElem?_eq_getElem hi
      have e : r.length - i = (r.length - (i + 1)) + 1 := by omega
      have hpl : ((r.take i).map (isMeta base)).length = i := by rw [List.length_map, List.length_take]; omega
      rw [e, List.replicate_succ] at hu
      have et : (r.take (i + 1)).map (isMeta base) = (r.take i).map (isMeta base) ++ [isMeta base r[i]] := by rw [List.take_succ_eq_append_getElem hi, List.map_append]; rfl
      have hgi : gi u (i : Int) = some false := by rw [hu]; have := gi_midM ((r.take i).map (isMeta base)) false (List.replicate (r.length - (i + 1)) false); rw [hpl] at this; exact this
      have hsi : ∀ b, si u (i : Int) b = (r.take i).map (isMeta base) ++ b :: List.replicate (r.length - (i + 1)) false := fun b => by rw [hu]; have := si_midM ((r.take i).map (isMeta base)) false b (List.replicate (r.length - (i + 1)) false); rw [hpl] at this; exact this
      refine .inl ⟨(r.take (i + 1)).map (isMeta base) ++ List.replicate (r.length - (i + 1)) false, ?_, rfl⟩
      simp only [s_l13Needed_b1, lt_ln, decide_eq_true hi, cond_true]
      rw [gi_nat, hg, Option.bind_some, hgi]
      simp only [Option.bind_some, hsi]
      rw [ad1 (by omega), et]
      cases hk : r[i].Page.Kind == 2 with
      | true => simp [isMeta, hk]
      | false => simp [isMeta, hk])
    (fun u hu => ⟨u, by simp only [s_l13Needed_b1, lt_ln, Nat.lt_irrefl, decide_false, cond_false], by rw [hu]; simp⟩) (s := List.replicate r.length false) (by simp)
  rw [h1, Option.bind_some]
  have h2 := loop_list0 (body := fun s : List Bool × Int => s_l13Needed_b2 r live s.1 s.2) (fun (u : List Bool) i => (u, i)) live (fun u _ c => (.inl (mkN r u c) : List Bool ⊕ List Bool)) (fun u => u) (fun _ u => u.length = r.length)
    (fun u i c hc hu => by
      have hi := (List.getElem?_eq_some_iff.1 hc).1
      refine ⟨?_, fun u' hu' => by injection hu' with hu'; rw [← hu', mkN_len, hu]⟩
      simp only [s_l13Needed_b2, lt_ln, decide_eq_true hi, cond_true]
      rw [show ln r = (r.length : Int) from rfl, sb_eq (by omega) (by omega), need_down r live hr hc u hu r.length (Nat.le_refl _), Option.bind_some, ad1 (by omega)]
      rfl)
    (fun u hu => by simp only [s_l13Needed_b2, lt_ln, Nat.lt_irrefl, decide_false, cond_false]) (s := r.map (isMeta base)) (by simp)
  rw [h2, Option.bind_some]
  have : ∀ (l : List Int) (i : Nat) (u : List Bool), foldE (fun u _ c => (.inl (mkN r u c) : List Bool ⊕ List Bool)) (fun u => u) l i u = l.foldl (mkN r) u := by
    intro l
    induction l with
    | nil => intro i u; rfl
    | cons c l ih => intro i u; simp only [foldE, List.foldl_cons]; exact ih _ _
  rw [this]
def bk (r : List Found) (b : Int) (j : Nat) : Bool := (r[j]?.getD found0).Block == b
theorem on_eq (r : List Found) (nd : List Bool) (b : Int) (hr : r.length ≤ 1048576) (hn : nd.length = r.length) : s_l13On r nd b = some ((cn r.length (fun j => nd[j]?.getD false && bk r b j) : Nat) : Int) := by
  unfold s_l13On
  rw [cntR_loop (body := fun s : Int × Int => s_l13On_b1 r nd b s.1 s.2) r.length (fun j => nd[j]?.getD false && bk r b j) 0 (by omega) (by omega)
    (fun m i hi => by
      have hg : r[i]? = some r[i] := List.getElem?_eq_getElem hi
      have hg2 : nd[i]? = some nd[i] := List.getElem?_eq_getElem (by omega)
      simp only [s_l13On_b1, lt_ln, decide_eq_true hi, cond_true, gi_nat, hg, hg2, Option.bind_some, Option.getD_some, bk]
      cases nd[i] <;> simp)
    (fun m => by simp only [s_l13On_b1, lt_ln, Nat.lt_irrefl, decide_false, cond_false])]
  simp
theorem cn_live (r : List Found) (f : Nat → Bool) : ∀ live : List Int, live.Nodup → cn r.length (fun j => live.any (fun c => top c r r.length == some j) && f j) = (live.filter (fun c => match top c r r.length with | some j => f j | none => false)).length
  | [], _ => by
    unfold cn
    simp
  | c :: live, hn => by
    obtain ⟨h1, h2⟩ := List.nodup_cons.1 hn
    have ih := cn_live r f live h2
    have hs : cn r.length (fun j => (c :: live).any (fun c => top c r r.length == some j) && f j) = cn r.length (fun j => ((top c r r.length == some j) && f j) || (live.any (fun c => top c r r.length == some j) && f j)) :=
      cn_ext (fun j _ => by simp only [List.any_cons, Bool.and_or_distrib_right])
    rw [hs, cn_or (fun j hj hp => ?_), ih]
    · cases ht : top c r r.length with
      | none =>
        rw [cn_none]
        rw [List.filter_cons_of_neg (by rw [ht]; simp)]
        simp
      | some i =>
        have hi := (top_some (Nat.le_refl _) ht).1
        have : cn r.length (fun j => (some i == some j) && f j) = bif f i then 1 else 0 := by
          rw [← cn_one hi (f i)]
          refine cn_ext (fun j _ => ?_)
          by_cases e : i = j
          · rw [e]
          · have : (some i == some j) = false := by simpa using e
            rw [this]; rfl
        rw [this]
        cases hf : f i with
        | true => rw [List.filter_cons_of_pos (by rw [ht]; simpa using hf)]; simp; omega
        | false => rw [List.filter_cons_of_neg (by rw [ht]; simp [hf])]; simp
    · simp only [Bool.and_eq_true, beq_iff_eq] at hp
      rw [Bool.and_eq_false_iff]
      refine .inl ?_
      rw [List.any_eq_false]
      intro c' hc' hcc
      have hcc : top c' r r.length = some j := by simpa using hcc
      obtain ⟨_, y, y1, y2⟩ := top_some (Nat.le_refl _) hp.1
      obtain ⟨_, z, z1, z2⟩ := top_some (Nat.le_refl _) hcc
      rw [y1] at z1
      injection z1 with z1
      subst z1
      simp only [isOf, Bool.and_eq_true, beq_iff_eq] at y2 z2
      exact h1 (by rw [← y2.2, z2.2]; exact hc')
theorem asc_nodup {l : List Int} (h : asc l) : l.Nodup := by
  refine List.Pairwise.imp (fun hxy => ?_) h
  omega
theorem NeededOn_eq {f : Flash} {r : List Found} (h : Scan f r) (s : Store) {live : List Int} (hlv : i_LiveOf s = some live) (ha : asc live) (hl : live.length ≤ 16777216) (base b : Int) :
    ∃ n : Nat, s_l13On r (live.foldl (mkN r) (r.map (isMeta base))) b = some (n : Int) ∧ i_NeededOn f s base b = some (n : Int) := by
  refine ⟨_, on_eq r _ b h.len (by rw [fold_len, List.length_map]), ?_⟩
  unfold i_NeededOn i_spots
  rw [hlv, Option.bind_some, h.i]
  have hlen := h.len
  have hsp : ∃ u : List Found, loopO (fun q : List Found × Int => i_spots_b1 f b live q.1 q.2) ([], 0) = some u ∧ u.length = (live.filter (fun c => match top c r r.length with | some j => bk r b j | none => false)).length := by
    obtain ⟨u, h1, h2⟩ := loop_ex (body := fun q : List Found × Int => i_spots_b1 f b live q.1 q.2) (fun (u : List Found) i => (u, i)) live.length (fun i u => u.length = ((live.take i).filter (fun c => match top c r r.length with | some j => bk r b j | none => false)).length) (fun u => u.length = (live.filter (fun c => match top c r r.length with | some j => bk r b j | none => false)).length)
      (fun u i hi hu => by
        have hg : live[i]? = some live[i] := List.getElem?_eq_getElem hi
        obtain ⟨o, o1, o2⟩ := dataOf_ex f r h.i h.len h.srt live[i]
        have ho : o = top live[i] r r.length := lastP_one o2 (top_last _ _ _ (Nat.le_refl _))
        have hlt : u.length ≤ i := by
          rw [hu]
          have := List.length_filter_le (fun c => match top c r r.length with | some j => bk r b j | none => false) (live.take i)
          rw [List.length_take] at this
          omega
        have et : live.take (i + 1) = live.take i ++ [live[i]] := by rw [List.take_succ_eq_append_getElem hi]
        refine .inl ?_
        simp only [i_spots_b1, lt_ln, decide_eq_true hi, cond_true, gi_nat, hg, Option.bind_some, o1]
        cases ht : top live[i] r r.length with
        | none =>
          rw [ht] at ho
          subst ho
          simp only [Option.isSome_none, cond_false, Option.bind_some]
          rw [ad1 (by omega)]
          refine ⟨_, rfl, ?_⟩
          rw [et, List.filter_append, List.filter_cons_of_neg (by rw [ht]; simp), List.filter_nil, List.append_nil, hu]
        | some j =>
          rw [ht] at ho
          subst ho
          simp only [Option.isSome_some, cond_true, Option.bind_some, fdAt]
          cases hb : bk r b j with
          | true =>
            have hb' : ((r[j]?.getD found0).Block == b) = true := hb
            rw [hb']
            simp only [cond_true]
            rw [ap_eq (by simp only [List.length_singleton]; omega), ad1 (by omega)]
            refine ⟨_, rfl, ?_⟩
            rw [et, List.filter_append, List.filter_cons_of_pos (by rw [ht]; simpa using hb), List.filter_nil, List.length_append, List.length_append, hu]
            rfl
          | false =>
            have hb' : ((r[j]?.getD found0).Block == b) = false := hb
            rw [hb']
            simp only [cond_false]
            rw [ad1 (by omega)]
            refine ⟨_, rfl, ?_⟩
            rw [et, List.filter_append, List.filter_cons_of_neg (by rw [ht]; simp [hb]), List.filter_nil, List.append_nil, hu])
      (fun u hu => ⟨u, by simp only [i_spots_b1, lt_ln, Nat.lt_irrefl, decide_false, cond_false], by rw [hu, List.take_length]⟩) (s := []) (by simp)
    exact ⟨u, h1, h2⟩
  obtain ⟨u, u1, u2⟩ := hsp
  have hle := List.length_filter_le (fun c => match top c r r.length with | some j => bk r b j | none => false) live
  rw [u1]
  simp only [Option.bind_some, ln_eq]
  rw [cntR_loop (body := fun q : Int × Int => i_NeededOn_b1 base b r q.1 q.2) r.length (fun j => isMeta base (r[j]?.getD found0) && bk r b j) _ (by omega) (by omega)
    (fun m i hi => by
      have hg : r[i]? = some r[i] := List.getElem?_eq_getElem hi
      simp only [i_NeededOn_b1, lt_ln, decide_eq_true hi, cond_true, gi_nat, hg, Option.bind_some, Option.getD_some, bk, isMeta]
      cases r[i].Block == b <;> cases r[i].Page.Kind == 2 <;> simp)
    (fun m => by simp only [i_NeededOn_b1, lt_ln, Nat.lt_irrefl, decide_false, cond_false])]
  simp only [Option.bind_some, Option.some.injEq]
  have hsum : cn r.length (fun j => (live.foldl (mkN r) (r.map (isMeta base)))[j]?.getD false && bk r b j) = cn r.length (fun j => (isMeta base (r[j]?.getD found0) && bk r b j) || (live.any (fun c => top c r r.length == some j) && bk r b j)) :=
    cn_ext (fun j hj => by
      have hg : r[j]? = some r[j] := List.getElem?_eq_getElem hj
      rw [need_get, List.getElem?_map, hg]
      simp only [Option.map_some, Option.getD_some, Bool.and_or_distrib_right])
  rw [hsum, cn_or (fun j hj hp => ?_), cn_live r (bk r b) live (asc_nodup ha), u2]
  · omega
  · have hg : r[j]? = some r[j] := List.getElem?_eq_getElem hj
    rw [hg, Option.getD_some] at hp
    simp only [Bool.and_eq_true, isMeta, beq_iff_eq] at hp
    rw [Bool.and_eq_false_iff]
    refine .inl ?_
    rw [List.any_eq_false]
    intro c hc hcc
    obtain ⟨_, y, y1, y2⟩ := top_some (Nat.le_refl _) (by simpa using hcc)
    rw [hg] at y1
    injection y1 with y1
    rw [← y1] at y2
    simp only [isOf, Bool.and_eq_true, beq_iff_eq] at y2
    have := hp.1.1
    rw [y2.1] at this
    cases this
theorem blank_eq (x : Block) (hl : x.Leaves.length ≤ 1048576) : ∃ n : Int, i_blanks x = some n ∧ s_l17Blank x = some (!decide (n < ln x.Leaves)) := by
  have hall : ∀ l : List Leaf, (cn l.length (fun j => (l[j]?.getD (Leaf.mk 1 (bs []))).Is == 0) = l.length ↔ l.zipIdx.all (fun z => z.1.Is == 0) = true) := by
    intro l
    rw [List.all_eq_true]
    constructor
    · intro h z hz
      obtain ⟨x, i⟩ := z
      have hzz := List.mem_zipIdx hz
      simp only at hzz ⊢
      obtain ⟨_, h2, h3⟩ := hzz
      unfold cn at h
      have h4 : ((List.range l.length).filter fun j => (l[j]?.getD (Leaf.mk 1 (bs []))).Is == 0).length = (List.range l.length).length := by rw [h, List.length_range]
      have h5 := List.length_filter_eq_length_iff.1 h4 i (List.mem_range.2 (by omega))
      rw [List.getElem?_eq_getElem (by omega), Option.getD_some] at h5
      rw [h3]
      simpa using h5
    · intro h
      unfold cn
      have : ((List.range l.length).filter fun j => (l[j]?.getD (Leaf.mk 1 (bs []))).Is == 0).length = (List.range l.length).length := by
        refine List.length_filter_eq_length_iff.2 fun i hi => ?_
        have hi := List.mem_range.1 hi
        rw [List.getElem?_eq_getElem hi, Option.getD_some]
        exact h (l[i], i) (List.mem_zipIdx_iff_getElem?.2 (List.getElem?_eq_getElem hi))
      rw [this, List.length_range]
  refine ⟨(cn x.Leaves.length (fun j => (x.Leaves[j]?.getD (Leaf.mk 1 (bs []))).Is == 0) : Nat), ?_, ?_⟩
  · unfold i_blanks
    rw [cntR_loop (body := fun q : Int × Int => i_blanks_b1 x q.1 q.2) x.Leaves.length (fun j => (x.Leaves[j]?.getD (Leaf.mk 1 (bs []))).Is == 0) 0 (by omega) (by omega)
      (fun m i hi => by
        have hg : x.Leaves[i]? = some x.Leaves[i] := List.getElem?_eq_getElem hi
        simp only [i_blanks_b1, lt_ln, decide_eq_true hi, cond_true, gi_nat, hg, Option.bind_some, Option.getD_some])
      (fun m => by simp only [i_blanks_b1, lt_ln, Nat.lt_irrefl, decide_false, cond_false])]
    simp
  · unfold s_l17Blank
    rw [loop_all (body := fun s : Int => s_l17Blank_b1 x s) x.Leaves (fun _ y => y.Is == 0) (.inr false) (.inl ()) (by omega)
      (fun i y hy => by
        have hi := (List.getElem?_eq_some_iff.1 hy).1
        simp only [s_l17Blank_b1, lt_ln, decide_eq_true hi, cond_true, gi_nat, hy, Option.bind_some]
        rw [ad1 (by omega)]
        cases hk : y.Is == 0 with
        | true => simp [bne, hk]
        | false => simp [bne, hk])
      (by simp only [s_l17Blank_b1, lt_ln, Nat.lt_irrefl, decide_false, cond_false])]
    have hle := cn_le x.Leaves.length (fun j => (x.Leaves[j]?.getD (Leaf.mk 1 (bs []))).Is == 0)
    cases hb : x.Leaves.zipIdx.all (fun z => z.1.Is == 0) with
    | true =>
      have := (hall x.Leaves).2 hb
      rw [this, ln_eq]
      simp
    | false =>
      have : ¬cn x.Leaves.length (fun j => (x.Leaves[j]?.getD (Leaf.mk 1 (bs []))).Is == 0) = x.Leaves.length := fun e => by rw [(hall x.Leaves).1 e] at hb; cases hb
      rw [ln_eq, decide_eq_true (by omega)]
      rfl
theorem DeadBlocks_eq (d : Device) (hz : zDevice d ≤ 1048576) : ∃ l, s_DeadBlocks d = some l ∧ i_DeadBlocks d = some l ∧ l.length ≤ 1048576 := by
  unfold zDevice at hz
  obtain ⟨r, hr⟩ := Scan_ex d.Flash (by omega)
  have hs : zStore d.Store ≤ 1048576 := by omega
  have hv : d.Store.Vols.length ≤ 1048576 := by unfold zStore at hs; omega
  have ha : capA d.Store.Arena := by
    unfold zStore zArena at hs
    have := zl_len (z := zKnot) (l := d.Store.Arena.Knots)
    unfold capA; omega
  have hf : zFlash d.Flash ≤ 1048576 := by omega
  unfold zFlash at hf
  have hbl := zl_len (z := zBlock) (l := d.Flash.Blocks)
  obtain ⟨live, l1, l2, ⟨l3, l4⟩, l5⟩ := LiveOf_eq d.Store hv ha
  let p : Nat → Bool := fun i => match d.Flash.Blocks[i]? with
    | some x => !x.Bad && ((i_blanks x).elim false fun n => decide (n < ln x.Leaves)) && ((i_NeededOn d.Flash d.Store d.Base (i : Int)).elim false fun n => n == 0)
    | none => false
  have hp : ∀ (i : Nat) (hi : i < d.Flash.Blocks.length), ∃ n m : Int, i_blanks d.Flash.Blocks[i] = some n ∧ s_l17Blank d.Flash.Blocks[i] = some (!decide (n < ln d.Flash.Blocks[i].Leaves)) ∧ i_NeededOn d.Flash d.Store d.Base (i : Int) = some m ∧ s_l13On r (live.foldl (mkN r) (r.map (isMeta d.Base))) (i : Int) = some m ∧
      p i = (!d.Flash.Blocks[i].Bad && decide (n < ln d.Flash.Blocks[i].Leaves) && (m == 0)) := by
    intro i hi
    have hg : d.Flash.Blocks[i]? = some d.Flash.Blocks[i] := List.getElem?_eq_getElem hi
    have hzb := zl_mem (z := zBlock) (List.getElem_mem hi)
    have hzl := zl_len (z := zLeaf) (l := d.Flash.Blocks[i].Leaves)
    unfold zBlock at hzb
    obtain ⟨n, n1, n2⟩ := blank_eq d.Flash.Blocks[i] (by unfold zBlock at hf; omega)
    obtain ⟨m, m1, m2⟩ := NeededOn_eq hr d.Store l2 l3 l5 d.Base (i : Int)
    refine ⟨n, m, n1, n2, m2, m1, ?_⟩
    simp only [p, hg, n1, m2, Option.elim_some]
  have hle := cn_le d.Flash.Blocks.length p
  refine ⟨((List.range d.Flash.Blocks.length).filter p).map (fun (i : Nat) => (i : Int)), ?_, ?_, by rw [List.length_map]; unfold cn at hle; omega⟩
  · unfold s_DeadBlocks
    rw [hr.s, l1]
    simp only [Option.bind_some]
    rw [need_eq r live d.Base hr.len l5]
    simp only [Option.bind_some]
    rw [gath_loop (body := fun s : List Int × Int => s_DeadBlocks_b1 d r (live.foldl (mkN r) (r.map (isMeta d.Base))) s.1 s.2) 8 d.Flash.Blocks.length p (fun (i : Nat) => (i : Int)) (by omega) (by omega)
      (fun u i hi => by
        have hg : d.Flash.Blocks[i]? = some d.Flash.Blocks[i] := List.getElem?_eq_getElem hi
        obtain ⟨n, m, n1, n2, m1, m2, hpi⟩ := hp i hi
        simp only [s_DeadBlocks_b1, lt_ln, decide_eq_true hi, cond_true, gi_nat, hg, Option.bind_some, n2, m2, hpi]
        cases d.Flash.Blocks[i].Bad <;> cases decide (n < ln d.Flash.Blocks[i].Leaves) <;> simp)
      (fun u => by simp only [s_DeadBlocks_b1, lt_ln, Nat.lt_irrefl, decide_false, cond_false])]
    rfl
  · unfold i_DeadBlocks
    rw [gath_loop (body := fun s : List Int × Int => i_DeadBlocks_b1 d s.1 s.2) 8 d.Flash.Blocks.length p (fun (i : Nat) => (i : Int)) (by omega) (by omega)
      (fun u i hi => by
        have hg : d.Flash.Blocks[i]? = some d.Flash.Blocks[i] := List.getElem?_eq_getElem hi
        obtain ⟨n, m, n1, n2, m1, m2, hpi⟩ := hp i hi
        simp only [i_DeadBlocks_b1, lt_ln, decide_eq_true hi, cond_true, gi_nat, hg, Option.bind_some, n1, m1, hpi]
        cases d.Flash.Blocks[i].Bad <;> cases decide (n < ln d.Flash.Blocks[i].Leaves) <;> simp)
      (fun u => by simp only [i_DeadBlocks_b1, lt_ln, Nat.lt_irrefl, decide_false, cond_false])]
    rfl
theorem deadBlocks_true (d : Device) (hd : oDevice d) : w_FnExactDeadBlocks d = some true := by
  unfold w_FnExactDeadBlocks
  obtain ⟨v, h1, h2⟩ := szDevice_eq d hd 1048576 (by omega) (by omega)
  rw [h1, Option.bind_some]
  split at h2
  · rename_i hc
    rw [decide_eq_false (by omega), cond_false]
    have z : zDevice d ≤ 1048576 := by omega
    obtain ⟨l, h3, h4, h5⟩ := DeadBlocks_eq d z
    have e1 := tells_self (eqIntS_eq l l h5)
    obtain ⟨k, k1, k2⟩ := markDevice_eq d z
    have hB : (1 : Int) + (((l.map fun _ => 1).sum : Nat) : Int) ≤ 1152921504606846976 := by rw [sum_const]; omega
    simp only [toDevice_eq d z, Option.bind_some, h3, h4, e1, tells_self (eqDevice_eq d d z), Bool.not_true, cond_false, k1, decide_eq_false (show ¬k < 0 by omega)]
    simp only [markIntS_eq l (k := 1) (by omega) hB, heldIntS_eq l (k := 1) (by omega) hB, Option.bind_some, decide_eq_false (show ¬(1 + (((l.map fun _ => 1).sum : Nat) : Int)) < 0 by omega), cond_false, bne_self_eq_false]
  · rw [decide_eq_true h2, cond_true]
end Go.TI
