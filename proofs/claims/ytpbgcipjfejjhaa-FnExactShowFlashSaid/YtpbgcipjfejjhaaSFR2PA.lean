/- Sums, seals and numbers in texts: the program's and the reference's answer the same. No condition. -/
import Derived.Test.YtpbgcipjfejjhaaSFD
import Derived.Test.YtpbgcipjfejjhaaPL
namespace Go.TI
open Go
set_option linter.unusedSimpArgs false
set_option linter.unusedVariables false

def u32 (s : Int) : Prop := 0 ≤ s ∧ s < 4294967296
theorem SumBits_eq (s : Int) (hs : u32 s) : ∃ v, loopO (fun s : Int × Int => s_SumMore_b2 s.1 s.2) (s, 0) = some v ∧ loopO (fun s : Int × Int => i_SumMore_b2 s.1 s.2) (s, 0) = some v ∧ u32 v :=
  loop_ex2 (body := fun s : Int × Int => s_SumMore_b2 s.1 s.2) (body' := fun s : Int × Int => i_SumMore_b2 s.1 s.2) (fun (s : Int) i => (s, i)) 8 (fun _ s => u32 s) u32
    (fun s i hi hs => by
      simp only [s_SumMore_b2, i_SumMore_b2]
      rw [decide_eq_true (by omega : (i : Int) < 8), cond_true, cond_true, an1 hs.1 hs.2, ← tdiv2 hs.1 hs.2]
      refine ⟨rfl, .inl ?_⟩
      have hw : u32 (IntKind.u32.wrap (Int.tdiv s 2)) := by rw [IntKind.wrap_u32]; constructor <;> omega
      cases Int.tmod s 2 == 1
      · exact ⟨_, by rw [cond_false, ad1 (by omega)], hw⟩
      · exact ⟨_, by rw [cond_true, ad1 (by omega)], xr_in _ _⟩)
    (fun s hs => by
      simp only [s_SumMore_b2, i_SumMore_b2]
      exact ⟨rfl, s, rfl, hs⟩) (s := s) hs
theorem SumMore_eq (s : Int) (t : ByteArray) (hs : u32 s) (ht : (L t).length ≤ 9223372036854775806) : ∃ v, s_SumMore s t = some v ∧ i_SumMore s t = some v ∧ u32 v := by
  obtain ⟨v, h1, h2, h3⟩ := loop_ex2 (body := fun s : Int × Int => s_SumMore_b1 t s.1 s.2) (body' := fun s : Int × Int => i_SumMore_b1 t s.1 s.2) (fun (s : Int) i => (s, i)) (L t).length (fun _ s => u32 s) u32
    (fun s i hi hs => by
      obtain ⟨v, h1, h2, h3⟩ := SumBits_eq (xr s (IntKind.u32.wrap ((L t)[i]).toNat)) (xr_in _ _)
      simp only [s_SumMore_b1, i_SumMore_b1]
      rw [decide_eq_true (by rw [sln_eq]; omega : (i : Int) < sln t), cond_true, cond_true, sx_nat t hi, Option.bind_some, Option.bind_some, h1, h2]
      exact ⟨rfl, .inl ⟨v, by rw [Option.bind_some, ad1 (by omega)], h3⟩⟩)
    (fun s hs => by
      simp only [s_SumMore_b1, i_SumMore_b1]
      rw [decide_eq_false (by rw [sln_eq]; omega : ¬((L t).length : Int) < sln t), cond_false, cond_false]
      exact ⟨rfl, s, rfl, hs⟩) (s := s) hs
  unfold s_SumMore i_SumMore
  rw [h1, h2]
  exact ⟨v, rfl, rfl, h3⟩
theorem SumOf_eq (t : ByteArray) (ht : (L t).length ≤ 9223372036854775806) : ∃ v, s_SumOf t = some v ∧ i_SumOf t = some v ∧ u32 v := by
  obtain ⟨v, h1, h2, h3⟩ := SumMore_eq 4294967295 t ⟨by omega, by omega⟩ ht
  unfold s_SumOf i_SumOf
  rw [h1, h2]
  exact ⟨v, rfl, rfl, h3⟩
/-- A sum as four bytes. -/
def four (v : Int) : ByteArray := strB [(IntKind.u8.wrap (Int.fdiv v (2 ^ (min (24 : Int).toNat IntKind.u32.bits)))), (IntKind.u8.wrap (Int.fdiv v (2 ^ (min (16 : Int).toNat IntKind.u32.bits)))), (IntKind.u8.wrap (Int.fdiv v (2 ^ (min (8 : Int).toNat IntKind.u32.bits)))), (IntKind.u8.wrap v)]
theorem four_len (v : Int) : (L (four v)).length = 4 := by rw [four, L_strB]; rfl
theorem Sealed_eq (t : ByteArray) : i_Sealed t = s_Sealed t := by
  unfold i_Sealed s_Sealed
  by_cases h : (sln t) > 20000
  · rw [decide_eq_true h]; rfl
  · rw [decide_eq_false h, cond_false, cond_false]
    rw [sln_eq] at h
    obtain ⟨v, h1, h2, _⟩ := SumOf_eq t (by omega)
    rw [h1, h2]
    rfl
theorem Sealed_ex (t : ByteArray) : (20000 < (L t).length → s_Sealed t = some (bs [], false)) ∧ ((L t).length ≤ 20000 → ∃ v, s_SumOf t = some v ∧ s_Sealed t = some (t ++ four v, true)) := by
  unfold s_Sealed
  rw [sln_eq]
  refine ⟨fun h => by rw [decide_eq_true (by omega), cond_true], fun h => ?_⟩
  obtain ⟨v, h1, h2, _⟩ := SumOf_eq t (by omega)
  rw [decide_eq_false (by omega), cond_false, h1]
  refine ⟨v, rfl, ?_⟩
  have : s_l02Four v = some (four v) := rfl
  rw [Option.bind_some, this, Option.bind_some, cat_eq _ _ (by rw [four_len]; omega), Option.bind_some]
theorem Unsealed_eq (t : ByteArray) (ht : (L t).length ≤ 9223372036854775806) : ∃ u ok, s_Unsealed t = some (u, ok) ∧ i_Unsealed t = some (u, ok) ∧ (ok = true → (L u).length ≤ 20000 ∧ ∃ v, s_SumOf u = some v ∧ t = u ++ four v) ∧ (ok = false → u = bs []) := by
  unfold s_Unsealed i_Unsealed
  have e4 : sb (sln t) 4 = ((L t).length : Int) - 4 := by rw [sln_eq, sb_eq (by omega) (by omega)]
  rw [e4]
  by_cases h4 : (L t).length < 4
  · rw [decide_eq_true (by omega : ((L t).length : Int) - 4 < 0), decide_eq_true (by rw [sln_eq]; omega : sln t < 4)]
    exact ⟨bs [], false, rfl, rfl, by simp, fun _ => rfl⟩
  · rw [decide_eq_false (by omega : ¬((L t).length : Int) - 4 < 0), decide_eq_false (by rw [sln_eq]; omega : ¬sln t < 4)]
    simp only [cond_false]
    have en : ((L t).length : Int) - 4 = (((L t).length - 4 : Nat) : Int) := by omega
    rw [en, sln_eq]
    have hsub : sub t 0 (((L t).length - 4 : Nat) : Int) = some (t.extract 0 ((L t).length - 4)) := sub_nat t (i := 0) (by omega) (by omega)
    have hsub2 : sub t (((L t).length - 4 : Nat) : Int) ((L t).length : Int) = some (t.extract ((L t).length - 4) (L t).length) := sub_nat t (by omega) (by omega)
    rw [hsub, hsub2]
    simp only [Option.bind_some]
    have hu : (L (t.extract 0 ((L t).length - 4))).length = (L t).length - 4 := by rw [L_ext]; simp
    obtain ⟨k1, k2⟩ := Sealed_ex (t.extract 0 ((L t).length - 4))
    rw [Sealed_eq]
    by_cases hb : 20000 < (L t).length - 4
    · rw [decide_eq_true (by omega : (((L t).length - 4 : Nat) : Int) > 20000), k1 (by omega)]
      exact ⟨bs [], false, rfl, rfl, by simp, fun _ => rfl⟩
    · obtain ⟨v, h1, h2⟩ := k2 (by omega)
      rw [decide_eq_false (by omega : ¬(((L t).length - 4 : Nat) : Int) > 20000), h1, h2]
      have h3 : s_l02Four v = some (four v) := rfl
      simp only [cond_false, Option.bind_some, h3, Bool.not_true]
      have hiff : seq (t.extract ((L t).length - 4) (L t).length) (four v) = seq (t.extract 0 ((L t).length - 4) ++ four v) t := by
        rw [seq_L, seq_L, L_cat, L_ext, L_ext, Bool.eq_iff_iff, decide_eq_true_eq, decide_eq_true_eq]
        have e1 : List.take ((L t).length - ((L t).length - 4)) (List.drop ((L t).length - 4) (L t)) = (L t).drop ((L t).length - 4) := List.take_of_length_le (by simp)
        have e2 : List.take ((L t).length - 4 - 0) (List.drop 0 (L t)) = (L t).take ((L t).length - 4) := by simp
        rw [e1, e2]
        constructor
        · intro h; rw [← h, List.take_append_drop]
        · intro h
          have h' : (L t).take ((L t).length - 4) ++ L (four v) = (L t).take ((L t).length - 4) ++ (L t).drop ((L t).length - 4) := by rw [List.take_append_drop]; exact h
          exact (List.append_cancel_left h').symm
      rw [hiff]
      cases hs : seq (t.extract 0 ((L t).length - 4) ++ four v) t with
      | false => exact ⟨bs [], false, rfl, rfl, by simp, fun _ => rfl⟩
      | true =>
        rw [seq_eq, decide_eq_true_eq] at hs
        exact ⟨_, true, rfl, rfl, fun _ => ⟨by omega, v, h1, hs.symm⟩, by simp⟩

theorem l01Var_eq (n : Nat) (h : n ≤ 1099511627776) : ∃ s, s_l01Var (n : Int) = some s ∧ L s = encV n := by
  unfold s_l01Var
  obtain ⟨m, o, h1, h2, h3, h4⟩ := encV_loop (body := fun s : Int × List Int => s_l01Var_b1 s.1 s.2) (fun _ _ => rfl) n [] (by simpa using h)
  rw [h1, Option.bind_some]
  have : IntKind.u8.wrap (m : Int) = m := by rw [IntKind.wrap_u8]; omega
  rw [this, ap_eq (by simp only [List.length_singleton, List.length_nil] at h3 ⊢; omega), Option.bind_some]
  refine ⟨_, rfl, ?_⟩
  rw [L_strB, h4]
  simp

/-- What a number read tells. -/
def readV (t : ByteArray) (at_ : Int) (r : Int × Int × Bool) : Prop :=
  (r.2.2 = false ∧ r.1 = 0 ∧ r.2.1 = 0) ∨ (r.2.2 = true ∧ ∃ (a b n : Nat), at_ = a ∧ r.2.1 = b ∧ r.1 = n ∧ a < b ∧ b ≤ (L t).length ∧ n ≤ 1000000000 ∧ encV n = ((L t).drop a).take (b - a))
theorem take_succ_drop (l : List UInt8) (a k : Nat) (h : a + k < l.length) : (l.drop a).take (k + 1) = (l.drop a).take k ++ [l[a + k]] := by
  rw [List.take_succ_eq_append_getElem (by simp; omega), List.getElem_drop]
theorem pow128 (k : Nat) (h : k < 5) : (128 : Nat) ^ k ≤ 268435456 := by
  have : k ≤ 4 := by omega
  calc 128 ^ k ≤ 128 ^ 4 := Nat.pow_le_pow_right (by omega) this
    _ = 268435456 := by decide
theorem valV_lt : ∀ ds : List UInt8, valV ds < 128 ^ ds.length
  | [] => by simp [valV]
  | d :: ds => by
    have := valV_lt ds
    simp only [valV, List.length_cons, Nat.pow_succ]
    omega
theorem shl_dig (x k : Nat) (hx : x < 128) (hk : k < 5) : shl .i64 (x : Int) (ml 7 (k : Int)) = some ((x * 128 ^ k : Nat) : Int) := by
  have h7 : ml 7 (k : Int) = ((7 * k : Nat) : Int) := by rw [ml_eq (by omega) (by omega)]; omega
  unfold shl
  rw [h7, if_neg (by omega)]
  have e : (2 : Int) ^ (min ((7 * k : Nat) : Int).toNat IntKind.i64.bits) = ((128 ^ k : Nat) : Int) := by
    have hb : IntKind.i64.bits = 64 := rfl
    have h128 : (128 : Nat) ^ k = 2 ^ (7 * k) := by rw [Nat.pow_mul]
    rw [hb, Int.toNat_natCast, Nat.min_eq_left (by omega), h128]
    norm_cast
  rw [e]
  have hp := pow128 k hk
  have hm : x * 128 ^ k ≤ 128 * 268435456 := Nat.mul_le_mul (by omega) hp
  have ec : (x : Int) * ((128 ^ k : Nat) : Int) = ((x * 128 ^ k : Nat) : Int) := by norm_cast
  rw [ec, wr64 (by omega) (by omega)]
theorem tmod128 (x : Nat) : Int.tmod (x : Int) 128 = ((x % 128 : Nat) : Int) := rfl
theorem ReadVar_eq (t : ByteArray) (at_ : Int) (ht : (L t).length ≤ 4611686018427387904) (hat : oI at_) : ∃ r, s_ReadVar t at_ = some r ∧ i_ReadVar t at_ = some r ∧ readV t at_ r := by
  have fails : ∀ (at_ : Int), (at_ < 0 ∨ ((L t).length : Int) ≤ at_) → oI at_ → i_ReadVar t at_ = some (0, 0, false) := by
    intro at_ h hat
    unfold i_ReadVar
    rw [loopO_eq]
    simp only [i_ReadVar_b1]
    rw [decide_eq_true (by omega : (0 : Int) < 5), cond_true]
    by_cases h0 : at_ ≥ 0
    · rw [decide_eq_true h0, cond_true, sln_eq, sb_eq (by omega) (by omega), decide_eq_false (by omega)]
      rfl
    · rw [decide_eq_false h0]
      rfl
  by_cases hin : 0 ≤ at_ ∧ at_ < (L t).length
  · obtain ⟨a, rfl⟩ := Int.eq_ofNat_of_zero_le hin.1
    have ha : a < (L t).length := by omega
    have key : ∀ (B1 : Int × Int × Int → Option ((Int × Int × Int) ⊕ ((Unit) ⊕ ((Int × Int × Bool))))) (B2 : Int × Int → Option ((Int × Int) ⊕ ((Unit) ⊕ ((Int × Int × Bool))))), (∀ n sc i, B1 (n, sc, i) = s_ReadVar_b1 t (a : Int) n sc i) → (∀ n k, B2 (n, k) = i_ReadVar_b1 t (a : Int) n k) → ∀ (m k : Nat) , k + m = 5 → a + k ≤ (L t).length → (∀ d ∈ ((L t).drop a).take k, 128 ≤ d.toNat) →
        ∃ r, (loopO B1 (((valV (((L t).drop a).take k) : Nat) : Int), ((128 ^ k : Nat) : Int), ((a + k : Nat) : Int)) = some r ∧ loopO B2 (((valV (((L t).drop a).take k) : Nat) : Int), (k : Int)) = some r) ∧ (r = .inl () ∨ ∃ q, r = .inr q ∧ readV t (a : Int) q) := by
      intro B1 B2 hB1 hB2 m
      induction m with
      | zero =>
        intro k hk hle hd
        have hk5 : k = 5 := by omega
        subst hk5
        refine ⟨.inl (), ⟨?_, ?_⟩, .inl rfl⟩
        · rw [loopO_eq]
          simp only [hB1, s_ReadVar_b1]
          rw [ad_eq (by omega) (by omega), decide_eq_false (by omega : ¬((a + 5 : Nat) : Int) < (a : Int) + 5)]
          cases decide (((a + 5 : Nat) : Int) < sln t) <;> rfl
        · rw [loopO_eq]
          simp only [hB2, i_ReadVar_b1]
          rw [decide_eq_false (by omega : ¬((5 : Nat) : Int) < 5)]
          rfl
      | succ m ih =>
        intro k hk hle hd
        rw [loopO_eq, loopO_eq B2]
        simp only [hB1, hB2, s_ReadVar_b1, i_ReadVar_b1]
        have hk5 : k < 5 := by omega
        rw [ad_eq (b := 5) (by omega) (by omega), decide_eq_true (by omega : ((a + k : Nat) : Int) < (a : Int) + 5), decide_eq_true (by omega : (k : Int) < 5), decide_eq_true (by omega : (a : Int) ≥ 0), sln_eq, sb_eq (by omega) (by omega)]
        by_cases hlt : a + k < (L t).length
        · rw [decide_eq_true (by omega : ((a + k : Nat) : Int) < ((L t).length : Int)), decide_eq_true (by omega : (a : Int) < ((L t).length : Int) - k)]
          have eak : ad (a : Int) (k : Int) = ((a + k : Nat) : Int) := by rw [ad_eq (by omega) (by omega)]; omega
          simp only [cond_true, Option.bind_some, sx_nat t hlt, eak]
          have hx := u8_lt ((L t)[a + k])
          have htk := take_succ_drop (L t) a k hlt
          have hpl : (((L t).drop a).take k).length = k := by simp; omega
          have hvv := valV_append (((L t).drop a).take k) [(L t)[a + k]]
          rw [← htk, hpl] at hvv
          have hvl := valV_lt (((L t).drop a).take k)
          rw [hpl] at hvl
          have hp := pow128 k hk5
          generalize hxd : (L t)[a + k] = x at hx htk hvv
          simp only [valV, Nat.mul_zero, Nat.add_zero] at hvv
          have hw : IntKind.i64.wrap (x.toNat : Int) = x.toNat := wr64 (by omega) (by omega)
          have hmul : x.toNat % 128 * 128 ^ k ≤ 127 * 268435456 := Nat.mul_le_mul (by omega) hp
          have emul : ml ((x.toNat % 128 : Nat) : Int) ((128 ^ k : Nat) : Int) = ((x.toNat % 128 * 128 ^ k : Nat) : Int) := by
            have ec : ((x.toNat % 128 : Nat) : Int) * ((128 ^ k : Nat) : Int) = ((x.toNat % 128 * 128 ^ k : Nat) : Int) := by norm_cast
            rw [ml_eq (by rw [ec]; omega) (by rw [ec]; omega), ec]
          have enew : ad (((valV (((L t).drop a).take k) : Nat)) : Int) ((x.toNat % 128 * 128 ^ k : Nat) : Int) = ((valV (((L t).drop a).take (k + 1)) : Nat) : Int) := by
            rw [ad_eq (by omega) (by omega), hvv, Nat.mul_comm (128 ^ k)]
            omega
          rw [hw, tmod128, shl_dig _ k (by omega) hk5]
          simp only [Option.bind_some, emul, enew]
          by_cases hx128 : x.toNat < 128
          · rw [decide_eq_true (by omega : (x.toNat : Int) < 128), decide_eq_false (by omega : ¬(x.toNat : Int) ≥ 128)]
            simp only [cond_true, cond_false]
            have ek1 : ad ((a + k : Nat) : Int) 1 = ((a + k + 1 : Nat) : Int) := ad1 (by omega)
            have hcan := encV_valV (((L t).drop a).take k) x hd hx128
            rw [← htk] at hcan
            have hne : (((L t).drop a).take k ≠ []) ↔ 0 < k := by
              rw [← List.length_pos_iff, hpl]
            rw [hne] at hcan
            have hsub : sub t (a : Int) ((a + k + 1 : Nat) : Int) = some (t.extract a (a + k + 1)) := sub_nat t (by omega) (by omega)
            rw [ek1, hsub]
            by_cases hbig : valV (((L t).drop a).take (k + 1)) > 1000000000
            · rw [decide_eq_true (by omega : ((valV (((L t).drop a).take (k + 1)) : Nat) : Int) > 1000000000)]
              refine ⟨.inr (0, 0, false), ⟨rfl, ?_⟩, .inr ⟨_, rfl, .inl ⟨rfl, rfl, rfl⟩⟩⟩
              cases (x.toNat : Int) == 0
              · rfl
              · cases decide ((k : Int) > 0) <;> rfl
            · rw [decide_eq_false (by omega : ¬((valV (((L t).drop a).take (k + 1)) : Nat) : Int) > 1000000000)]
              obtain ⟨s, hs1, hs2⟩ := l01Var_eq (valV (((L t).drop a).take (k + 1))) (by omega)
              simp only [cond_false, Option.bind_some, hs1]
              have hseq : seq s (t.extract a (a + k + 1)) = decide (¬(x.toNat = 0 ∧ 0 < k)) := by
                rw [seq_L, hs2, L_ext, show a + k + 1 - a = k + 1 by omega, Bool.eq_iff_iff, decide_eq_true_eq, decide_eq_true_eq]
                exact hcan
              rw [hseq]
              by_cases hz : x.toNat = 0 ∧ 0 < k
              · rw [decide_eq_false (fun e => e hz)]
                refine ⟨.inr (0, 0, false), ⟨rfl, ?_⟩, .inr ⟨_, rfl, .inl ⟨rfl, rfl, rfl⟩⟩⟩
                have : ((x.toNat : Int) == 0) = true := by rw [hz.1]; rfl
                rw [this, decide_eq_true (by omega : (k : Int) > 0)]
                rfl
              · rw [decide_eq_true hz]
                refine ⟨.inr (((valV (((L t).drop a).take (k + 1)) : Nat) : Int), ((a + k + 1 : Nat) : Int), true), ⟨rfl, ?_⟩, .inr ⟨_, rfl, .inr ⟨rfl, a, a + k + 1, _, rfl, rfl, rfl, by omega, by omega, by omega, ?_⟩⟩⟩
                · by_cases hx0 : x.toNat = 0
                  · have : ((x.toNat : Int) == 0) = true := by rw [hx0]; rfl
                    rw [this, decide_eq_false (by omega : ¬(k : Int) > 0)]
                    rfl
                  · have : ((x.toNat : Int) == 0) = false := by simpa using hx0
                    rw [this]
                    rfl
                · rw [show a + k + 1 - a = k + 1 by omega]
                  exact hcan.2 hz
          · rw [decide_eq_false (by omega : ¬(x.toNat : Int) < 128), decide_eq_true (by omega : (x.toNat : Int) ≥ 128)]
            simp only [cond_true, cond_false]
            have e1 : ml ((128 ^ k : Nat) : Int) 128 = ((128 ^ (k + 1) : Nat) : Int) := by
              rw [ml_eq (by omega) (by omega), Nat.pow_succ]; norm_cast
            have e2 : ad ((a + k : Nat) : Int) 1 = ((a + (k + 1) : Nat) : Int) := ad1 (by omega)
            have e3 : ad (k : Int) 1 = ((k + 1 : Nat) : Int) := ad1 (by omega)
            rw [e1, e2, e3]
            exact ih (k + 1) (by omega) (by omega) (by
              rw [htk]
              intro d hd'
              rcases List.mem_append.1 hd' with hd' | hd'
              · exact hd d hd'
              · simp at hd'; subst hd'; omega)
        · rw [decide_eq_false (by omega : ¬((a + k : Nat) : Int) < ((L t).length : Int)), decide_eq_false (by omega : ¬(a : Int) < ((L t).length : Int) - k)]
          exact ⟨.inl (), ⟨rfl, rfl⟩, .inl rfl⟩
    obtain ⟨r, ⟨h1, h2⟩, h3⟩ := key (fun s => s_ReadVar_b1 t (a : Int) s.1 s.2.1 s.2.2) (fun s => i_ReadVar_b1 t (a : Int) s.1 s.2) (fun _ _ _ => rfl) (fun _ _ => rfl) 5 0 rfl (by omega) (by simp)
    unfold s_ReadVar i_ReadVar
    have hw : s_l01In (a : Int) 0 (sln t) = some true := by
      unfold s_l01In
      rw [decide_eq_true (by omega : (a : Int) ≥ 0), cond_true, sln_eq, decide_eq_true (by omega)]
    rw [hw]
    simp only [Option.bind_some, Bool.not_true, cond_false]
    simp only [List.take_zero, valV, Nat.pow_zero, Nat.add_zero] at h1 h2
    rw [show ((0 : Nat) : Int) = 0 from rfl, show ((1 : Nat) : Int) = 1 from rfl] at h1
    rw [show ((0 : Nat) : Int) = 0 from rfl] at h2
    rw [h1, h2]
    rcases h3 with rfl | ⟨q, rfl, h3⟩
    · exact ⟨_, rfl, rfl, .inl ⟨rfl, rfl, rfl⟩⟩
    · exact ⟨q, rfl, rfl, h3⟩
  · have hf := fails at_ (by omega) hat
    refine ⟨(0, 0, false), ?_, hf, .inl ⟨rfl, rfl, rfl⟩⟩
    unfold s_ReadVar
    by_cases h0 : 0 ≤ at_ ∧ at_ ≤ (L t).length
    · have hw : s_l01In at_ 0 (sln t) = some true := by
        unfold s_l01In
        rw [decide_eq_true (by omega : at_ ≥ 0), cond_true, sln_eq, decide_eq_true (by omega)]
      rw [hw]
      simp only [Option.bind_some, Bool.not_true, cond_false]
      rw [loopO_eq]
      simp only [s_ReadVar_b1]
      rw [decide_eq_false (by rw [sln_eq]; omega : ¬at_ < sln t)]
      rfl
    · have hw : s_l01In at_ 0 (sln t) = some false := by
        unfold s_l01In
        by_cases h1 : at_ ≥ 0
        · rw [decide_eq_true h1, cond_true, sln_eq, decide_eq_false (by omega)]
        · rw [decide_eq_false h1, cond_false]
      rw [hw]
      rfl
end Go.TI
