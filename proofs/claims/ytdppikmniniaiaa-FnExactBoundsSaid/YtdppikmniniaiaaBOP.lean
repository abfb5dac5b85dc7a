/- Devices: weighed, copied and compared; the room of a flash; Bounds: the law holds, for all arguments. No condition. -/
import Derived.Test.YtdppikmniniaiaaBOD
import Derived.Test.YtdppikmniniaiaaPL
import Derived.Test.YtdppikmniniaiaaSOA

namespace Go.TI
open Go
set_option linter.unusedSimpArgs false
set_option linter.unusedVariables false

theorem eq_in : i_in = s_l01In := rfl
theorem gi_eq_some {α : Type} {l : List α} {i : Int} {x : α} (h : gi l i = some x) : 0 ≤ i ∧ l[i.toNat]? = some x := by
  unfold gi at h
  split at h
  · exact ⟨by assumption, h⟩
  · cases h
/-- Bounds in which nothing is too much. -/
def capF (f : Flash) : Prop := f.Blocks.length ≤ 1048576 ∧ ∀ b ∈ f.Blocks, b.Leaves.length ≤ 1048576
theorem in_eq (x a b : Int) : s_l01In x a b = some (decide (a ≤ x) && decide (x ≤ b)) := by
  unfold s_l01In
  by_cases h : x ≥ a
  · rw [decide_eq_true h, cond_true, Bool.true_and]
  · rw [decide_eq_false h, cond_false, Bool.false_and]
end Go.TI


namespace Go.TI
open Go
set_option linter.unusedSimpArgs false
set_option linter.unusedVariables false

def u32 (s : Int) : Prop := 0 ≤ s ∧ s < 4294967296
theorem SumBits_eq (s : Int) (hs : u32 s) : ∃ v, loopO (fun s : Int × Int => s_SumMore_b2 s.1 s.2) (s, 0) = some v ∧ loopO (fun s : Int × Int => i_SumMore_b2 s.1 s.2) (s, 0) = some v ∧ u32 v :=
  loop_ex2 (body := fun s : Int × Int => s_SumMore_b2 s.1 s.2) (body' := fun s : Int × Int => i_SumMore_b2 s.1 s.2) (fun (s : Int) i => (s, i)) 8 (fun _ s => u32 s) u32
    (fun s i hi hs => by
      simp only [s_SumMore_b2, i_SumMore_b2]
      rw [decide_eq_true (by omega : (i : Int) < 8), cond_true, cond_true, an1 hs.1 hs.2, ← tdiv2 hs.1 hs.2]
      refine ⟨rfl, .inl ?_⟩
      have hw : u32 (IntKind.u32.wrap (Int.tdiv s 2)) := by rw [IntKind.wrap_u32]; constructor <;> omega
      cases Int.tmod s 2 == 1
      · exact ⟨_, by rw [cond_false, ad1 (by omega)], hw⟩
      · exact ⟨_, by rw [cond_true, ad1 (by omega)], xr_in _ _⟩)
    (fun s hs => by
      simp only [s_SumMore_b2, i_SumMore_b2]
      exact ⟨rfl, s, rfl, hs⟩) (s := s) hs
theorem SumMore_eq (s : Int) (t : ByteArray) (hs : u32 s) (ht : (L t).length ≤ 9223372036854775806) : ∃ v, s_SumMore s t = some v ∧ i_SumMore s t = some v ∧ u32 v := by
  obtain ⟨v, h1, h2, h3⟩ := loop_ex2 (body := fun s : Int × Int => s_SumMore_b1 t s.1 s.2) (body' := fun s : Int × Int => i_SumMore_b1 t s.1 s.2) (fun (s : Int) i => (s, i)) (L t).length (fun _ s => u32 s) u32
    (fun s i hi hs => by
      obtain ⟨v, h1, h2, h3⟩ := SumBits_eq (xr s (IntKind.u32.wrap ((L t)[i]).toNat)) (xr_in _ _)
      simp only [s_SumMore_b1, i_SumMore_b1]
      rw [decide_eq_true (by rw [sln_eq]; omega : (i : Int) < sln t), cond_true, cond_true, sx_nat t hi, Option.bind_some, Option.bind_some, h1, h2]
      exact ⟨rfl, .inl ⟨v, by rw [Option.bind_some, ad1 (by omega)], h3⟩⟩)
    (fun s hs => by
      simp only [s_SumMore_b1, i_SumMore_b1]
      rw [decide_eq_false (by rw [sln_eq]; omega : ¬((L t).length : Int) < sln t), cond_false, cond_false]
      exact ⟨rfl, s, rfl, hs⟩) (s := s) hs
  unfold s_SumMore i_SumMore
  rw [h1, h2]
  exact ⟨v, rfl, rfl, h3⟩
theorem SumOf_eq (t : ByteArray) (ht : (L t).length ≤ 9223372036854775806) : ∃ v, s_SumOf t = some v ∧ i_SumOf t = some v ∧ u32 v := by
  obtain ⟨v, h1, h2, h3⟩ := SumMore_eq 4294967295 t ⟨by omega, by omega⟩ ht
  unfold s_SumOf i_SumOf
  rw [h1, h2]
  exact ⟨v, rfl, rfl, h3⟩
/-- A sum as four bytes. -/
def four (v : Int) : ByteArray := strB [(IntKind.u8.wrap (Int.fdiv v (2 ^ (min (24 : Int).toNat IntKind.u32.bits)))), (IntKind.u8.wrap (Int.fdiv v (2 ^ (min (16 : Int).toNat IntKind.u32.bits)))), (IntKind.u8.wrap (Int.fdiv v (2 ^ (min (8 : Int).toNat IntKind.u32.bits)))), (IntKind.u8.wrap v)]
theorem four_len (v : Int) : (L (four v)).length = 4 := by rw [four, L_strB]; rfl
theorem Sealed_eq (t : ByteArray) : i_Sealed t = s_Sealed t := by
  unfold i_Sealed s_Sealed
  by_cases h : (sln t) > 20000
  · rw [decide_eq_true h]; rfl
  · rw [decide_eq_false h, cond_false, cond_false]
    rw [sln_eq] at h
    obtain ⟨v, h1, h2, _⟩ := SumOf_eq t (by omega)
    rw [h1, h2]
    rfl
theorem Sealed_ex (t : ByteArray) : (20000 < (L t).length → s_Sealed t = some (bs [], false)) ∧ ((L t).length ≤ 20000 → ∃ v, s_SumOf t = some v ∧ s_Sealed t = some (t ++ four v, true)) := by
  unfold s_Sealed
  rw [sln_eq]
  refine ⟨fun h => by rw [decide_eq_true (by omega), cond_true], fun h => ?_⟩
  obtain ⟨v, h1, h2, _⟩ := SumOf_eq t (by omega)
  rw [decide_eq_false (by omega), cond_false, h1]
  refine ⟨v, rfl, ?_⟩
  have : s_l02Four v = some (four v) := rfl
  rw [Option.bind_some, this, Option.bind_some, cat_eq _ _ (by rw [four_len]; omega), Option.bind_some]
theorem Unsealed_eq (t : ByteArray) (ht : (L t).length ≤ 9223372036854775806) : ∃ u ok, s_Unsealed t = some (u, ok) ∧ i_Unsealed t = some (u, ok) ∧ (ok = true → (L u).length ≤ 20000 ∧ ∃ v, s_SumOf u = some v ∧ t = u ++ four v) ∧ (ok = false → u = bs []) := by
  unfold s_Unsealed i_Unsealed
  have e4 : sb (sln t) 4 = ((L t).length : Int) - 4 := by rw [sln_eq, sb_eq (by omega) (by omega)]
  rw [e4]
  by_cases h4 : (L t).length < 4
  · rw [decide_eq_true (by omega : ((L t).length : Int) - 4 < 0), decide_eq_true (by rw [sln_eq]; omega : sln t < 4)]
    exact ⟨bs [], false, rfl, rfl, by simp, fun _ => rfl⟩
  · rw [decide_eq_false (by omega : ¬((L t).length : Int) - 4 < 0), decide_eq_false (by rw [sln_eq]; omega : ¬sln t < 4)]
    simp only [cond_false]
    have en : ((L t).length : Int) - 4 = (((L t).length - 4 : Nat) : Int) := by omega
    rw [en, sln_eq]
    have hsub : sub t 0 (((L t).length - 4 : Nat) : Int) = some (t.extract 0 ((L t).length - 4)) := sub_nat t (i := 0) (by omega) (by omega)
    have hsub2 : sub t (((L t).length - 4 : Nat) : Int) ((L t).length : Int) = some (t.extract ((L t).length - 4) (L t).length) := sub_nat t (by omega) (by omega)
    rw [hsub, hsub2]
    simp only [Option.bind_some]
    have hu : (L (t.extract 0 ((L t).length - 4))).length = (L t).length - 4 := by rw [L_ext]; simp
    obtain ⟨k1, k2⟩ := Sealed_ex (t.extract 0 ((L t).length - 4))
    rw [Sealed_eq]
    by_cases hb : 20000 < (L t).length - 4
    · rw [decide_eq_true (by omega : (((L t).length - 4 : Nat) : Int) > 20000), k1 (by omega)]
      exact ⟨bs [], false, rfl, rfl, by simp, fun _ => rfl⟩
    · obtain ⟨v, h1, h2⟩ := k2 (by omega)
      rw [decide_eq_false (by omega : ¬(((L t).length - 4 : Nat) : Int) > 20000), h1, h2]
      have h3 : s_l02Four v = some (four v) := rfl
      simp only [cond_false, Option.bind_some, h3, Bool.not_true]
      have hiff : seq (t.extract ((L t).length - 4) (L t).length) (four v) = seq (t.extract 0 ((L t).length - 4) ++ four v) t := by
        rw [seq_L, seq_L, L_cat, L_ext, L_ext, Bool.eq_iff_iff, decide_eq_true_eq, decide_eq_true_eq]
        have e1 : List.take ((L t).length - ((L t).length - 4)) (List.drop ((L t).length - 4) (L t)) = (L t).drop ((L t).length - 4) := List.take_of_length_le (by simp)
        have e2 : List.take ((L t).length - 4 - 0) (List.drop 0 (L t)) = (L t).take ((L t).length - 4) := by simp
        rw [e1, e2]
        constructor
        · intro h; rw [← h, List.take_append_drop]
        · intro h
          have h' : (L t).take ((L t).length - 4) ++ L (four v) = (L t).take ((L t).length - 4) ++ (L t).drop ((L t).length - 4) := by rw [List.take_append_drop]; exact h
          exact (List.append_cancel_left h').symm
      rw [hiff]
      cases hs : seq (t.extract 0 ((L t).length - 4) ++ four v) t with
      | false => exact ⟨bs [], false, rfl, rfl, by simp, fun _ => rfl⟩
      | true =>
        rw [seq_eq, decide_eq_true_eq] at hs
        exact ⟨_, true, rfl, rfl, fun _ => ⟨by omega, v, h1, hs.symm⟩, by simp⟩

theorem l01Var_eq (n : Nat) (h : n ≤ 1099511627776) : ∃ s, s_l01Var (n : Int) = some s ∧ L s = encV n := by
  unfold s_l01Var
  obtain ⟨m, o, h1, h2, h3, h4⟩ := encV_loop (body := fun s : Int × List Int => s_l01Var_b1 s.1 s.2) (fun _ _ => rfl) n [] (by simpa using h)
  rw [h1, Option.bind_some]
  have : IntKind.u8.wrap (m : Int) = m := by rw [IntKind.wrap_u8]; omega
  rw [this, ap_eq (by simp only [List.length_singleton, List.length_nil] at h3 ⊢; omega), Option.bind_some]
  refine ⟨_, rfl, ?_⟩
  rw [L_strB, h4]
  simp

/-- What a number read tells. -/
def readV (t : ByteArray) (at_ : Int) (r : Int × Int × Bool) : Prop :=
  (r.2.2 = false ∧ r.1 = 0 ∧ r.2.1 = 0) ∨ (r.2.2 = true ∧ ∃ (a b n : Nat), at_ = a ∧ r.2.1 = b ∧ r.1 = n ∧ a < b ∧ b ≤ (L t).length ∧ n ≤ 1000000000 ∧ encV n = ((L t).drop a).take (b - a))
theorem take_succ_drop (l : List UInt8) (a k : Nat) (h : a + k < l.length) : (l.drop a).take (k + 1) = (l.drop a).take k ++ [l[a + k]] := by
  rw [List.take_succ_eq_append_getElem (by simp; omega), List.getElem_drop]
theorem pow128 (k : Nat) (h : k < 5) : (128 : Nat) ^ k ≤ 268435456 := by
  have : k ≤ 4 := by omega
  calc 128 ^ k ≤ 128 ^ 4 := Nat.pow_le_pow_right (by omega) this
    _ = 268435456 := by decide
theorem valV_lt : ∀ ds : List UInt8, valV ds < 128 ^ ds.length
  | [] => by simp [valV]
  | d :: ds => by
    have := valV_lt ds
    simp only [valV, List.length_cons, Nat.pow_succ]
    omega
theorem shl_dig (x k : Nat) (hx : x < 128) (hk : k < 5) : shl .i64 (x : Int) (ml 7 (k : Int)) = some ((x * 128 ^ k : Nat) : Int) := by
  have h7 : ml 7 (k : Int) = ((7 * k : Nat) : Int) := by rw [ml_eq (by omega) (by omega)]; omega
  unfold shl
  rw [h7, if_neg (by omega)]
  have e : (2 : Int) ^ (min ((7 * k : Nat) : Int).toNat IntKind.i64.bits) = ((128 ^ k : Nat) : Int) := by
    have hb : IntKind.i64.bits = 64 := rfl
    have h128 : (128 : Nat) ^ k = 2 ^ (7 * k) := by rw [Nat.pow_mul]
    rw [hb, Int.toNat_natCast, Nat.min_eq_left (by omega), h128]
    norm_cast
  rw [e]
  have hp := pow128 k hk
  have hm : x * 128 ^ k ≤ 128 * 268435456 := Nat.mul_le_mul (by omega) hp
  have ec : (x : Int) * ((128 ^ k : Nat) : Int) = ((x * 128 ^ k : Nat) : Int) := by norm_cast
  rw [ec, wr64 (by omega) (by omega)]
theorem tmod128 (x : Nat) : Int.tmod (x : Int) 128 = ((x % 128 : Nat) : Int) := rfl
theorem ReadVar_eq (t : ByteArray) (at_ : Int) (ht : (L t).length ≤ 4611686018427387904) (hat : oI at_) : ∃ r, s_ReadVar t at_ = some r ∧ i_ReadVar t at_ = some r ∧ readV t at_ r := by
  have fails : ∀ (at_ : Int), (at_ < 0 ∨ ((L t).length : Int) ≤ at_) → oI at_ → i_ReadVar t at_ = some (0, 0, false) := by
    intro at_ h hat
    unfold i_ReadVar
    rw [loopO_eq]
    simp only [i_ReadVar_b1]
    rw [decide_eq_true (by omega : (0 : Int) < 5), cond_true]
    by_cases h0 : at_ ≥ 0
    · rw [decide_eq_true h0, cond_true, sln_eq, sb_eq (by omega) (by omega), decide_eq_false (by omega)]
      rfl
    · rw [decide_eq_false h0]
      rfl
  by_cases hin : 0 ≤ at_ ∧ at_ < (L t).length
  · obtain ⟨a, rfl⟩ := Int.eq_ofNat_of_zero_le hin.1
    have ha : a < (L t).length := by omega
    have key : ∀ (B1 : Int × Int × Int → Option ((Int × Int × Int) ⊕ ((Unit) ⊕ ((Int × Int × Bool))))) (B2 : Int × Int → Option ((Int × Int) ⊕ ((Unit) ⊕ ((Int × Int × Bool))))), (∀ n sc i, B1 (n, sc, i) = s_ReadVar_b1 t (a : Int) n sc i) → (∀ n k, B2 (n, k) = i_ReadVar_b1 t (a : Int) n k) → ∀ (m k : Nat) , k + m = 5 → a + k ≤ (L t).length → (∀ d ∈ ((L t).drop a).take k, 128 ≤ d.toNat) →
        ∃ r, (loopO B1 (((valV (((L t).drop a).take k) : Nat) : Int), ((128 ^ k : Nat) : Int), ((a + k : Nat) : Int)) = some r ∧ loopO B2 (((valV (((L t).drop a).take k) : Nat) : Int), (k : Int)) = some r) ∧ (r = .inl () ∨ ∃ q, r = .inr q ∧ readV t (a : Int) q) := by
      intro B1 B2 hB1 hB2 m
      induction m with
      | zero =>
        intro k hk hle hd
        have hk5 : k = 5 := by omega
        subst hk5
        refine ⟨.inl (), ⟨?_, ?_⟩, .inl rfl⟩
        · rw [loopO_eq]
          simp only [hB1, s_ReadVar_b1]
          rw [ad_eq (by omega) (by omega), decide_eq_false (by omega : ¬((a + 5 : Nat) : Int) < (a : Int) + 5)]
          cases decide (((a + 5 : Nat) : Int) < sln t) <;> rfl
        · rw [loopO_eq]
          simp only [hB2, i_ReadVar_b1]
          rw [decide_eq_false (by omega : ¬((5 : Nat) : Int) < 5)]
          rfl
      | succ m ih =>
        intro k hk hle hd
        rw [loopO_eq, loopO_eq B2]
        simp only [hB1, hB2, s_ReadVar_b1, i_ReadVar_b1]
        have hk5 : k < 5 := by omega
        rw [ad_eq (b := 5) (by omega) (by omega), decide_eq_true (by omega : ((a + k : Nat) : Int) < (a : Int) + 5), decide_eq_true (by omega : (k : Int) < 5), decide_eq_true (by omega : (a : Int) ≥ 0), sln_eq, sb_eq (by omega) (by omega)]
        by_cases hlt : a + k < (L t).length
        · rw [decide_eq_true (by omega : ((a + k : Nat) : Int) < ((L t).length : Int)), decide_eq_true (by omega : (a : Int) < ((L t).length : Int) - k)]
          have eak : ad (a : Int) (k : Int) = ((a + k : Nat) : Int) := by rw [ad_eq (by omega) (by omega)]; omega
          simp only [cond_true, Option.bind_some, sx_nat t hlt, eak]
          have hx := u8_lt ((L t)[a + k])
          have htk := take_succ_drop (L t) a k hlt
          have hpl : (((L t).drop a).take k).length = k := by simp; omega
          have hvv := valV_append (((L t).drop a).take k) [(L t)[a + k]]
          rw [← htk, hpl] at hvv
          have hvl := valV_lt (((L t).drop a).take k)
          rw [hpl] at hvl
          have hp := pow128 k hk5
          generalize hxd : (L t)[a + k] = x at hx htk hvv
          simp only [valV, Nat.mul_zero, Nat.add_zero] at hvv
          have hw : IntKind.i64.wrap (x.toNat : Int) = x.toNat := wr64 (by omega) (by omega)
          have hmul : x.toNat % 128 * 128 ^ k ≤ 127 * 268435456 := Nat.mul_le_mul (by omega) hp
          have emul : ml ((x.toNat % 128 : Nat) : Int) ((128 ^ k : Nat) : Int) = ((x.toNat % 128 * 128 ^ k : Nat) : Int) := by
            have ec : ((x.toNat % 128 : Nat) : Int) * ((128 ^ k : Nat) : Int) = ((x.toNat % 128 * 128 ^ k : Nat) : Int) := by norm_cast
            rw [ml_eq (by rw [ec]; omega) (by rw [ec]; omega), ec]
          have enew : ad (((valV (((L t).drop a).take k) : Nat)) : Int) ((x.toNat % 128 * 128 ^ k : Nat) : Int) = ((valV (((L t).drop a).take (k + 1)) : Nat) : Int) := by
            rw [ad_eq (by omega) (by omega), hvv, Nat.mul_comm (128 ^ k)]
            omega
          rw [hw, tmod128, shl_dig _ k (by omega) hk5]
          simp only [Option.bind_some, emul, enew]
          by_cases hx128 : x.toNat < 128
          · rw [decide_eq_true (by omega : (x.toNat : Int) < 128), decide_eq_false (by omega : ¬(x.toNat : Int) ≥ 128)]
            simp only [cond_true, cond_false]
            have ek1 : ad ((a + k : Nat) : Int) 1 = ((a + k + 1 : Nat) : Int) := ad1 (by omega)
            have hcan := encV_valV (((L t).drop a).take k) x hd hx128
            rw [← htk] at hcan
            have hne : (((L t).drop a).take k ≠ []) ↔ 0 < k := by
              rw [← List.length_pos_iff, hpl]
            rw [hne] at hcan
            have hsub : sub t (a : Int) ((a + k + 1 : Nat) : Int) = some (t.extract a (a + k + 1)) := sub_nat t (by omega) (by omega)
            rw [ek1, hsub]
            by_cases hbig : valV (((L t).drop a).take (k + 1)) > 1000000000
            · rw [decide_eq_true (by omega : ((valV (((L t).drop a).take (k + 1)) : Nat) : Int) > 1000000000)]
              refine ⟨.inr (0, 0, false), ⟨rfl, ?_⟩, .inr ⟨_, rfl, .inl ⟨rfl, rfl, rfl⟩⟩⟩
              cases (x.toNat : Int) == 0
              · rfl
              · cases decide ((k : Int) > 0) <;> rfl
            · rw [decide_eq_false (by omega : ¬((valV (((L t).drop a).take (k + 1)) : Nat) : Int) > 1000000000)]
              obtain ⟨s, hs1, hs2⟩ := l01Var_eq (valV (((L t).drop a).take (k + 1))) (by omega)
              simp only [cond_false, Option.bind_some, hs1]
              have hseq : seq s (t.extract a (a + k + 1)) = decide (¬(x.toNat = 0 ∧ 0 < k)) := by
                rw [seq_L, hs2, L_ext, show a + k + 1 - a = k + 1 by omega, Bool.eq_iff_iff, decide_eq_true_eq, decide_eq_true_eq]
                exact hcan
              rw [hseq]
              by_cases hz : x.toNat = 0 ∧ 0 < k
              · rw [decide_eq_false (fun e => e hz)]
                refine ⟨.inr (0, 0, false), ⟨rfl, ?_⟩, .inr ⟨_, rfl, .inl ⟨rfl, rfl, rfl⟩⟩⟩
                have : ((x.toNat : Int) == 0) = true := by rw [hz.1]; rfl
                rw [this, decide_eq_true (by omega : (k : Int) > 0)]
                rfl
              · rw [decide_eq_true hz]
                refine ⟨.inr (((valV (((L t).drop a).take (k + 1)) : Nat) : Int), ((a + k + 1 : Nat) : Int), true), ⟨rfl, ?_⟩, .inr ⟨_, rfl, .inr ⟨rfl, a, a + k + 1, _, rfl, rfl, rfl, by omega, by omega, by omega, ?_⟩⟩⟩
                · by_cases hx0 : x.toNat = 0
                  · have : ((x.toNat : Int) == 0) = true := by rw [hx0]; rfl
                    rw [this, decide_eq_false (by omega : ¬(k : Int) > 0)]
                    rfl
                  · have : ((x.toNat : Int) == 0) = false := by simpa using hx0
                    rw [this]
                    rfl
                · rw [show a + k + 1 - a = k + 1 by omega]
                  exact hcan.2 hz
          · rw [decide_eq_false (by omega : ¬(x.toNat : Int) < 128), decide_eq_true (by omega : (x.toNat : Int) ≥ 128)]
            simp only [cond_true, cond_false]
            have e1 : ml ((128 ^ k : Nat) : Int) 128 = ((128 ^ (k + 1) : Nat) : Int) := by
              rw [ml_eq (by omega) (by omega), Nat.pow_succ]; norm_cast
            have e2 : ad ((a + k : Nat) : Int) 1 = ((a + (k + 1) : Nat) : Int) := ad1 (by omega)
            have e3 : ad (k : Int) 1 = ((k + 1 : Nat) : Int) := ad1 (by omega)
            rw [e1, e2, e3]
            exact ih (k + 1) (by omega) (by omega) (by
              rw [htk]
              intro d hd'
              rcases List.mem_append.1 hd' with hd' | hd'
              · exact hd d hd'
              · simp at hd'; subst hd'; omega)
        · rw [decide_eq_false (by omega : ¬((a + k : Nat) : Int) < ((L t).length : Int)), decide_eq_false (by omega : ¬(a : Int) < ((L t).length : Int) - k)]
          exact ⟨.inl (), ⟨rfl, rfl⟩, .inl rfl⟩
    obtain ⟨r, ⟨h1, h2⟩, h3⟩ := key (fun s => s_ReadVar_b1 t (a : Int) s.1 s.2.1 s.2.2) (fun s => i_ReadVar_b1 t (a : Int) s.1 s.2) (fun _ _ _ => rfl) (fun _ _ => rfl) 5 0 rfl (by omega) (by simp)
    unfold s_ReadVar i_ReadVar
    have hw : s_l01In (a : Int) 0 (sln t) = some true := by
      unfold s_l01In
      rw [decide_eq_true (by omega : (a : Int) ≥ 0), cond_true, sln_eq, decide_eq_true (by omega)]
    rw [hw]
    simp only [Option.bind_some, Bool.not_true, cond_false]
    simp only [List.take_zero, valV, Nat.pow_zero, Nat.add_zero] at h1 h2
    rw [show ((0 : Nat) : Int) = 0 from rfl, show ((1 : Nat) : Int) = 1 from rfl] at h1
    rw [show ((0 : Nat) : Int) = 0 from rfl] at h2
    rw [h1, h2]
    rcases h3 with rfl | ⟨q, rfl, h3⟩
    · exact ⟨_, rfl, rfl, .inl ⟨rfl, rfl, rfl⟩⟩
    · exact ⟨q, rfl, rfl, h3⟩
  · have hf := fails at_ (by omega) hat
    refine ⟨(0, 0, false), ?_, hf, .inl ⟨rfl, rfl, rfl⟩⟩
    unfold s_ReadVar
    by_cases h0 : 0 ≤ at_ ∧ at_ ≤ (L t).length
    · have hw : s_l01In at_ 0 (sln t) = some true := by
        unfold s_l01In
        rw [decide_eq_true (by omega : at_ ≥ 0), cond_true, sln_eq, decide_eq_true (by omega)]
      rw [hw]
      simp only [Option.bind_some, Bool.not_true, cond_false]
      rw [loopO_eq]
      simp only [s_ReadVar_b1]
      rw [decide_eq_false (by rw [sln_eq]; omega : ¬at_ < sln t)]
      rfl
    · have hw : s_l01In at_ 0 (sln t) = some false := by
        unfold s_l01In
        by_cases h1 : at_ ≥ 0
        · rw [decide_eq_true h1, cond_true, sln_eq, decide_eq_false (by omega)]
        · rw [decide_eq_false h1, cond_false]
      rw [hw]
      rfl
end Go.TI


namespace Go.TI
open Go
set_option linter.unusedSimpArgs false
set_option linter.unusedVariables false

theorem PageOk_eq (p : Page) : ∃ v, s_PageOk p = some v ∧ i_PageOk p = some v ∧ (v = true → (p.Kind = 1 ∨ p.Kind = 2) ∧ (1 ≤ p.Seq ∧ p.Seq ≤ 1000000000) ∧ (1 ≤ p.Tx ∧ p.Tx ≤ 1000000000) ∧ (1 ≤ p.Count ∧ p.Count ≤ 9) ∧ (0 ≤ p.Part ∧ p.Part < p.Count) ∧ sln p.Text ≤ 90) := by
  unfold s_PageOk i_PageOk
  rw [eq_in]
  simp only [in_eq, Option.bind_some]
  by_cases h1 : 1 ≤ p.Seq ∧ p.Seq ≤ 1000000000
  · by_cases h2 : 1 ≤ p.Tx ∧ p.Tx ≤ 1000000000
    · by_cases h3 : 1 ≤ p.Count ∧ p.Count ≤ 9
      · have e : sb p.Count 1 = p.Count - 1 := sb_eq (by omega) (by omega)
        rw [e]
        by_cases h4 : 0 ≤ p.Part ∧ p.Part ≤ p.Count - 1
        · by_cases h5 : sln p.Text > 90
          · refine ⟨false, ?_, ?_, by simp⟩
            · cases hk : (decide (1 ≤ p.Kind) && decide (p.Kind ≤ 2)) <;> simp [h1, h2, h3, h4, h5]
            · simp [h1, h2, h3, h4, h5]
          · by_cases k2 : p.Kind = 2
            · exact ⟨true, by simp [h1, h2, h3, h4, h5, k2], by simp [h1, h2, h3, h4, h5, k2], fun _ => ⟨.inr k2, h1, h2, h3, ⟨h4.1, by omega⟩, by omega⟩⟩
            · by_cases k1 : p.Kind = 1
              · exact ⟨p.Count == 1, by simp [h1, h2, h3, h4, h5, k1], by simp [h1, h2, h3, h4, h5, k1], fun _ => ⟨.inl k1, h1, h2, h3, ⟨h4.1, by omega⟩, by omega⟩⟩
              · have hk : (decide (1 ≤ p.Kind) && decide (p.Kind ≤ 2)) = false := by
                  rw [Bool.and_eq_false_iff, decide_eq_false_iff_not, decide_eq_false_iff_not]; omega
                have e1 : (p.Kind == 1) = false := by simpa using k1
                have e2 : (p.Kind == 2) = false := by simpa using k2
                exact ⟨false, by simp [hk], by simp [h1, h2, h3, h4, h5, e1, e2], by simp⟩
        · have e4 : (decide (0 ≤ p.Part) && decide (p.Part ≤ p.Count - 1)) = false := by
            rw [Bool.and_eq_false_iff, decide_eq_false_iff_not, decide_eq_false_iff_not]; omega
          refine ⟨false, ?_, ?_, by simp⟩
          · cases hk : (decide (1 ≤ p.Kind) && decide (p.Kind ≤ 2)) <;> simp [h1, h2, h3, e4]
          · simp [h1, h2, h3, e4]
      · have e3 : (decide (1 ≤ p.Count) && decide (p.Count ≤ 9)) = false := by
          rw [Bool.and_eq_false_iff, decide_eq_false_iff_not, decide_eq_false_iff_not]; omega
        refine ⟨false, ?_, ?_, by simp⟩
        · cases hk : (decide (1 ≤ p.Kind) && decide (p.Kind ≤ 2)) <;> simp [h1, h2, e3]
        · simp [h1, h2, e3]
    · have e2 : (decide (1 ≤ p.Tx) && decide (p.Tx ≤ 1000000000)) = false := by
        rw [Bool.and_eq_false_iff, decide_eq_false_iff_not, decide_eq_false_iff_not]; omega
      refine ⟨false, ?_, ?_, by simp⟩
      · cases hk : (decide (1 ≤ p.Kind) && decide (p.Kind ≤ 2)) <;> simp [h1, e2]
      · simp [h1, e2]
  · have e1 : (decide (1 ≤ p.Seq) && decide (p.Seq ≤ 1000000000)) = false := by
      rw [Bool.and_eq_false_iff, decide_eq_false_iff_not, decide_eq_false_iff_not]; omega
    refine ⟨false, ?_, ?_, by simp⟩
    · cases hk : (decide (1 ≤ p.Kind) && decide (p.Kind ≤ 2)) <;> simp [e1]
    · simp [e1]

def page0 : Page := Page.mk 0 0 0 0 0 (bs [])
theorem l06Var_bad (u : ByteArray) (a : Int) (hu : (L u).length ≤ 20000) (ha : oI a) : s_l06Var (l06Cur.mk u a true) = some (0, l06Cur.mk u a true) := by
  obtain ⟨r, h1, _, _⟩ := ReadVar_eq u a (by omega) ha
  unfold s_l06Var
  simp only [h1, Option.bind_some, cond_true]
theorem l06Var_good (u : ByteArray) (a : Int) (hu : (L u).length ≤ 20000) {r : Int × Int × Bool} (h : s_ReadVar u a = some r) : s_l06Var (l06Cur.mk u a false) = some (bif r.2.2 then (r.1, l06Cur.mk u r.2.1 false) else (0, l06Cur.mk u a true)) := by
  unfold s_l06Var
  simp only [h, Option.bind_some, cond_false]
  cases r.2.2 <;> rfl
theorem drop_split (l : List UInt8) {a b : Nat} (h : a ≤ b) : l.drop a = (l.drop a).take (b - a) ++ l.drop b := by
  have := (List.take_append_drop (b - a) (l.drop a)).symm
  rw [List.drop_drop, show a + (b - a) = b by omega] at this
  exact this

theorem PageText_eq (p : Page) (u : ByteArray) (k : UInt8) (n1 n2 n3 n4 : Nat) (hp : s_PageOk p = some true) (hk : p.Kind = (k.toNat : Int)) (h1 : p.Seq = n1) (h2 : p.Tx = n2) (h3 : p.Part = n3) (h4 : p.Count = n4)
    (b1 : n1 ≤ 1000000000) (b2 : n2 ≤ 1000000000) (b3 : n3 ≤ 1000000000) (b4 : n4 ≤ 1000000000) (hu : (L u).length ≤ 20000) (e : L u = [k] ++ encV n1 ++ encV n2 ++ encV n3 ++ encV n4 ++ L p.Text) : s_PageText p = s_Sealed u := by
  obtain ⟨s1, q1, r1⟩ := l01Var_eq n1 (by omega)
  obtain ⟨s2, q2, r2⟩ := l01Var_eq n2 (by omega)
  obtain ⟨s3, q3, r3⟩ := l01Var_eq n3 (by omega)
  obtain ⟨s4, q4, r4⟩ := l01Var_eq n4 (by omega)
  have hl := congrArg List.length e
  simp only [List.length_append, List.length_singleton] at hl
  have hb : s_l06Byte p.Kind = some (strB [IntKind.u8.wrap p.Kind]) := rfl
  have hbL : L (strB [IntKind.u8.wrap p.Kind]) = [k] := by
    rw [L_strB, hk, IntKind.wrap_u8]
    have := u8_lt k
    have e2 : ((k.toNat : Int) % 256).toNat = k.toNat := by omega
    simp only [List.map_cons, List.map_nil, e2, UInt8.ofNat_toNat]
  unfold s_PageText
  rw [hp]
  simp only [Option.bind_some, Bool.not_true, cond_false, hb, h1, h2, h3, h4, q1, q2, q3, q4]
  rw [cat_eq _ _ (by rw [hbL, r1]; simp only [List.length_singleton]; omega), Option.bind_some]
  rw [cat_eq _ _ (by rw [L_cat, hbL, r1, r2]; simp only [List.length_append, List.length_singleton]; omega), Option.bind_some]
  rw [cat_eq _ _ (by rw [L_cat, L_cat, hbL, r1, r2, r3]; simp only [List.length_append, List.length_singleton]; omega), Option.bind_some]
  rw [cat_eq _ _ (by rw [L_cat, L_cat, L_cat, hbL, r1, r2, r3, r4]; simp only [List.length_append, List.length_singleton]; omega), Option.bind_some]
  rw [cat_eq _ _ (by rw [L_cat, L_cat, L_cat, L_cat, hbL, r1, r2, r3, r4]; simp only [List.length_append, List.length_singleton]; omega), Option.bind_some]
  have : strB [IntKind.u8.wrap p.Kind] ++ s1 ++ s2 ++ s3 ++ s4 ++ p.Text = u := by
    apply L_inj
    rw [L_cat, L_cat, L_cat, L_cat, L_cat, hbL, r1, r2, r3, r4, e]
  rw [this]
  cases s_Sealed u with
  | none => rfl
  | some v => rfl

theorem ReadPage_eq (t : ByteArray) (ht : (L t).length ≤ 9223372036854775806) : ∃ p ok, s_ReadPage t = some (p, ok) ∧ i_ReadPage t = some (p, ok) ∧ (ok = false → p = page0) ∧ (ok = true → s_PageOk p = some true) := by
  obtain ⟨u, uok, hu1, hu2, hu3, hu4⟩ := Unsealed_eq t ht
  unfold s_ReadPage i_ReadPage
  rw [hu1, hu2]
  simp only [Option.bind_some]
  have o1 : oI 1 := ⟨by omega, by omega⟩
  cases uok with
  | false =>
    have := hu4 rfl
    subst this
    have hz : (L (bs [])).length ≤ 20000 := by rw [L_bs]; simp
    simp only [Bool.not_false, cond_true, Option.bind_some, l06Var_bad _ _ hz o1]
    exact ⟨page0, false, rfl, rfl, fun _ => rfl, by simp⟩
  | true =>
    obtain ⟨hul, v, hv, htu⟩ := hu3 rfl
    simp only [Bool.not_true, cond_false, Option.bind_some]
    by_cases he : (L u).length < 1
    · have he2 : seq u (bs []) = true := by
        rw [seq_L, decide_eq_true_eq, L_bs]
        exact List.eq_nil_of_length_eq_zero (by omega)
      rw [decide_eq_true (by rw [sln_eq]; omega : sln u < 1), he2]
      simp only [cond_true, l06Var_bad _ _ hul o1, Option.bind_some]
      exact ⟨page0, false, rfl, rfl, fun _ => rfl, by simp⟩
    · have he2 : seq u (bs []) = false := by
        rw [seq_L, decide_eq_false_iff_not, L_bs]
        intro e
        rw [e] at he
        simp at he
      rw [decide_eq_false (by rw [sln_eq]; omega : ¬sln u < 1), he2]
      simp only [cond_false]
      -- the four numbers
      have four_ : ∀ (B : Int × Int × Int × Int × Int × Int → Option ((Int × Int × Int × Int × Int × Int) ⊕ ((Int × Int × Int × Int × Int) ⊕ ((Page × Bool))))), (∀ x y a b c d, B (x, y, a, b, c, d) = i_ReadPage_b1 (u, true) x y a b c d) →
          ∃ (a : Int) (m1 m2 m3 m4 : Int) (bad : Bool), (∃ c1 c2 c3, s_l06Var (l06Cur.mk u 1 false) = some (m1, c1) ∧ s_l06Var c1 = some (m2, c2) ∧ s_l06Var c2 = some (m3, c3) ∧ s_l06Var c3 = some (m4, l06Cur.mk u a bad)) ∧
            loopO B (1, 0, 0, 0, 0, 0) = some (bif bad then .inr (page0, false) else .inl (a, m1, m2, m3, m4)) ∧ (bad = false → ∃ (a1 a2 a3 a4 n1 n2 n3 n4 : Nat), m1 = n1 ∧ m2 = n2 ∧ m3 = n3 ∧ m4 = n4 ∧ a = a4 ∧ 1 < a1 ∧ a1 < a2 ∧ a2 < a3 ∧ a3 < a4 ∧ a4 ≤ (L u).length ∧ n1 ≤ 1000000000 ∧ n2 ≤ 1000000000 ∧ n3 ≤ 1000000000 ∧ n4 ≤ 1000000000 ∧
              encV n1 = ((L u).drop 1).take (a1 - 1) ∧ encV n2 = ((L u).drop a1).take (a2 - a1) ∧ encV n3 = ((L u).drop a2).take (a3 - a2) ∧ encV n4 = ((L u).drop a3).take (a4 - a3)) := by
        intro B hB
        obtain ⟨r1, p1, q1, w1⟩ := ReadVar_eq u 1 (by omega) o1
        have g1 := l06Var_good u 1 hul p1
        rw [loopO_eq, hB]
        unfold i_ReadPage_b1
        rw [decide_eq_true (by omega : (0 : Int) < 4), cond_true, q1, Option.bind_some]
        rcases w1 with ⟨w1, w2, w3⟩ | ⟨w1, a0', a1, n1, z0, z1, z2, z3, z4, z5, z6⟩
        · rw [w1] at g1 ⊢
          exact ⟨1, 0, 0, 0, 0, true, ⟨_, _, _, g1, l06Var_bad u 1 hul o1, l06Var_bad u 1 hul o1, l06Var_bad u 1 hul o1⟩, rfl, by simp⟩
        have ea0 : a0' = 1 := by omega
        subst ea0
        rw [w1] at g1 ⊢
        have x1 : oI r1.2.1 := ⟨by omega, by omega⟩
        simp only [Bool.not_true, cond_false, cond_true] at g1 ⊢
        rw [show ((0 : Int) == 0) = true from rfl, cond_true, show ad 0 1 = 1 from ad1 (i := 0) (by omega)]
        simp only
        obtain ⟨r2, p2, q2, y1⟩ := ReadVar_eq u r1.2.1 (by omega) x1
        have g2 := l06Var_good u r1.2.1 hul p2
        rw [loopO_eq, hB]
        unfold i_ReadPage_b1
        rw [decide_eq_true (by omega : (1 : Int) < 4), cond_true, q2, Option.bind_some]
        rcases y1 with ⟨y1, _, _⟩ | ⟨y1, b0, a2, n2, y2, y3, y4, y5, y6, y7, y8⟩
        · rw [y1] at g2 ⊢
          exact ⟨r1.2.1, r1.1, 0, 0, 0, true, ⟨_, _, _, g1, g2, l06Var_bad u _ hul x1, l06Var_bad u _ hul x1⟩, rfl, by simp⟩
        have eb : b0 = a1 := by omega
        subst eb
        rw [y1] at g2 ⊢
        have x2 : oI r2.2.1 := ⟨by omega, by omega⟩
        simp only [Bool.not_true, cond_false, cond_true] at g2 ⊢
        rw [show ((1 : Int) == 0) = false from rfl, cond_false, show ((1 : Int) == 1) = true from rfl, cond_true, show ad 1 1 = 2 from ad1 (i := 1) (by omega)]
        simp only
        obtain ⟨r3, p3, q3, k1⟩ := ReadVar_eq u r2.2.1 (by omega) x2
        have g3 := l06Var_good u r2.2.1 hul p3
        rw [loopO_eq, hB]
        unfold i_ReadPage_b1
        rw [decide_eq_true (by omega : (2 : Int) < 4), cond_true, q3, Option.bind_some]
        rcases k1 with ⟨k1, _, _⟩ | ⟨k1, c0, a3, n3, k2, k3, k4, k5, k6, k7, k8⟩
        · rw [k1] at g3 ⊢
          exact ⟨r2.2.1, r1.1, r2.1, 0, 0, true, ⟨_, _, _, g1, g2, g3, l06Var_bad u _ hul x2⟩, rfl, by simp⟩
        have ec : c0 = a2 := by omega
        subst ec
        rw [k1] at g3 ⊢
        have x3 : oI r3.2.1 := ⟨by omega, by omega⟩
        simp only [Bool.not_true, cond_false, cond_true] at g3 ⊢
        rw [show ((2 : Int) == 0) = false from rfl, cond_false, show ((2 : Int) == 1) = false from rfl, cond_false, show ((2 : Int) == 2) = true from rfl, cond_true, show ad 2 1 = 3 from ad1 (i := 2) (by omega)]
        simp only
        obtain ⟨r4, p4, q4, l1⟩ := ReadVar_eq u r3.2.1 (by omega) x3
        have g4 := l06Var_good u r3.2.1 hul p4
        rw [loopO_eq, hB]
        unfold i_ReadPage_b1
        rw [decide_eq_true (by omega : (3 : Int) < 4), cond_true, q4, Option.bind_some]
        rcases l1 with ⟨l1, _, _⟩ | ⟨l1, d0, a4, n4, l2, l3, l4, l5, l6, l7, l8⟩
        · rw [l1] at g4 ⊢
          exact ⟨r3.2.1, r1.1, r2.1, r3.1, 0, true, ⟨_, _, _, g1, g2, g3, g4⟩, rfl, by simp⟩
        have ed : d0 = a3 := by omega
        subst ed
        rw [l1] at g4 ⊢
        simp only [Bool.not_true, cond_false, cond_true] at g4 ⊢
        rw [show ((3 : Int) == 0) = false from rfl, cond_false, show ((3 : Int) == 1) = false from rfl, cond_false, show ((3 : Int) == 2) = false from rfl, cond_false, show ((3 : Int) == 3) = true from rfl, cond_true, show ad 3 1 = 4 from ad1 (i := 3) (by omega)]
        simp only
        rw [loopO_eq, hB]
        unfold i_ReadPage_b1
        rw [decide_eq_false (by omega : ¬(4 : Int) < 4), cond_false]
        exact ⟨r4.2.1, r1.1, r2.1, r3.1, r4.1, false, ⟨_, _, _, g1, g2, g3, g4⟩, rfl, fun _ => ⟨b0, c0, d0, a4, n1, n2, n3, n4, z2, y4, k4, l4, l3, z3, y5, k5, l5, l6, z5, y7, k7, l7, z6, y8, k8, l8⟩⟩
      obtain ⟨a, m1, m2, m3, m4, bad, ⟨c1, c2, c3, f1, f2, f3, f4⟩, f5, f6⟩ := four_ (fun s : Int × Int × Int × Int × Int × Int => i_ReadPage_b1 (u, true) s.1 s.2.1 s.2.2.1 s.2.2.2.1 s.2.2.2.2.1 s.2.2.2.2.2) (fun _ _ _ _ _ _ => rfl)
      rw [f5]
      simp only [f1, f2, f3, f4, Option.bind_some]
      cases bad with
      | true => exact ⟨page0, false, rfl, rfl, fun _ => rfl, by simp⟩
      | false =>
        obtain ⟨a1, a2, a3, a4, n1, n2, n3, n4, rfl, rfl, rfl, rfl, rfl, i1, i2, i3, i4, i5, j1, j2, j3, j4, s1, s2, s3, s4⟩ := f6 rfl
        simp only [cond_false, Option.bind_some, Sum.elim_inl]
        have hx0 : sx u 0 = some (((L u)[0]'(by omega)).toNat : Int) := sx_nat u (i := 0) (by omega)
        have hsub : sub u (a4 : Int) (sln u) = some (u.extract a4 (L u).length) := by rw [sln_eq]; exact sub_nat u (by omega) (by omega)
        rw [hx0, hsub]
        simp only [Option.bind_some]
        have hk := u8_lt ((L u)[0]'(by omega))
        have hw : IntKind.i64.wrap (((L u)[0]'(by omega)).toNat : Int) = ((L u)[0]'(by omega)).toNat := wr64 (by omega) (by omega)
        rw [hw]
        obtain ⟨po, po1, po2, _⟩ := PageOk_eq (Page.mk (((L u)[0]'(by omega)).toNat : Int) n1 n2 n3 n4 (u.extract a4 (L u).length))
        rw [po2]
        simp only [Option.bind_some]
        cases po with
        | false =>
          have : s_PageText (Page.mk (((L u)[0]'(by omega)).toNat : Int) n1 n2 n3 n4 (u.extract a4 (L u).length)) = some (bs [], false) := by
            unfold s_PageText
            rw [po1]
            rfl
          rw [this]
          exact ⟨page0, false, rfl, rfl, fun _ => rfl, by simp⟩
        | true =>
          have hT : L (u.extract a4 (L u).length) = (L u).drop a4 := by
            rw [L_ext]
            exact List.take_of_length_le (by simp)
          have hsplit : L u = [(L u)[0]'(by omega)] ++ encV n1 ++ encV n2 ++ encV n3 ++ encV n4 ++ L (u.extract a4 (L u).length) := by
            rw [hT, s1, s2, s3, s4]
            have h0 : L u = [(L u)[0]'(by omega)] ++ (L u).drop 1 := by
              have := List.drop_eq_getElem_cons (l := L u) (i := 0) (by omega)
              simpa using this
            have d1 := drop_split (L u) (a := 1) (b := a1) (by omega)
            have d2 := drop_split (L u) (a := a1) (b := a2) (by omega)
            have d3 := drop_split (L u) (a := a2) (b := a3) (by omega)
            have d4 := drop_split (L u) (a := a3) (b := a4) (by omega)
            simp only [List.append_assoc]
            rw [← d4, ← d3, ← d2, ← d1]
            exact h0
          rw [PageText_eq _ u ((L u)[0]'(by omega)) n1 n2 n3 n4 po1 rfl rfl rfl rfl rfl j1 j2 j3 j4 hul hsplit]
          obtain ⟨v', hv', hs'⟩ := (Sealed_ex u).2 hul
          rw [hv] at hv'
          injection hv' with hv'
          subst hv'
          rw [hs', Option.bind_some]
          have : seq (u ++ four v) t = true := by rw [seq_eq, decide_eq_true_eq]; exact htu.symm
          simp only [Bool.not_true, cond_false, Option.bind_some, this]
          exact ⟨_, true, rfl, rfl, by simp, fun _ => po1⟩
end Go.TI


namespace Go.TI
open Go
set_option linter.unusedSimpArgs false
set_option linter.unusedVariables false

def zLeaf (x : Leaf) : Nat := x.Text.size
def zBlock (x : Block) : Nat := zl zLeaf x.Leaves
def zFlash (x : Flash) : Nat := zl zBlock x.Blocks
theorem szLeaf_eq (x : Leaf) (h : oLeaf x) : Weighs zLeaf w_szLeaf x := by
  intro left h0 h1
  have hx : x.Text.size ≤ 9223372036854775807 := h.2
  have e : sln x.Text = (x.Text.size : Int) := rfl
  unfold w_szLeaf
  rw [sb_eq (by rw [e]; omega) (by rw [e]; omega), e]
  unfold zLeaf
  by_cases hc : (x.Text.size : Int) ≤ left
  · rw [decide_eq_false (by omega), cond_false]
    exact ⟨_, rfl, by rw [if_pos hc]⟩
  · rw [decide_eq_true (by omega), cond_true]
    exact ⟨_, rfl, by rw [if_neg hc]; omega⟩
theorem szLeafS_eq (l : List Leaf) (h : ol oLeaf l) : Weighs (zl zLeaf) w_szLeafS l :=
  Weighs.list (sz_listF zLeaf w_szLeaf l h.1 (fun x hx => szLeaf_eq x (h.2 x hx)) (fun _ _ => rfl) (fun _ => rfl))
/-- A struct that weighs as its list does. -/
theorem Weighs.wrap {α β : Type} {z : β → Nat} {g : β → Int → Option Int} {f : α → Int → Option Int} {x : α} {y : β} {z' : α → Nat} (h : Weighs z g y) (hz : z' x = z y) (hf : ∀ left, f x left = (g y left).bind fun v => bif decide (v < 0) then some (-1) else some v) : Weighs z' f x := by
  intro left h0 h1
  rw [hz]
  obtain ⟨v, h2, h3⟩ := h left h0 h1
  rw [hf, h2, Option.bind_some]
  split at h3
  · rename_i hc
    rw [decide_eq_false (by omega), cond_false]
    exact ⟨_, rfl, by rw [if_pos hc]; exact h3⟩
  · rename_i hc
    rw [decide_eq_true h3, cond_true]
    exact ⟨_, rfl, by rw [if_neg hc]; omega⟩
theorem szBlock_eq (x : Block) (h : oBlock x) : Weighs zBlock w_szBlock x := Weighs.wrap (szLeafS_eq x.Leaves h.2.2) rfl (fun _ => rfl)
theorem szBlockS_eq (l : List Block) (h : ol oBlock l) : Weighs (zl zBlock) w_szBlockS l :=
  Weighs.list (sz_listF zBlock w_szBlock l h.1 (fun x hx => szBlock_eq x (h.2 x hx)) (fun _ _ => rfl) (fun _ => rfl))
theorem szFlash_eq (x : Flash) (h : oFlash x) : Weighs zFlash w_szFlash x := Weighs.wrap (szBlockS_eq x.Blocks h) rfl (fun _ => rfl)
theorem toLeafS_eq (l : List Leaf) (h : zl zLeaf l ≤ 1048576) : w_toLeafS l = some l := by
  have := zl_len (z := zLeaf) (l := l)
  exact to_listF w_toLeaf l (by omega) (by omega) (fun _ _ => rfl) (fun _ _ => rfl) rfl
theorem toBlock_eq (x : Block) (h : zBlock x ≤ 1048576) : w_toBlock x = some x := by
  unfold w_toBlock
  rw [toLeafS_eq _ h]
  rfl
theorem toBlockS_eq (l : List Block) (h : zl zBlock l ≤ 1048576) : w_toBlockS l = some l := by
  have := zl_len (z := zBlock) (l := l)
  exact to_listF w_toBlock l (by omega) (by omega) (fun x hx => toBlock_eq x (by have := zl_mem (z := zBlock) hx; omega)) (fun _ _ => rfl) rfl
theorem toFlash_eq (x : Flash) (h : zFlash x ≤ 1048576) : w_toFlash x = some x := by
  unfold w_toFlash
  rw [toBlockS_eq _ h]
  rfl
theorem eqLeaf_eq (a b : Leaf) : Tells (w_eqLeaf a b) a b := by
  cases a with
  | mk a1 a2 =>
  cases b with
  | mk b1 b2 =>
  have : Says (w_eqLeaf (Leaf.mk a1 a2) (Leaf.mk b1 b2)) (a1 = b1 ∧ a2 = b2 ∧ True) := says_and (by simp) (says_and seq_ne says_true)
  simpa only [Tells, Says, Leaf.mk.injEq, and_true] using this
theorem eqLeafS_eq (a b : List Leaf) (h : a.length ≤ 1048576) : Tells (w_eqLeafS a b) a b :=
  eq_listF w_eqLeaf a b (by omega) (fun x _ y _ => eqLeaf_eq x y) (fun _ => rfl) rfl
theorem eqBlock_eq (a b : Block) (h : zBlock a ≤ 1048576) : Tells (w_eqBlock a b) a b := by
  cases a with
  | mk a1 a2 a3 =>
  cases b with
  | mk b1 b2 b3 =>
  have hl := zl_len (z := zLeaf) (l := a3)
  have : Says (w_eqBlock (Block.mk a1 a2 a3) (Block.mk b1 b2 b3)) (a1 = b1 ∧ a2 = b2 ∧ a3 = b3 ∧ True) := says_and (by cases a1 <;> cases b1 <;> simp) (says_and (by simp) (says_bind (eqLeafS_eq a3 b3 (by unfold zBlock at h; simp only at h; omega)) says_true))
  simpa only [Tells, Says, Block.mk.injEq, and_true] using this
theorem eqBlockS_eq (a b : List Block) (h : zl zBlock a ≤ 1048576) : Tells (w_eqBlockS a b) a b := by
  have := zl_len (z := zBlock) (l := a)
  exact eq_listF w_eqBlock a b (by omega) (fun x hx y _ => eqBlock_eq x y (by have := zl_mem (z := zBlock) hx; omega)) (fun _ => rfl) rfl
theorem eqFlash_eq (a b : Flash) (h : zFlash a ≤ 1048576) : Tells (w_eqFlash a b) a b := by
  cases a with
  | mk a1 =>
  cases b with
  | mk b1 =>
  have : Says (w_eqFlash (Flash.mk a1) (Flash.mk b1)) (a1 = b1 ∧ True) := says_bind (eqBlockS_eq a1 b1 h) says_true
  simpa only [Tells, Says, Flash.mk.injEq, and_true] using this

theorem capF_of (f : Flash) (h : zFlash f ≤ 1048576) : capF f ∧ ∀ b ∈ f.Blocks, ∀ x ∈ b.Leaves, (L x.Text).length ≤ 1048576 := by
  have h1 := zl_len (z := zBlock) (l := f.Blocks)
  unfold zFlash at h
  refine ⟨⟨by omega, fun b hb => ?_⟩, fun b hb x hx => ?_⟩
  · have h2 := zl_mem (z := zBlock) hb
    have h3 := zl_len (z := zLeaf) (l := b.Leaves)
    have e : zBlock b = zl zLeaf b.Leaves := rfl
    omega
  · have h2 := zl_mem (z := zBlock) hb
    have h3 := zl_mem (z := zLeaf) hx
    have e : zBlock b = zl zLeaf b.Leaves := rfl
    have e2 : zLeaf x = x.Text.size := rfl
    rw [L_size]
    omega
end Go.TI


namespace Go.TI
open Go
set_option linter.unusedSimpArgs false
set_option linter.unusedVariables false

def nl (l : List Block) : Nat := (l.map fun b => b.Leaves.length).sum
theorem nl_le (f : Flash) : nl f.Blocks ≤ zFlash f := by
  unfold nl zFlash zl
  have : ∀ l : List Block, (l.map fun b => b.Leaves.length).sum ≤ (l.map zBlock).sum := by
    intro l
    induction l with
    | nil => simp
    | cons b l ih =>
      have := zl_len (z := zLeaf) (l := b.Leaves)
      have e : zBlock b = zl zLeaf b.Leaves := rfl
      simp only [List.map_cons, List.sum_cons]
      omega
  have := this f.Blocks
  omega
/-- There is a right page at that place. -/
def isPage (f : Flash) (y : Found) : Prop := ∃ b x, gi f.Blocks y.Block = some b ∧ gi b.Leaves y.Leaf = some x ∧ (x.Is == 1) = true ∧ s_ReadPage x.Text = some (y.Page, true)
theorem ReadLeaf_at (f : Flash) (hf : capF f) {i k : Nat} {b : Block} {x : Leaf} (hb : f.Blocks[i]? = some b) (hx : b.Leaves[k]? = some x) : s_ReadLeaf f i k = some (bif x.Is == 1 then (x.Text, true) else (bs [], false)) := by
  have h1 := (List.getElem?_eq_some_iff.1 hb).1
  have h2 := (List.getElem?_eq_some_iff.1 hx).1
  have h3 := hf.1
  have h4 := hf.2 b (List.mem_of_getElem? hb)
  unfold s_ReadLeaf
  rw [sb_eq (by rw [ln_eq]; omega) (by rw [ln_eq]; omega), in_eq, ln_eq, decide_eq_true (by omega : (0 : Int) ≤ (i : Int)), decide_eq_true (by omega : (i : Int) ≤ (f.Blocks.length : Int) - 1)]
  simp only [Option.bind_some, Bool.and_self, Bool.not_true, cond_false, gi_nat, hb]
  rw [sb_eq (by rw [ln_eq]; omega) (by rw [ln_eq]; omega), in_eq, ln_eq, decide_eq_true (by omega : (0 : Int) ≤ (k : Int)), decide_eq_true (by omega : (k : Int) ≤ (b.Leaves.length : Int) - 1)]
  simp only [Option.bind_some, Bool.and_self, Bool.not_true, cond_false, hx]
  cases h : x.Is == 1 with
  | true =>
    have : (x.Is != 1) = false := by simp [bne, h]
    simp [this]
  | false =>
    have : (x.Is != 1) = true := by simp [bne, h]
    simp [this]
theorem collect_eq (f : Flash) (hf : capF f) (hT : ∀ b ∈ f.Blocks, ∀ x ∈ b.Leaves, (L x.Text).length ≤ 1048576) (hn : nl f.Blocks ≤ 1048576) :
    ∃ X, loopO (fun s : List Found × Int => s_ScanAll_b1 f s.1 s.2) ([], 0) = some X ∧ loopO (fun s : Int × List Found => i_ScanAll_b1 f s.1 s.2) (0, []) = some X ∧ X.length ≤ nl f.Blocks ∧ ∀ y ∈ X, isPage f y := by
  refine loop_two (body := fun s : List Found × Int => s_ScanAll_b1 f s.1 s.2) (body' := fun s : Int × List Found => i_ScanAll_b1 f s.1 s.2) (fun s i => (s, i)) (fun s i => (i, s)) f.Blocks.length (fun i out => out.length ≤ ((f.Blocks.take i).map fun b => b.Leaves.length).sum ∧ ∀ y ∈ out, isPage f y) (fun X => X.length ≤ nl f.Blocks ∧ ∀ y ∈ X, isPage f y) ?_ ?_ (s := []) ⟨by simp, by simp⟩
  · intro out i hi ⟨ho1, ho2⟩
    have hb : f.Blocks[i]? = some f.Blocks[i] := List.getElem?_eq_getElem hi
    have hm : f.Blocks[i] ∈ f.Blocks := List.getElem_mem _
    have hsum := sum_take (fun b : Block => b.Leaves.length) f.Blocks i hi
    have hle := sum_take_le (fun b : Block => b.Leaves.length) f.Blocks (i + 1)
    unfold nl at hn
    have hf1 := hf.1
    refine .inl ?_
    simp only [s_ScanAll_b1, i_ScanAll_b1, lt_ln, decide_eq_true hi, cond_true, gi_nat, hb, Option.bind_some]
    obtain ⟨u, q1, q2, q3⟩ := loop_two (body := fun s : List Found × Int => s_ScanAll_b2 f (i : Int) s.1 s.2) (body' := fun s : Int × List Found => i_ScanAll_b2 (i : Int) f.Blocks[i] s.1 s.2) (fun s i => (s, i)) (fun s i => (i, s)) f.Blocks[i].Leaves.length (fun k u => u.length ≤ out.length + k ∧ ∀ y ∈ u, isPage f y) (fun u => u.length ≤ out.length + f.Blocks[i].Leaves.length ∧ ∀ y ∈ u, isPage f y)
      (fun u k hk hu => by
        have hx : f.Blocks[i].Leaves[k]? = some f.Blocks[i].Leaves[k] := List.getElem?_eq_getElem hk
        have hxm : f.Blocks[i].Leaves[k] ∈ f.Blocks[i].Leaves := List.getElem_mem _
        have hk2 := hf.2 _ hm
        have hap : ∀ y : Found, ap 72 u [y] = some (u ++ [y]) := fun y => ap_eq (by simp only [List.length_singleton]; omega)
        refine .inl ?_
        obtain ⟨p, ok, r1, r2, r3, r4⟩ := ReadPage_eq f.Blocks[i].Leaves[k].Text (by have := hT _ hm _ hxm; omega)
        simp only [s_ScanAll_b2, i_ScanAll_b2, lt_ln, decide_eq_true hk, cond_true, gi_nat, hb, hx, Option.bind_some, ReadLeaf_at f hf hb hx, r2, hap]
        have hu2 := hu.1
        cases hfull : f.Blocks[i].Leaves[k].Is == 1 with
        | false =>
          obtain ⟨p', ok', t1, _⟩ := ReadPage_eq (bs []) (by rw [L_bs]; simp)
          simp only [cond_false, Option.bind_some, t1]
          refine ⟨u, by rw [ad1 (by omega)], by cases ok <;> (simp only [cond_true, cond_false, Option.bind_some]; rw [ad1 (by omega)]), by omega, hu.2⟩
        | true =>
          simp only [cond_true, Option.bind_some, r1]
          cases ok with
          | false => exact ⟨u, by simp only [cond_false]; rw [ad1 (by omega)], by simp only [cond_false, Option.bind_some]; rw [ad1 (by omega)], by omega, hu.2⟩
          | true =>
            refine ⟨u ++ [Found.mk i k p], by simp only [cond_true]; rw [ad1 (by omega)], by simp only [cond_true, Option.bind_some]; rw [ad1 (by omega)], by simp only [List.length_append, List.length_singleton]; omega, fun y hy => ?_⟩
            rcases List.mem_append.1 hy with hy | hy
            · exact hu.2 y hy
            · rw [List.mem_singleton] at hy
              subst hy
              exact ⟨_, _, by simp only [gi_nat]; exact hb, by simp only [gi_nat]; exact hx, hfull, r1⟩)
      (fun u hu => ⟨u, by simp only [s_ScanAll_b2, gi_nat, hb, Option.bind_some, lt_ln, Nat.lt_irrefl, decide_false, cond_false], by simp only [i_ScanAll_b2, lt_ln, Nat.lt_irrefl, decide_false, cond_false], hu⟩) (s := out) ⟨by omega, ho2⟩
    rw [q1, q2]
    simp only [Option.bind_some]
    rw [ad1 (by omega)]
    exact ⟨u, rfl, rfl, by omega, q3.2⟩
  · intro out ⟨ho1, ho2⟩
    refine ⟨out, by simp only [s_ScanAll_b1, lt_ln, Nat.lt_irrefl, decide_false, cond_false], by simp only [i_ScanAll_b1, lt_ln, Nat.lt_irrefl, decide_false, cond_false], ?_, ho2⟩
    rw [List.take_length] at ho1
    exact ho1
theorem gi_si_isSome {γ : Type} {l : List γ} {i j : Int} {x y : γ} (h : gi l j = some y) : ∃ z, gi (si l i x) j = some z := by
  obtain ⟨h1, h2⟩ := gi_eq_some h
  have := (List.getElem?_eq_some_iff.1 h2).1
  unfold gi
  rw [if_pos h1]
  exact ⟨_, List.getElem?_eq_getElem (by simp only [si, List.length_set]; exact this)⟩
theorem swap_round (l : List Found) (k : Int) : s_ScanAll_b4 l k = (sort_insertionSort_func_b2 (ltk i_ScanAll_1) 0 k l).map (Sum.map (fun s => (s.2, s.1)) id) := by
  unfold s_ScanAll_b4 sort_insertionSort_func_b2 gi2 swp
  cases hk : decide (k > 0) with
  | false => rfl
  | true =>
    simp only [cond_true]
    cases h1 : gi l (sb k 1) with
    | none => cases h2 : gi l k <;> simp
    | some x =>
      cases h2 : gi l k with
      | none => simp
      | some y =>
        simp only [Option.bind_some]
        have e : (decide (x.Page.Seq > y.Page.Seq)) = ltk i_ScanAll_1 y x := rfl
        rw [e]
        cases ltk i_ScanAll_1 y x with
        | false => rfl
        | true =>
          simp only [cond_true, h1, h2, Option.bind_some]
          obtain ⟨z, hz⟩ := gi_si_isSome (i := k) (x := x) h1
          rw [hz]
          rfl
theorem swp_len {γ : Type} {l l' : List γ} {i j : Int} (h : swp l i j = some l') : l'.length = l.length := by
  unfold swp at h
  obtain ⟨x, _, h⟩ := Option.bind_eq_some_iff.1 h
  obtain ⟨y, _, h⟩ := Option.bind_eq_some_iff.1 h
  injection h with h
  subst h
  simp [si]
theorem ins_len {a : Int} {j : Int} {l r : List Found} (h : loopO (fun s : Int × List Found => sort_insertionSort_func_b2 (ltk i_ScanAll_1) a s.1 s.2) (j, l) = some r) : r.length = l.length := by
  refine loopO_inv (fun s : Int × List Found => s.2.length = l.length) (fun r => r.length = l.length) ?_ ?_ (s := (j, l)) rfl h
  · rintro ⟨j, m⟩ s' hm hb
    simp only [sort_insertionSort_func_b2] at hb
    obtain ⟨c, _, hb⟩ := Option.bind_eq_some_iff.1 hb
    cases c with
    | false => cases hb
    | true =>
      simp only [cond_true] at hb
      obtain ⟨m', h1, hb⟩ := Option.bind_eq_some_iff.1 hb
      injection hb with hb
      injection hb with hb
      subst hb
      exact (swp_len h1).trans hm
  · rintro ⟨j, m⟩ b hm hb
    simp only [sort_insertionSort_func_b2] at hb
    obtain ⟨c, _, hb⟩ := Option.bind_eq_some_iff.1 hb
    cases c with
    | false =>
      simp only [cond_false] at hb
      injection hb with hb
      injection hb with hb
      subst hb
      exact hm
    | true =>
      simp only [cond_true] at hb
      obtain ⟨m', h1, hb⟩ := Option.bind_eq_some_iff.1 hb
      cases hb
theorem ScanAll_eq (f : Flash) (hf : capF f) (hT : ∀ b ∈ f.Blocks, ∀ x ∈ b.Leaves, (L x.Text).length ≤ 1048576) (hn : nl f.Blocks ≤ 1048576) :
    ∃ r, s_ScanAll f = some r ∧ i_ScanAll f = some r ∧ r.length ≤ nl f.Blocks ∧ (∀ y ∈ r, isPage f y) ∧ srt i_ScanAll_1 r := by
  obtain ⟨X, h1, h2, h3, h4⟩ := collect_eq f hf hT hn
  obtain ⟨r, h5, h6, h7⟩ := stable_eq i_ScanAll_1 X (by omega)
  obtain ⟨r', h8, h9, h10⟩ := insertionSort_eq i_ScanAll_1 [] X [] (by simp only [List.length_nil]; omega)
  have hr : r' = r := srt_unique i_ScanAll_1 h9 h6 (fun k => by rw [h7 k, ← h10 k])
  subst hr
  refine ⟨r', ?_, ?_, ?_, ?_, h6⟩
  · unfold s_ScanAll
    rw [h1, Option.bind_some]
    simp only [List.nil_append, List.append_nil, List.length_nil, Nat.zero_add] at h8
    unfold sort_insertionSort_func at h8
    rw [show ad ((0 : Nat) : Int) 1 = 1 from rfl] at h8
    have hc : loopO (fun s : List Found × Int => s_ScanAll_b3 s.1 s.2) (X, 1) = loopO (fun s : Int × List Found => sort_insertionSort_func_b1 (ltk i_ScanAll_1) ((0 : Nat) : Int) (X.length : Int) s.1 s.2) (1, X) := by
      refine loopO_conjI (body := fun s : Int × List Found => sort_insertionSort_func_b1 (ltk i_ScanAll_1) ((0 : Nat) : Int) (X.length : Int) s.1 s.2) (body' := fun s : List Found × Int => s_ScanAll_b3 s.1 s.2) (fun s => (s.2, s.1)) (fun s => s.2.length = X.length) ?_ ?_ (1, X) rfl
      · rintro ⟨j, m⟩ hm
        simp only at hm
        simp only [s_ScanAll_b3, sort_insertionSort_func_b1, ln_eq, hm]
        cases decide (j < (X.length : Int)) with
        | false => rfl
        | true =>
          simp only [cond_true]
          rw [loopO_conj (body := fun s : Int × List Found => sort_insertionSort_func_b2 (ltk i_ScanAll_1) ((0 : Nat) : Int) s.1 s.2) (body' := fun s : List Found × Int => s_ScanAll_b4 s.1 s.2) (fun s => (s.2, s.1)) (fun s => swap_round s.2 s.1) (j, m)]
          cases loopO (fun s : Int × List Found => sort_insertionSort_func_b2 (ltk i_ScanAll_1) ((0 : Nat) : Int) s.1 s.2) (j, m) <;> rfl
      · rintro ⟨j, m⟩ s' hm hb
        simp only [sort_insertionSort_func_b1] at hb
        cases hc : decide (j < (X.length : Int)) with
        | false => rw [hc, cond_false] at hb; cases hb
        | true =>
          rw [hc, cond_true] at hb
          obtain ⟨m', h1, hb⟩ := Option.bind_eq_some_iff.1 hb
          injection hb with hb
          injection hb with hb
          subst hb
          exact (ins_len h1).trans hm
    rw [hc]
    exact h8
  · unfold i_ScanAll
    rw [h2, Option.bind_some, h5]
    rfl
  · rw [← h7.len]; exact h3
  · exact fun y hy => h4 y ((h7.mem).1 hy)
end Go.TI


namespace Go.TI
open Go
set_option linter.unusedSimpArgs false
set_option linter.unusedVariables false

/-- A struct that weighs as two of its parts do. -/
theorem Weighs.two {α β γ : Type} {z1 : β → Nat} {z2 : γ → Nat} {g1 : β → Int → Option Int} {g2 : γ → Int → Option Int} {f : α → Int → Option Int} {x : α} {y1 : β} {y2 : γ} {z : α → Nat} (h1 : Weighs z1 g1 y1) (h2 : Weighs z2 g2 y2) (hz : z x = z1 y1 + z2 y2)
    (hf : ∀ left, f x left = (g1 y1 left).bind fun v => bif decide (v < 0) then some (-1) else ((g2 y2 v).bind fun w => bif decide (w < 0) then some (-1) else some w)) : Weighs z f x := by
  intro left h0 hm
  obtain ⟨v, k1, k2⟩ := h1 left h0 hm
  rw [hf, k1, Option.bind_some, hz]
  split at k2
  · rename_i hc
    rw [decide_eq_false (by omega), cond_false]
    obtain ⟨w, k3, k4⟩ := h2 v (by omega) (by omega)
    rw [k3, Option.bind_some]
    split at k4
    · rename_i hd
      rw [decide_eq_false (by omega), cond_false]
      exact ⟨_, rfl, by rw [if_pos (by omega)]; omega⟩
    · rename_i hd
      rw [decide_eq_true k4, cond_true]
      exact ⟨_, rfl, by rw [if_neg (by omega)]; omega⟩
  · rename_i hc
    rw [decide_eq_true k2, cond_true]
    exact ⟨_, rfl, by rw [if_neg (by omega)]; omega⟩
theorem Weighs.flat {α : Type} {l : List α} {f : List α → Int → Option Int} (hl : l.length ≤ 9223372036854775807) (hf : ∀ left, f l left = bif decide (sb left (ln l) < 0) then some (-1) else some (sb left (ln l))) : Weighs List.length f l := by
  intro left h0 hm
  rw [hf, sb_eq (by rw [ln_eq]; omega) (by rw [ln_eq]; omega), ln_eq]
  by_cases hc : (l.length : Int) ≤ left
  · rw [decide_eq_false (by omega), cond_false]
    exact ⟨_, rfl, by rw [if_pos hc]⟩
  · rw [decide_eq_true (by omega), cond_true]
    exact ⟨_, rfl, by rw [if_neg hc]; omega⟩
def zKnot (x : Knot) : Nat := x.Kids.length
def zArena (x : Arena) : Nat := zl zKnot x.Knots
def zStore (x : Store) : Nat := x.Vols.length + zArena x.Arena
def zDevice (x : Device) : Nat := zFlash x.Flash + zStore x.Store
theorem szKnot_eq (x : Knot) (h : oKnot x) : Weighs zKnot w_szKnot x := Weighs.wrap (z := List.length) (g := w_szIntS) (Weighs.flat h.2.1 (fun _ => rfl)) rfl (fun _ => rfl)
theorem szKnotS_eq (l : List Knot) (h : ol oKnot l) : Weighs (zl zKnot) w_szKnotS l :=
  Weighs.list (sz_listF zKnot w_szKnot l h.1 (fun x hx => szKnot_eq x (h.2 x hx)) (fun _ _ => rfl) (fun _ => rfl))
theorem szArena_eq (x : Arena) (h : oArena x) : Weighs zArena w_szArena x := Weighs.wrap (szKnotS_eq x.Knots h) rfl (fun _ => rfl)
theorem szStore_eq (x : Store) (h : oStore x) : Weighs zStore w_szStore x := Weighs.two (z1 := List.length) (g1 := w_szVolS) (Weighs.flat h.1.1 (fun _ => rfl)) (szArena_eq x.Arena h.2.1) rfl (fun _ => rfl)
theorem szDevice_eq (x : Device) (h : oDevice x) : Weighs zDevice w_szDevice x := Weighs.two (szFlash_eq x.Flash h.1) (szStore_eq x.Store h.2.1) rfl (fun _ => rfl)
theorem toVolS_eq (l : List Vol) (h : l.length ≤ 1048576) : w_toVolS l = some l := to_listF w_toVol l (by omega) (by omega) (fun _ _ => rfl) (fun _ _ => rfl) rfl
theorem toIntS_eq (l : List Int) (h : l.length ≤ 1048576) : w_toIntS l = some l := to_listF (fun x => some x) l (by omega) (by omega) (fun _ _ => rfl) (fun _ _ => rfl) rfl
theorem toKnot_eq (x : Knot) (h : zKnot x ≤ 1048576) : w_toKnot x = some x := by
  unfold w_toKnot
  rw [toIntS_eq _ h]
  rfl
theorem toKnotS_eq (l : List Knot) (h : zl zKnot l ≤ 1048576) : w_toKnotS l = some l := by
  have := zl_len (z := zKnot) (l := l)
  exact to_listF w_toKnot l (by omega) (by omega) (fun x hx => toKnot_eq x (by have := zl_mem (z := zKnot) hx; omega)) (fun _ _ => rfl) rfl
theorem toArena_eq (x : Arena) (h : zArena x ≤ 1048576) : w_toArena x = some x := by
  unfold w_toArena
  rw [toKnotS_eq _ h]
  rfl
theorem toStore_eq (x : Store) (h : zStore x ≤ 1048576) : w_toStore x = some x := by
  unfold zStore at h
  unfold w_toStore
  rw [toVolS_eq _ (by omega), Option.bind_some, toArena_eq _ (by omega)]
  rfl
theorem toDevice_eq (x : Device) (h : zDevice x ≤ 1048576) : w_toDevice x = some x := by
  unfold zDevice at h
  unfold w_toDevice
  rw [toFlash_eq _ (by omega), Option.bind_some, toStore_eq _ (by omega)]
  rfl
theorem eqVol_eq (a b : Vol) : Tells (w_eqVol a b) a b := by
  cases a with
  | mk a1 a2 =>
  cases b with
  | mk b1 b2 =>
  have : Says (w_eqVol (Vol.mk a1 a2) (Vol.mk b1 b2)) (a1 = b1 ∧ a2 = b2 ∧ True) := says_and (by simp) (says_and (by simp) says_true)
  simpa only [Tells, Says, Vol.mk.injEq, and_true] using this
theorem eqVolS_eq (a b : List Vol) (h : a.length ≤ 1048576) : Tells (w_eqVolS a b) a b :=
  eq_listF w_eqVol a b (by omega) (fun x _ y _ => eqVol_eq x y) (fun _ => rfl) rfl
theorem eqIntS_eq (a b : List Int) (h : a.length ≤ 1048576) : Tells (w_eqIntS a b) a b :=
  eq_listF (fun x y => some (!(x != y))) a b (by omega) (fun x _ y _ => ⟨_, rfl, by simp⟩) (fun i => by
    unfold w_eqIntS_b1
    cases decide (i < ln a) with
    | false => rfl
    | true =>
      simp only [cond_true]
      cases gi a i with
      | none => rfl
      | some x =>
        cases gi b i with
        | none => rfl
        | some y => simp only [Option.bind_some, Bool.not_not]) rfl
theorem eqKnot_eq (a b : Knot) (h : zKnot a ≤ 1048576) : Tells (w_eqKnot a b) a b := by
  cases a with
  | mk a1 a2 =>
  cases b with
  | mk b1 b2 =>
  have : Says (w_eqKnot (Knot.mk a1 a2) (Knot.mk b1 b2)) (a1 = b1 ∧ a2 = b2 ∧ True) := says_and (by cases a1 <;> cases b1 <;> simp) (says_bind (eqIntS_eq a2 b2 h) says_true)
  simpa only [Tells, Says, Knot.mk.injEq, and_true] using this
theorem eqKnotS_eq (a b : List Knot) (h : zl zKnot a ≤ 1048576) : Tells (w_eqKnotS a b) a b := by
  have := zl_len (z := zKnot) (l := a)
  exact eq_listF w_eqKnot a b (by omega) (fun x hx y _ => eqKnot_eq x y (by have := zl_mem (z := zKnot) hx; omega)) (fun _ => rfl) rfl
theorem eqArena_eq (a b : Arena) (h : zArena a ≤ 1048576) : Tells (w_eqArena a b) a b := by
  cases a with
  | mk a1 =>
  cases b with
  | mk b1 =>
  have : Says (w_eqArena (Arena.mk a1) (Arena.mk b1)) (a1 = b1 ∧ True) := says_bind (eqKnotS_eq a1 b1 h) says_true
  simpa only [Tells, Says, Arena.mk.injEq, and_true] using this
theorem eqStore_eq (a b : Store) (h : zStore a ≤ 1048576) : Tells (w_eqStore a b) a b := by
  cases a with
  | mk a1 a2 a3 =>
  cases b with
  | mk b1 b2 b3 =>
  unfold zStore at h
  simp only at h
  have : Says (w_eqStore (Store.mk a1 a2 a3) (Store.mk b1 b2 b3)) (a1 = b1 ∧ a2 = b2 ∧ a3 = b3 ∧ True) := says_bind (eqVolS_eq a1 b1 (by omega)) (says_bind (eqArena_eq a2 b2 (by omega)) (says_and (by simp) says_true))
  simpa only [Tells, Says, Store.mk.injEq, and_true] using this
theorem eqDevice_eq (a b : Device) (h : zDevice a ≤ 1048576) : Tells (w_eqDevice a b) a b := by
  cases a with
  | mk a1 a2 a3 a4 a5 =>
  cases b with
  | mk b1 b2 b3 b4 b5 =>
  unfold zDevice at h
  simp only at h
  have : Says (w_eqDevice (Device.mk a1 a2 a3 a4 a5) (Device.mk b1 b2 b3 b4 b5)) (a1 = b1 ∧ a2 = b2 ∧ a3 = b3 ∧ a4 = b4 ∧ a5 = b5 ∧ True) := says_bind (eqFlash_eq a1 b1 (by omega)) (says_bind (eqStore_eq a2 b2 (by omega)) (says_and (by simp) (says_and (by simp) (says_and (by simp) says_true))))
  simpa only [Tells, Says, Device.mk.injEq, and_true] using this

def isBl (x : Leaf) : Nat := bif x.Is == 0 then 1 else 0
theorem bl_le (l : List Leaf) : (l.map isBl).sum ≤ l.length := by
  induction l with
  | nil => simp
  | cons x l ih =>
    have : isBl x ≤ 1 := by unfold isBl; cases x.Is == 0 <;> simp
    simp only [List.map_cons, List.sum_cons, List.length_cons]
    omega
theorem blanks_eq (b : Block) (h : b.Leaves.length ≤ 1048576) : i_blanks b = some ((b.Leaves.map isBl).sum : Int) := by
  unfold i_blanks
  obtain ⟨v, h1, rfl⟩ := loop_ex (body := fun s : Int × Int => i_blanks_b1 b s.1 s.2) (fun (s : Int) i => (s, i)) b.Leaves.length (fun k s => s = (((b.Leaves.take k).map isBl).sum : Nat)) (fun v => v = ((b.Leaves.map isBl).sum : Nat))
    (fun s k hk hs => by
      have hx : b.Leaves[k]? = some b.Leaves[k] := List.getElem?_eq_getElem hk
      have e := sum_take isBl b.Leaves k hk
      have e2 := sum_take_le isBl b.Leaves (k + 1)
      have e3 := bl_le b.Leaves
      refine .inl ?_
      simp only [i_blanks_b1, lt_ln, decide_eq_true hk, cond_true, gi_nat, hx, Option.bind_some]
      have e4 : isBl b.Leaves[k] = bif b.Leaves[k].Is == 0 then 1 else 0 := rfl
      cases hb : b.Leaves[k].Is == 0 with
      | true =>
        rw [hb] at e4
        simp only [cond_true] at e4 ⊢
        rw [ad1 (by omega), ad_eq (by omega) (by omega)]
        exact ⟨_, rfl, by omega⟩
      | false =>
        rw [hb] at e4
        simp only [cond_false] at e4 ⊢
        rw [ad1 (by omega)]
        exact ⟨_, rfl, by omega⟩)
    (fun s hs => ⟨s, by simp only [i_blanks_b1, lt_ln, Nat.lt_irrefl, decide_false, cond_false], by rw [List.take_length] at hs; exact hs⟩) (s := 0) (by simp)
  rw [h1]
  rfl
theorem RoomOf_eq (f : Flash) (hf : capF f) (hn : nl f.Blocks ≤ 1048576) : ∃ v : Int, s_RoomOf f = some v ∧ i_RoomOf f = some v ∧ 0 ≤ v ∧ v ≤ nl f.Blocks := by
  unfold s_RoomOf i_RoomOf
  obtain ⟨v, h1, h2, h3⟩ := loop_two (body := fun s : Int × Int => s_RoomOf_b1 f s.1 s.2) (body' := fun s : Int × Int => i_RoomOf_b1 f s.1 s.2) (fun (s : Int) i => (s, i)) (fun (s : Int) i => (s, i)) f.Blocks.length (fun i n => 0 ≤ n ∧ n ≤ (((f.Blocks.take i).map fun b => b.Leaves.length).sum : Nat)) (fun v => 0 ≤ v ∧ v ≤ nl f.Blocks)
    (fun n i hi hs => by
      have hb : f.Blocks[i]? = some f.Blocks[i] := List.getElem?_eq_getElem hi
      have hm : f.Blocks[i] ∈ f.Blocks := List.getElem_mem _
      have hsum := sum_take (fun b : Block => b.Leaves.length) f.Blocks i hi
      have hle := sum_take_le (fun b : Block => b.Leaves.length) f.Blocks (i + 1)
      unfold nl at hn
      have hf1 := hf.1
      have hf2 := hf.2 _ hm
      have hbl := bl_le f.Blocks[i].Leaves
      refine .inl ?_
      simp only [s_RoomOf_b1, i_RoomOf_b1, lt_ln, decide_eq_true hi, cond_true, gi_nat, hb, Option.bind_some, blanks_eq _ hf2]
      obtain ⟨u, q1, rfl⟩ := loop_ex (body := fun s : Int × Int => s_RoomOf_b2 f (i : Int) s.1 s.2) (fun (s : Int) i => (s, i)) f.Blocks[i].Leaves.length (fun k s => s = n + (bif f.Blocks[i].Bad then 0 else ((f.Blocks[i].Leaves.take k).map isBl).sum : Nat)) (fun v => v = n + (bif f.Blocks[i].Bad then 0 else (f.Blocks[i].Leaves.map isBl).sum : Nat))
        (fun s k hk hs => by
          have hx : f.Blocks[i].Leaves[k]? = some f.Blocks[i].Leaves[k] := List.getElem?_eq_getElem hk
          have e := sum_take isBl f.Blocks[i].Leaves k hk
          have e2 := sum_take_le isBl f.Blocks[i].Leaves (k + 1)
          refine .inl ?_
          simp only [s_RoomOf_b2, gi_nat, hb, Option.bind_some, lt_ln, decide_eq_true hk, cond_true, hx]
          cases hbad : f.Blocks[i].Bad with
          | true =>
            rw [hbad] at hs
            simp only [Bool.not_true, cond_false, cond_true] at hs ⊢
            rw [ad1 (by omega)]
            exact ⟨_, rfl, hs⟩
          | false =>
            rw [hbad] at hs
            simp only [Bool.not_false, cond_false, cond_true] at hs ⊢
            have e4 : isBl f.Blocks[i].Leaves[k] = bif f.Blocks[i].Leaves[k].Is == 0 then 1 else 0 := rfl
            cases hb : f.Blocks[i].Leaves[k].Is == 0 with
            | true =>
              rw [hb] at e4
              simp only [cond_true] at e4 ⊢
              rw [ad1 (by omega), ad_eq (by omega) (by omega)]
              exact ⟨_, rfl, by omega⟩
            | false =>
              rw [hb] at e4
              simp only [cond_false] at e4 ⊢
              rw [ad1 (by omega)]
              exact ⟨_, rfl, by omega⟩)
        (fun s hs => ⟨s, by simp only [s_RoomOf_b2, gi_nat, hb, Option.bind_some, lt_ln, Nat.lt_irrefl, decide_false, cond_false], by rw [List.take_length] at hs; exact hs⟩) (s := n) (by cases f.Blocks[i].Bad <;> simp)
      rw [q1]
      simp only [Option.bind_some]
      cases f.Blocks[i].Bad with
      | true =>
        simp only [cond_true, Bool.not_true, cond_false]
        rw [ad1 (by omega)]
        exact ⟨_, rfl, by simp, by omega, by omega⟩
      | false =>
        simp only [cond_true, Bool.not_false, cond_false]
        rw [ad1 (by omega), ad_eq (by omega) (by omega)]
        exact ⟨_, rfl, rfl, by omega, by omega⟩)
    (fun n hs => by
      rw [List.take_length] at hs
      exact ⟨n, by simp only [s_RoomOf_b1, lt_ln, Nat.lt_irrefl, decide_false, cond_false], by simp only [i_RoomOf_b1, lt_ln, Nat.lt_irrefl, decide_false, cond_false], hs⟩) (s := 0) (by simp)
  rw [h1, h2]
  exact ⟨v, rfl, rfl, h3⟩
theorem Bounds_eq (d : Device) (hz : zFlash d.Flash ≤ 1048576) : ∃ v, s_Bounds d = some v ∧ i_Bounds d = some v := by
  obtain ⟨hf, hT⟩ := capF_of d.Flash hz
  have hn : nl d.Flash.Blocks ≤ 1048576 := Nat.le_trans (nl_le d.Flash) hz
  obtain ⟨r, r1, r2, _, _⟩ := RoomOf_eq d.Flash hf hn
  obtain ⟨p, p1, p2, _⟩ := ScanAll_eq d.Flash hf hT hn
  unfold s_Bounds i_Bounds
  obtain ⟨v, h1, h2, _⟩ := loop_two (body := fun s : Int × Int => s_Bounds_b1 d s.1 s.2) (body' := fun s : Int × Int => i_Bounds_b1 d s.1 s.2) (fun (s : Int) i => (s, i)) (fun (s : Int) i => (s, i)) d.Flash.Blocks.length (fun i n => n = (((d.Flash.Blocks.take i).map fun b => b.Leaves.length).sum : Nat)) (fun _ => True)
    (fun n i hi hs => by
      have hb : d.Flash.Blocks[i]? = some d.Flash.Blocks[i] := List.getElem?_eq_getElem hi
      have hsum := sum_take (fun b : Block => b.Leaves.length) d.Flash.Blocks i hi
      have hle := sum_take_le (fun b : Block => b.Leaves.length) d.Flash.Blocks (i + 1)
      unfold nl at hn
      have hf1 := hf.1
      simp only [s_Bounds_b1, i_Bounds_b1, lt_ln, decide_eq_true hi, cond_true, gi_nat, hb, Option.bind_some, eq_in, in_eq]
      cases (decide (0 ≤ d.Flash.Blocks[i].Wear) && decide (d.Flash.Blocks[i].Wear ≤ 1000000000)) with
      | false => exact .inr ⟨_, rfl, rfl, trivial⟩
      | true =>
        simp only [Bool.not_true, cond_false]
        rw [ad1 (by omega), ad_eq (by rw [ln_eq]; omega) (by rw [ln_eq]; omega), ln_eq]
        exact .inl ⟨_, rfl, rfl, by omega⟩)
    (fun n hs => ⟨_, by simp only [s_Bounds_b1, lt_ln, Nat.lt_irrefl, decide_false, cond_false]; rfl, by simp only [i_Bounds_b1, lt_ln, Nat.lt_irrefl, decide_false, cond_false], trivial⟩) (s := 0) (by simp)
  rw [h1, h2, r1, r2, p1, p2]
  cases v with
  | inl v =>
    simp only [Option.bind_some, Sum.elim_inl]
    cases decide (r ≥ 0) <;> exact ⟨_, rfl, rfl⟩
  | inr v => exact ⟨_, rfl, rfl⟩
theorem bounds_true (d : Device) (hd : oDevice d) : w_FnExactBounds d = some true := by
  unfold w_FnExactBounds
  obtain ⟨v, h1, h2⟩ := szDevice_eq d hd 1048576 (by omega) (by omega)
  rw [h1, Option.bind_some]
  split at h2
  · rename_i hc
    rw [decide_eq_false (by omega), cond_false]
    have z : zDevice d ≤ 1048576 := by omega
    obtain ⟨u, h3, h4⟩ := Bounds_eq d (by unfold zDevice at z; omega)
    have hs : (u == u) = true := by simp
    simp only [toDevice_eq d z, Option.bind_some, h3, h4, hs, tells_self (eqDevice_eq d d z), Bool.not_true, cond_false]
  · rw [decide_eq_true h2, cond_true]
end Go.TI
