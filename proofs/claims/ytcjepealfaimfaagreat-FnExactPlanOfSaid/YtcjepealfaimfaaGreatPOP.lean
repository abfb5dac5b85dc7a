/- PlanOf: the law holds, for all arguments. No condition. -/
import Derived.Test.YtcjepealfaimfaaGreatPOD
import Derived.Test.YtcjepealfaimfaaGreatPOPL
import Derived.Test.YtcjepealfaimfaaGreatPOSOA
import Derived.Test.YtcjepealfaimfaaGreatPOTIG
namespace Go.TI
open Go
set_option linter.unusedSimpArgs false
set_option linter.unusedVariables false
theorem eq_in : i_in = s_l01In := rfl
theorem gi_eq_some {α : Type} {l : List α} {i : Int} {x : α} (h : gi l i = some x) : 0 ≤ i ∧ l[i.toNat]? = some x := by
  unfold gi at h
  split at h
  · exact ⟨by assumption, h⟩
  · cases h
def capF (f : Flash) : Prop := f.Blocks.length ≤ 1048576 ∧ ∀ b ∈ f.Blocks, b.Leaves.length ≤ 1048576
theorem in_eq (x a b : Int) : s_l01In x a b = some (decide (a ≤ x) && decide (x ≤ b)) := by
  unfold s_l01In
  by_cases h : x ≥ a
  · rw [decide_eq_true h, cond_true, Bool.true_and]
  · rw [decide_eq_false h, cond_false, Bool.false_and]
end Go.TI
namespace Go.TI
open Go
set_option linter.unusedSimpArgs false
set_option linter.unusedVariables false
def u32 (s : Int) : Prop := 0 ≤ s ∧ s < 4294967296
theorem SumBits_eq (s : Int) (hs : u32 s) : ∃ v, loopO (fun s : Int × Int => s_SumMore_b2 s.1 s.2) (s, 0) = some v ∧ loopO (fun s : Int × Int => i_SumMore_b2 s.1 s.2) (s, 0) = some v ∧ u32 v :=
  loop_ex2 (body := fun s : Int × Int => s_SumMore_b2 s.1 s.2) (body' := fun s : Int × Int => i_SumMore_b2 s.1 s.2) (fun (s : Int) i => (s, i)) 8 (fun _ s => u32 s) u32
    (fun s i hi hs => by
      simp only [s_SumMore_b2, i_SumMore_b2]
      rw [decide_eq_true (by omega : (i : Int) < 8), cond_true, cond_true, an1 hs.1 hs.2, ← tdiv2 hs.1 hs.2]
      refine ⟨rfl, .inl ?_⟩
      have hw : u32 (IntKind.u32.wrap (Int.tdiv s 2)) := by rw [IntKind.wrap_u32]; constructor <;> omega
      cases Int.tmod s 2 == 1
      · exact ⟨_, by rw [cond_false, ad1 (by omega)], hw⟩
      · exact ⟨_, by rw [cond_true, ad1 (by omega)], xr_in _ _⟩)
    (fun s hs => by
      simp only [s_SumMore_b2, i_SumMore_b2]
      exact ⟨rfl, s, rfl, hs⟩) (s := s) hs
theorem SumMore_eq (s : Int) (t : ByteArray) (hs : u32 s) (ht : (L t).length ≤ 9223372036854775806) : ∃ v, s_SumMore s t = some v ∧ i_SumMore s t = some v ∧ u32 v := by
  obtain ⟨v, h1, h2, h3⟩ := loop_ex2 (body := fun s : Int × Int => s_SumMore_b1 t s.1 s.2) (body' := fun s : Int × Int => i_SumMore_b1 t s.1 s.2) (fun (s : Int) i => (s, i)) (L t).length (fun _ s => u32 s) u32
    (fun s i hi hs => by
      obtain ⟨v, h1, h2, h3⟩ := SumBits_eq (xr s (IntKind.u32.wrap ((L t)[i]).toNat)) (xr_in _ _)
      simp only [s_SumMore_b1, i_SumMore_b1]
      rw [decide_eq_true (by rw [sln_eq]; omega : (i : Int) < sln t), cond_true, cond_true, sx_nat t hi, Option.bind_some, Option.bind_some, h1, h2]
      exact ⟨rfl, .inl ⟨v, by rw [Option.bind_some, ad1 (by omega)], h3⟩⟩)
    (fun s hs => by
      simp only [s_SumMore_b1, i_SumMore_b1]
      rw [decide_eq_false (by rw [sln_eq]; omega : ¬((L t).length : Int) < sln t), cond_false, cond_false]
      exact ⟨rfl, s, rfl, hs⟩) (s := s) hs
  unfold s_SumMore i_SumMore
  rw [h1, h2]
  exact ⟨v, rfl, rfl, h3⟩
theorem SumOf_eq (t : ByteArray) (ht : (L t).length ≤ 9223372036854775806) : ∃ v, s_SumOf t = some v ∧ i_SumOf t = some v ∧ u32 v := by
  obtain ⟨v, h1, h2, h3⟩ := SumMore_eq 4294967295 t ⟨by omega, by omega⟩ ht
  unfold s_SumOf i_SumOf
  rw [h1, h2]
  exact ⟨v, rfl, rfl, h3⟩
def four (v : Int) : ByteArray := strB [(IntKind.u8.wrap (Int.fdiv v (2 ^ (min (24 : Int).toNat IntKind.u32.bits)))), (IntKind.u8.wrap (Int.fdiv v (2 ^ (min (16 : Int).toNat IntKind.u32.bits)))), (IntKind.u8.wrap (Int.fdiv v (2 ^ (min (8 : Int).toNat IntKind.u32.bits)))), (IntKind.u8.wrap v)]
theorem four_len (v : Int) : (L (four v)).length = 4 := by rw [four, L_strB]; rfl
theorem Sealed_eq (t : ByteArray) : i_Sealed t = s_Sealed t := by
  unfold i_Sealed s_Sealed
  by_cases h : (sln t) > 20000
  · rw [decide_eq_true h]; rfl
  · rw [decide_eq_false h, cond_false, cond_false]
    rw [sln_eq] at h
    obtain ⟨v, h1, h2, _⟩ := SumOf_eq t (by omega)
    rw [h1, h2]
    rfl
theorem Sealed_ex (t : ByteArray) : (20000 < (L t).length → s_Sealed t = some (bs [], false)) ∧ ((L t).length ≤ 20000 → ∃ v, s_SumOf t = some v ∧ s_Sealed t = some (t ++ four v, true)) := by
  unfold s_Sealed
  rw [sln_eq]
  refine ⟨fun h => by rw [decide_eq_true (by omega), cond_true], fun h => ?_⟩
  obtain ⟨v, h1, h2, _⟩ := SumOf_eq t (by omega)
  rw [decide_eq_false (by omega), cond_false, h1]
  refine ⟨v, rfl, ?_⟩
  have : s_l02Four v = some (four v) := rfl
  rw [Option.bind_some, this, Option.bind_some, cat_eq _ _ (by rw [four_len]; omega), Option.bind_some]
theorem Unsealed_eq (t : ByteArray) (ht : (L t).length ≤ 9223372036854775806) : ∃ u ok, s_Unsealed t = some (u, ok) ∧ i_Unsealed t = some (u, ok) ∧ (ok = true → (L u).length ≤ 20000 ∧ ∃ v, s_SumOf u = some v ∧ t = u ++ four v) ∧ (ok = false → u = bs []) := by
  unfold s_Unsealed i_Unsealed
  have e4 : sb (sln t) 4 = ((L t).length : Int) - 4 := by rw [sln_eq, sb_eq (by omega) (by omega)]
  rw [e4]
  by_cases h4 : (L t).length < 4
  · rw [decide_eq_true (by omega : ((L t).length : Int) - 4 < 0), decide_eq_true (by rw [sln_eq]; omega : sln t < 4)]
    exact ⟨bs [], false, rfl, rfl, by simp, fun _ => rfl⟩
  · rw [decide_eq_false (by omega : ¬((L t).length : Int) - 4 < 0), decide_eq_false (by rw [sln_eq]; omega : ¬sln t < 4)]
    simp only [cond_false]
    have en : ((L t).length : Int) - 4 = (((L t).length - 4 : Nat) : Int) := by omega
    rw [en, sln_eq]
    have hsub : sub t 0 (((L t).length - 4 : Nat) : Int) = some (t.extract 0 ((L t).length - 4)) := sub_nat t (i := 0) (by omega) (by omega)
    have hsub2 : sub t (((L t).length - 4 : Nat) : Int) ((L t).length : Int) = some (t.extract ((L t).length - 4) (L t).length) := sub_nat t (by omega) (by omega)
    rw [hsub, hsub2]
    simp only [Option.bind_some]
    have hu : (L (t.extract 0 ((L t).length - 4))).length = (L t).length - 4 := by rw [L_ext]; simp
    obtain ⟨k1, k2⟩ := Sealed_ex (t.extract 0 ((L t).length - 4))
    rw [Sealed_eq]
    by_cases hb : 20000 < (L t).length - 4
    · rw [decide_eq_true (by omega : (((L t).length - 4 : Nat) : Int) > 20000), k1 (by omega)]
      exact ⟨bs [], false, rfl, rfl, by simp, fun _ => rfl⟩
    · obtain ⟨v, h1, h2⟩ := k2 (by omega)
      rw [decide_eq_false (by omega : ¬(((L t).length - 4 : Nat) : Int) > 20000), h1, h2]
      have h3 : s_l02Four v = some (four v) := rfl
      simp only [cond_false, Option.bind_some, h3, Bool.not_true]
      have hiff : seq (t.extract ((L t).length - 4) (L t).length) (four v) = seq (t.extract 0 ((L t).length - 4) ++ four v) t := by
        rw [seq_L, seq_L, L_cat, L_ext, L_ext, Bool.eq_iff_iff, decide_eq_true_eq, decide_eq_true_eq]
        have e1 : List.take ((L t).length - ((L t).length - 4)) (List.drop ((L t).length - 4) (L t)) = (L t).drop ((L t).length - 4) := List.take_of_length_le (by simp)
        have e2 : List.take ((L t).length - 4 - 0) (List.drop 0 (L t)) = (L t).take ((L t).length - 4) := by simp
        rw [e1, e2]
        constructor
        · intro h; rw [← h, List.take_append_drop]
        · intro h
          have h' : (L t).take ((L t).length - 4) ++ L (four v) = (L t).take ((L t).length - 4) ++ (L t).drop ((L t).length - 4) := by rw [List.take_append_drop]; exact h
          exact (List.append_cancel_left h').symm
      rw [hiff]
      cases hs : seq (t.extract 0 ((L t).length - 4) ++ four v) t with
      | false => exact ⟨bs [], false, rfl, rfl, by simp, fun _ => rfl⟩
      | true =>
        rw [seq_eq, decide_eq_true_eq] at hs
        exact ⟨_, true, rfl, rfl, fun _ => ⟨by omega, v, h1, hs.symm⟩, by simp⟩
theorem l01Var_eq (n : Nat) (h : n ≤ 1099511627776) : ∃ s, s_l01Var (n : Int) = some s ∧ L s = encV n := by
  unfold s_l01Var
  obtain ⟨m, o, h1, h2, h3, h4⟩ := encV_loop (body := fun s : Int × List Int => s_l01Var_b1 s.1 s.2) (fun _ _ => rfl) n [] (by simpa using h)
  rw [h1, Option.bind_some]
  have : IntKind.u8.wrap (m : Int) = m := by rw [IntKind.wrap_u8]; omega
  rw [this, ap_eq (by simp only [List.length_singleton, List.length_nil] at h3 ⊢; omega), Option.bind_some]
  refine ⟨_, rfl, ?_⟩
  rw [L_strB, h4]
  simp
def readV (t : ByteArray) (at_ : Int) (r : Int × Int × Bool) : Prop :=
  (r.2.2 = false ∧ r.1 = 0 ∧ r.2.1 = 0) ∨ (r.2.2 = true ∧ ∃ (a b n : Nat), at_ = a ∧ r.2.1 = b ∧ r.1 = n ∧ a < b ∧ b ≤ (L t).length ∧ n ≤ 1000000000 ∧ encV n = ((L t).drop a).take (b - a))
theorem take_succ_drop (l : List UInt8) (a k : Nat) (h : a + k < l.length) : (l.drop a).take (k + 1) = (l.drop a).take k ++ [l[a + k]] := by
  rw [List.take_succ_eq_append_getElem (by simp; omega), List.getElem_drop]
theorem pow128 (k : Nat) (h : k < 5) : (128 : Nat) ^ k ≤ 268435456 := by
  have : k ≤ 4 := by omega
  calc 128 ^ k ≤ 128 ^ 4 := Nat.pow_le_pow_right (by omega) this
    _ = 268435456 := by decide
theorem valV_lt : ∀ ds : List UInt8, valV ds < 128 ^ ds.length
  | [] => by simp [valV]
  | d :: ds => by
    have := valV_lt ds
    simp only [valV, List.length_cons, Nat.pow_succ]
    omega
theorem shl_dig (x k : Nat) (hx : x < 128) (hk : k < 5) : shl .i64 (x : Int) (ml 7 (k : Int)) = some ((x * 128 ^ k : Nat) : Int) := by
  have h7 : ml 7 (k : Int) = ((7 * k : Nat) : Int) := by rw [ml_eq (by omega) (by omega)]; omega
  unfold shl
  rw [h7, if_neg (by omega)]
  have e : (2 : Int) ^ (min ((7 * k : Nat) : Int).toNat IntKind.i64.bits) = ((128 ^ k : Nat) : Int) := by
    have hb : IntKind.i64.bits = 64 := rfl
    have h128 : (128 : Nat) ^ k = 2 ^ (7 * k) := by rw [Nat.pow_mul]
    rw [hb, Int.toNat_natCast, Nat.min_eq_left (by omega), h128]
    norm_cast
  rw [e]
  have hp := pow128 k hk
  have hm : x * 128 ^ k ≤ 128 * 268435456 := Nat.mul_le_mul (by omega) hp
  have ec : (x : Int) * ((128 ^ k : Nat) : Int) = ((x * 128 ^ k : Nat) : Int) := by norm_cast
  rw [ec, wr64 (by omega) (by omega)]
theorem tmod128 (x : Nat) : Int.tmod (x : Int) 128 = ((x % 128 : Nat) : Int) := rfl
theorem ReadVar_eq (t : ByteArray) (at_ : Int) (ht : (L t).length ≤ 4611686018427387904) (hat : oI at_) : ∃ r, s_ReadVar t at_ = some r ∧ i_ReadVar t at_ = some r ∧ readV t at_ r := by
  have fails : ∀ (at_ : Int), (at_ < 0 ∨ ((L t).length : Int) ≤ at_) → oI at_ → i_ReadVar t at_ = some (0, 0, false) := by
    intro at_ h hat
    unfold i_ReadVar
    rw [loopO_eq]
    simp only [i_ReadVar_b1]
    rw [decide_eq_true (by omega : (0 : Int) < 5), cond_true]
    by_cases h0 : at_ ≥ 0
    · rw [decide_eq_true h0, cond_true, sln_eq, sb_eq (by omega) (by omega), decide_eq_false (by omega)]
      rfl
    · rw [decide_eq_false h0]
      rfl
  by_cases hin : 0 ≤ at_ ∧ at_ < (L t).length
  · obtain ⟨a, rfl⟩ := Int.eq_ofNat_of_zero_le hin.1
    have ha : a < (L t).length := by omega
    have key : ∀ (B1 : Int × Int × Int → Option ((Int × Int × Int) ⊕ ((Unit) ⊕ ((Int × Int × Bool))))) (B2 : Int × Int → Option ((Int × Int) ⊕ ((Unit) ⊕ ((Int × Int × Bool))))), (∀ n sc i, B1 (n, sc, i) = s_ReadVar_b1 t (a : Int) n sc i) → (∀ n k, B2 (n, k) = i_ReadVar_b1 t (a : Int) n k) → ∀ (m k : Nat) , k + m = 5 → a + k ≤ (L t).length → (∀ d ∈ ((L t).drop a).take k, 128 ≤ d.toNat) →
        ∃ r, (loopO B1 (((valV (((L t).drop a).take k) : Nat) : Int), ((128 ^ k : Nat) : Int), ((a + k : Nat) : Int)) = some r ∧ loopO B2 (((valV (((L t).drop a).take k) : Nat) : Int), (k : Int)) = some r) ∧ (r = .inl () ∨ ∃ q, r = .inr q ∧ readV t (a : Int) q) := by
      intro B1 B2 hB1 hB2 m
      induction m with
      | zero =>
        intro k hk hle hd
        have hk5 : k = 5 := by omega
        subst hk5
        refine ⟨.inl (), ⟨?_, ?_⟩, .inl rfl⟩
        · rw [loopO_eq]
          simp only [hB1, s_ReadVar_b1]
          rw [ad_eq (by omega) (by omega), decide_eq_false (by omega : ¬((a + 5 : Nat) : Int) < (a : Int) + 5)]
          cases decide (((a + 5 : Nat) : Int) < sln t) <;> rfl
        · rw [loopO_eq]
          simp only [hB2, i_ReadVar_b1]
          rw [decide_eq_false (by omega : ¬((5 : Nat) : Int) < 5)]
          rfl
      | succ m ih =>
        intro k hk hle hd
        rw [loopO_eq, loopO_eq B2]
        simp only [hB1, hB2, s_ReadVar_b1, i_ReadVar_b1]
        have hk5 : k < 5 := by omega
        rw [ad_eq (b := 5) (by omega) (by omega), decide_eq_true (by omega : ((a + k : Nat) : Int) < (a : Int) + 5), decide_eq_true (by omega : (k : Int) < 5), decide_eq_true (by omega : (a : Int) ≥ 0), sln_eq, sb_eq (by omega) (by omega)]
        by_cases hlt : a + k < (L t).length
        · rw [decide_eq_true (by omega : ((a + k : Nat) : Int) < ((L t).length : Int)), decide_eq_true (by omega : (a : Int) < ((L t).length : Int) - k)]
          have eak : ad (a : Int) (k : Int) = ((a + k : Nat) : Int) := by rw [ad_eq (by omega) (by omega)]; omega
          simp only [cond_true, Option.bind_some, sx_nat t hlt, eak]
          have hx := u8_lt ((L t)[a + k])
          have htk := take_succ_drop (L t) a k hlt
          have hpl : (((L t).drop a).take k).length = k := by simp; omega
          have hvv := valV_append (((L t).drop a).take k) [(L t)[a + k]]
          rw [← htk, hpl] at hvv
          have hvl := valV_lt (((L t).drop a).take k)
          rw [hpl] at hvl
          have hp := pow128 k hk5
          generalize hxd : (L t)[a + k] = x at hx htk hvv
          simp only [valV, Nat.mul_zero, Nat.add_zero] at hvv
          have hw : IntKind.i64.wrap (x.toNat : Int) = x.toNat := wr64 (by omega) (by omega)
          have hmul : x.toNat % 128 * 128 ^ k ≤ 127 * 268435456 := Nat.mul_le_mul (by omega) hp
          have emul : ml ((x.toNat % 128 : Nat) : Int) ((128 ^ k : Nat) : Int) = ((x.toNat % 128 * 128 ^ k : Nat) : Int) := by
            have ec : ((x.toNat % 128 : Nat) : Int) * ((128 ^ k : Nat) : Int) = ((x.toNat % 128 * 128 ^ k : Nat) : Int) := by norm_cast
            rw [ml_eq (by rw [ec]; omega) (by rw [ec]; omega), ec]
          have enew : ad (((valV (((L t).drop a).take k) : Nat)) : Int) ((x.toNat % 128 * 128 ^ k : Nat) : Int) = ((valV (((L t).drop a).take (k + 1)) : Nat) : Int) := by
            rw [ad_eq (by omega) (by omega), hvv, Nat.mul_comm (128 ^ k)]
            omega
          rw [hw, tmod128, shl_dig _ k (by omega) hk5]
          simp only [Option.bind_some, emul, enew]
          by_cases hx128 : x.toNat < 128
          · rw [decide_eq_true (by omega : (x.toNat : Int) < 128), decide_eq_false (by omega : ¬(x.toNat : Int) ≥ 128)]
            simp only [cond_true, cond_false]
            have ek1 : ad ((a + k : Nat) : Int) 1 = ((a + k + 1 : Nat) : Int) := ad1 (by omega)
            have hcan := encV_valV (((L t).drop a).take k) x hd hx128
            rw [← htk] at hcan
            have hne : (((L t).drop a).take k ≠ []) ↔ 0 < k := by
              rw [← List.length_pos_iff, hpl]
            rw [hne] at hcan
            have hsub : sub t (a : Int) ((a + k + 1 : Nat) : Int) = some (t.extract a (a + k + 1)) := sub_nat t (by omega) (by omega)
            rw [ek1, hsub]
            by_cases hbig : valV (((L t).drop a).take (k + 1)) > 1000000000
            · rw [decide_eq_true (by omega : ((valV (((L t).drop a).take (k + 1)) : Nat) : Int) > 1000000000)]
              refine ⟨.inr (0, 0, false), ⟨rfl, ?_⟩, .inr ⟨_, rfl, .inl ⟨rfl, rfl, rfl⟩⟩⟩
              cases (x.toNat : Int) == 0
              · rfl
              · cases decide ((k : Int) > 0) <;> rfl
            · rw [decide_eq_false (by omega : ¬((valV (((L t).drop a).take (k + 1)) : Nat) : Int) > 1000000000)]
              obtain ⟨s, hs1, hs2⟩ := l01Var_eq (valV (((L t).drop a).take (k + 1))) (by omega)
              simp only [cond_false, Option.bind_some, hs1]
              have hseq : seq s (t.extract a (a + k + 1)) = decide (¬(x.toNat = 0 ∧ 0 < k)) := by
                rw [seq_L, hs2, L_ext, show a + k + 1 - a = k + 1 by omega, Bool.eq_iff_iff, decide_eq_true_eq, decide_eq_true_eq]
                exact hcan
              rw [hseq]
              by_cases hz : x.toNat = 0 ∧ 0 < k
              · rw [decide_eq_false (fun e => e hz)]
                refine ⟨.inr (0, 0, false), ⟨rfl, ?_⟩, .inr ⟨_, rfl, .inl ⟨rfl, rfl, rfl⟩⟩⟩
                have : ((x.toNat : Int) == 0) = true := by rw [hz.1]; rfl
                rw [this, decide_eq_true (by omega : (k : Int) > 0)]
                rfl
              · rw [decide_eq_true hz]
                refine ⟨.inr (((valV (((L t).drop a).take (k + 1)) : Nat) : Int), ((a + k + 1 : Nat) : Int), true), ⟨rfl, ?_⟩, .inr ⟨_, rfl, .inr ⟨rfl, a, a + k + 1, _, rfl, rfl, rfl, by omega, by omega, by omega, ?_⟩⟩⟩
                · by_cases hx0 : x.toNat = 0
                  · have : ((x.toNat : Int) == 0) = true := by rw [hx0]; rfl
                    rw [this, decide_eq_false (by omega : ¬(k : Int) > 0)]
                    rfl
                  · have : ((x.toNat : Int) == 0) = false := by simpa using hx0
                    rw [this]
                    rfl
                · rw [show a + k + 1 - a = k + 1 by omega]
                  exact hcan.2 hz
          · rw [decide_eq_false (by omega : ¬(x.toNat : Int) < 128), decide_eq_true (by omega : (x.toNat : Int) ≥ 128)]
            simp only [cond_true, cond_false]
            have e1 : ml ((128 ^ k : Nat) : Int) 128 = ((128 ^ (k + 1) : Nat) : Int) := by
              rw [ml_eq (by omega) (by omega), Nat.pow_succ]; norm_cast
            have e2 : ad ((a + k : Nat) : Int) 1 = ((a + (k + 1) : Nat) : Int) := ad1 (by omega)
            have e3 : ad (k : Int) 1 = ((k + 1 : Nat) : Int) := ad1 (by omega)
            rw [e1, e2, e3]
            exact ih (k + 1) (by omega) (by omega) (by
              rw [htk]
              intro d hd'
              rcases List.mem_append.1 hd' with hd' | hd'
              · exact hd d hd'
              · simp at hd'; subst hd'; omega)
        · rw [decide_eq_false (by omega : ¬((a + k : Nat) : Int) < ((L t).length : Int)), decide_eq_false (by omega : ¬(a : Int) < ((L t).length : Int) - k)]
          exact ⟨.inl (), ⟨rfl, rfl⟩, .inl rfl⟩
    obtain ⟨r, ⟨h1, h2⟩, h3⟩ := key (fun s => s_ReadVar_b1 t (a : Int) s.1 s.2.1 s.2.2) (fun s => i_ReadVar_b1 t (a : Int) s.1 s.2) (fun _ _ _ => rfl) (fun _ _ => rfl) 5 0 rfl (by omega) (by simp)
    unfold s_ReadVar i_ReadVar
    have hw : s_l01In (a : Int) 0 (sln t) = some true := by
      unfold s_l01In
      rw [decide_eq_true (by omega : (a : Int) ≥ 0), cond_true, sln_eq, decide_eq_true (by omega)]
    rw [hw]
    simp only [Option.bind_some, Bool.not_true, cond_false]
    simp only [List.take_zero, valV, Nat.pow_zero, Nat.add_zero] at h1 h2
    rw [show ((0 : Nat) : Int) = 0 from rfl, show ((1 : Nat) : Int) = 1 from rfl] at h1
    rw [show ((0 : Nat) : Int) = 0 from rfl] at h2
    rw [h1, h2]
    rcases h3 with rfl | ⟨q, rfl, h3⟩
    · exact ⟨_, rfl, rfl, .inl ⟨rfl, rfl, rfl⟩⟩
    · exact ⟨q, rfl, rfl, h3⟩
  · have hf := fails at_ (by omega) hat
    refine ⟨(0, 0, false), ?_, hf, .inl ⟨rfl, rfl, rfl⟩⟩
    unfold s_ReadVar
    by_cases h0 : 0 ≤ at_ ∧ at_ ≤ (L t).length
    · have hw : s_l01In at_ 0 (sln t) = some true := by
        unfold s_l01In
        rw [decide_eq_true (by omega : at_ ≥ 0), cond_true, sln_eq, decide_eq_true (by omega)]
      rw [hw]
      simp only [Option.bind_some, Bool.not_true, cond_false]
      rw [loopO_eq]
      simp only [s_ReadVar_b1]
      rw [decide_eq_false (by rw [sln_eq]; omega : ¬at_ < sln t)]
      rfl
    · have hw : s_l01In at_ 0 (sln t) = some false := by
        unfold s_l01In
        by_cases h1 : at_ ≥ 0
        · rw [decide_eq_true h1, cond_true, sln_eq, decide_eq_false (by omega)]
        · rw [decide_eq_false h1, cond_false]
      rw [hw]
      rfl
end Go.TI
namespace Go.TI
open Go
set_option linter.unusedSimpArgs false
set_option linter.unusedVariables false
theorem PageOk_eq (p : Page) : ∃ v, s_PageOk p = some v ∧ i_PageOk p = some v ∧ (v = true → (p.Kind = 1 ∨ p.Kind = 2) ∧ (1 ≤ p.Seq ∧ p.Seq ≤ 1000000000) ∧ (1 ≤ p.Tx ∧ p.Tx ≤ 1000000000) ∧ (1 ≤ p.Count ∧ p.Count ≤ 9) ∧ (0 ≤ p.Part ∧ p.Part < p.Count) ∧ sln p.Text ≤ 90) := by
  unfold s_PageOk i_PageOk
  rw [eq_in]
  simp only [in_eq, Option.bind_some]
  by_cases h1 : 1 ≤ p.Seq ∧ p.Seq ≤ 1000000000
  · by_cases h2 : 1 ≤ p.Tx ∧ p.Tx ≤ 1000000000
    · by_cases h3 : 1 ≤ p.Count ∧ p.Count ≤ 9
      · have e : sb p.Count 1 = p.Count - 1 := sb_eq (by omega) (by omega)
        rw [e]
        by_cases h4 : 0 ≤ p.Part ∧ p.Part ≤ p.Count - 1
        · by_cases h5 : sln p.Text > 90
          · refine ⟨false, ?_, ?_, by simp⟩
            · cases hk : (decide (1 ≤ p.Kind) && decide (p.Kind ≤ 2)) <;> simp [h1, h2, h3, h4, h5]
            · simp [h1, h2, h3, h4, h5]
          · by_cases k2 : p.Kind = 2
            · exact ⟨true, by simp [h1, h2, h3, h4, h5, k2], by simp [h1, h2, h3, h4, h5, k2], fun _ => ⟨.inr k2, h1, h2, h3, ⟨h4.1, by omega⟩, by omega⟩⟩
            · by_cases k1 : p.Kind = 1
              · exact ⟨p.Count == 1, by simp [h1, h2, h3, h4, h5, k1], by simp [h1, h2, h3, h4, h5, k1], fun _ => ⟨.inl k1, h1, h2, h3, ⟨h4.1, by omega⟩, by omega⟩⟩
              · have hk : (decide (1 ≤ p.Kind) && decide (p.Kind ≤ 2)) = false := by
                  rw [Bool.and_eq_false_iff, decide_eq_false_iff_not, decide_eq_false_iff_not]; omega
                have e1 : (p.Kind == 1) = false := by simpa using k1
                have e2 : (p.Kind == 2) = false := by simpa using k2
                exact ⟨false, by simp [hk], by simp [h1, h2, h3, h4, h5, e1, e2], by simp⟩
        · have e4 : (decide (0 ≤ p.Part) && decide (p.Part ≤ p.Count - 1)) = false := by
            rw [Bool.and_eq_false_iff, decide_eq_false_iff_not, decide_eq_false_iff_not]; omega
          refine ⟨false, ?_, ?_, by simp⟩
          · cases hk : (decide (1 ≤ p.Kind) && decide (p.Kind ≤ 2)) <;> simp [h1, h2, h3, e4]
          · simp [h1, h2, h3, e4]
      · have e3 : (decide (1 ≤ p.Count) && decide (p.Count ≤ 9)) = false := by
          rw [Bool.and_eq_false_iff, decide_eq_false_iff_not, decide_eq_false_iff_not]; omega
        refine ⟨false, ?_, ?_, by simp⟩
        · cases hk : (decide (1 ≤ p.Kind) && decide (p.Kind ≤ 2)) <;> simp [h1, h2, e3]
        · simp [h1, h2, e3]
    · have e2 : (decide (1 ≤ p.Tx) && decide (p.Tx ≤ 1000000000)) = false := by
        rw [Bool.and_eq_false_iff, decide_eq_false_iff_not, decide_eq_false_iff_not]; omega
      refine ⟨false, ?_, ?_, by simp⟩
      · cases hk : (decide (1 ≤ p.Kind) && decide (p.Kind ≤ 2)) <;> simp [h1, e2]
      · simp [h1, e2]
  · have e1 : (decide (1 ≤ p.Seq) && decide (p.Seq ≤ 1000000000)) = false := by
      rw [Bool.and_eq_false_iff, decide_eq_false_iff_not, decide_eq_false_iff_not]; omega
    refine ⟨false, ?_, ?_, by simp⟩
    · cases hk : (decide (1 ≤ p.Kind) && decide (p.Kind ≤ 2)) <;> simp [e1]
    · simp [e1]
def page0 : Page := Page.mk 0 0 0 0 0 (bs [])
theorem l06Var_bad (u : ByteArray) (a : Int) (hu : (L u).length ≤ 20000) (ha : oI a) : s_l06Var (l06Cur.mk u a true) = some (0, l06Cur.mk u a true) := by
  obtain ⟨r, h1, _, _⟩ := ReadVar_eq u a (by omega) ha
  unfold s_l06Var
  simp only [h1, Option.bind_some, cond_true]
theorem l06Var_good (u : ByteArray) (a : Int) (hu : (L u).length ≤ 20000) {r : Int × Int × Bool} (h : s_ReadVar u a = some r) : s_l06Var (l06Cur.mk u a false) = some (bif r.2.2 then (r.1, l06Cur.mk u r.2.1 false) else (0, l06Cur.mk u a true)) := by
  unfold s_l06Var
  simp only [h, Option.bind_some, cond_false]
  cases r.2.2 <;> rfl
theorem drop_split (l : List UInt8) {a b : Nat} (h : a ≤ b) : l.drop a = (l.drop a).take (b - a) ++ l.drop b := by
  have := (List.take_append_drop (b - a) (l.drop a)).symm
  rw [List.drop_drop, show a + (b - a) = b by omega] at this
  exact this
theorem PageText_eq (p : Page) (u : ByteArray) (k : UInt8) (n1 n2 n3 n4 : Nat) (hp : s_PageOk p = some true) (hk : p.Kind = (k.toNat : Int)) (h1 : p.Seq = n1) (h2 : p.Tx = n2) (h3 : p.Part = n3) (h4 : p.Count = n4)
    (b1 : n1 ≤ 1000000000) (b2 : n2 ≤ 1000000000) (b3 : n3 ≤ 1000000000) (b4 : n4 ≤ 1000000000) (hu : (L u).length ≤ 20000) (e : L u = [k] ++ encV n1 ++ encV n2 ++ encV n3 ++ encV n4 ++ L p.Text) : s_PageText p = s_Sealed u := by
  obtain ⟨s1, q1, r1⟩ := l01Var_eq n1 (by omega)
  obtain ⟨s2, q2, r2⟩ := l01Var_eq n2 (by omega)
  obtain ⟨s3, q3, r3⟩ := l01Var_eq n3 (by omega)
  obtain ⟨s4, q4, r4⟩ := l01Var_eq n4 (by omega)
  have hl := congrArg List.length e
  simp only [List.length_append, List.length_singleton] at hl
  have hb : s_l06Byte p.Kind = some (strB [IntKind.u8.wrap p.Kind]) := rfl
  have hbL : L (strB [IntKind.u8.wrap p.Kind]) = [k] := by
    rw [L_strB, hk, IntKind.wrap_u8]
    have := u8_lt k
    have e2 : ((k.toNat : Int) % 256).toNat = k.toNat := by omega
    simp only [List.map_cons, List.map_nil, e2, UInt8.ofNat_toNat]
  unfold s_PageText
  rw [hp]
  simp only [Option.bind_some, Bool.not_true, cond_false, hb, h1, h2, h3, h4, q1, q2, q3, q4]
  rw [cat_eq _ _ (by rw [hbL, r1]; simp only [List.length_singleton]; omega), Option.bind_some]
  rw [cat_eq _ _ (by rw [L_cat, hbL, r1, r2]; simp only [List.length_append, List.length_singleton]; omega), Option.bind_some]
  rw [cat_eq _ _ (by rw [L_cat, L_cat, hbL, r1, r2, r3]; simp only [List.length_append, List.length_singleton]; omega), Option.bind_some]
  rw [cat_eq _ _ (by rw [L_cat, L_cat, L_cat, hbL, r1, r2, r3, r4]; simp only [List.length_append, List.length_singleton]; omega), Option.bind_some]
  rw [cat_eq _ _ (by rw [L_cat, L_cat, L_cat, L_cat, hbL, r1, r2, r3, r4]; simp only [List.length_append, List.length_singleton]; omega), Option.bind_some]
  have : strB [IntKind.u8.wrap p.Kind] ++ s1 ++ s2 ++ s3 ++ s4 ++ p.Text = u := by
    apply L_inj
    rw [L_cat, L_cat, L_cat, L_cat, L_cat, hbL, r1, r2, r3, r4, e]
  rw [this]
  cases s_Sealed u with
  | none => rfl
  | some v => rfl
theorem ReadPage_eq (t : ByteArray) (ht : (L t).length ≤ 9223372036854775806) : ∃ p ok, s_ReadPage t = some (p, ok) ∧ i_ReadPage t = some (p, ok) ∧ (ok = false → p = page0) ∧ (ok = true → s_PageOk p = some true) := by
  obtain ⟨u, uok, hu1, hu2, hu3, hu4⟩ := Unsealed_eq t ht
  unfold s_ReadPage i_ReadPage
  rw [hu1, hu2]
  simp only [Option.bind_some]
  have o1 : oI 1 := ⟨by omega, by omega⟩
  cases uok with
  | false =>
    have := hu4 rfl
    subst this
    have hz : (L (bs [])).length ≤ 20000 := by rw [L_bs]; simp
    simp only [Bool.not_false, cond_true, Option.bind_some, l06Var_bad _ _ hz o1]
    exact ⟨page0, false, rfl, rfl, fun _ => rfl, by simp⟩
  | true =>
    obtain ⟨hul, v, hv, htu⟩ := hu3 rfl
    simp only [Bool.not_true, cond_false, Option.bind_some]
    by_cases he : (L u).length < 1
    · have he2 : seq u (bs []) = true := by
        rw [seq_L, decide_eq_true_eq, L_bs]
        exact List.eq_nil_of_length_eq_zero (by omega)
      rw [decide_eq_true (by rw [sln_eq]; omega : sln u < 1), he2]
      simp only [cond_true, l06Var_bad _ _ hul o1, Option.bind_some]
      exact ⟨page0, false, rfl, rfl, fun _ => rfl, by simp⟩
    · have he2 : seq u (bs []) = false := by
        rw [seq_L, decide_eq_false_iff_not, L_bs]
        intro e
        rw [e] at he
        simp at he
      rw [decide_eq_false (by rw [sln_eq]; omega : ¬sln u < 1), he2]
      simp only [cond_false]
      -- the four numbers
      have four_ : ∀ (B : Int × Int × Int × Int × Int × Int → Option ((Int × Int × Int × Int × Int × Int) ⊕ ((Int × Int × Int × Int × Int) ⊕ ((Page × Bool))))), (∀ x y a b c d, B (x, y, a, b, c, d) = i_ReadPage_b1 (u, true) x y a b c d) →
          ∃ (a : Int) (m1 m2 m3 m4 : Int) (bad : Bool), (∃ c1 c2 c3, s_l06Var (l06Cur.mk u 1 false) = some (m1, c1) ∧ s_l06Var c1 = some (m2, c2) ∧ s_l06Var c2 = some (m3, c3) ∧ s_l06Var c3 = some (m4, l06Cur.mk u a bad)) ∧
            loopO B (1, 0, 0, 0, 0, 0) = some (bif bad then .inr (page0, false) else .inl (a, m1, m2, m3, m4)) ∧ (bad = false → ∃ (a1 a2 a3 a4 n1 n2 n3 n4 : Nat), m1 = n1 ∧ m2 = n2 ∧ m3 = n3 ∧ m4 = n4 ∧ a = a4 ∧ 1 < a1 ∧ a1 < a2 ∧ a2 < a3 ∧ a3 < a4 ∧ a4 ≤ (L u).length ∧ n1 ≤ 1000000000 ∧ n2 ≤ 1000000000 ∧ n3 ≤ 1000000000 ∧ n4 ≤ 1000000000 ∧
              encV n1 = ((L u).drop 1).take (a1 - 1) ∧ encV n2 = ((L u).drop a1).take (a2 - a1) ∧ encV n3 = ((L u).drop a2).take (a3 - a2) ∧ encV n4 = ((L u).drop a3).take (a4 - a3)) := by
        intro B hB
        obtain ⟨r1, p1, q1, w1⟩ := ReadVar_eq u 1 (by omega) o1
        have g1 := l06Var_good u 1 hul p1
        rw [loopO_eq, hB]
        unfold i_ReadPage_b1
        rw [decide_eq_true (by omega : (0 : Int) < 4), cond_true, q1, Option.bind_some]
        rcases w1 with ⟨w1, w2, w3⟩ | ⟨w1, a0', a1, n1, z0, z1, z2, z3, z4, z5, z6⟩
        · rw [w1] at g1 ⊢
          exact ⟨1, 0, 0, 0, 0, true, ⟨_, _, _, g1, l06Var_bad u 1 hul o1, l06Var_bad u 1 hul o1, l06Var_bad u 1 hul o1⟩, rfl, by simp⟩
        have ea0 : a0' = 1 := by omega
        subst ea0
        rw [w1] at g1 ⊢
        have x1 : oI r1.2.1 := ⟨by omega, by omega⟩
        simp only [Bool.not_true, cond_false, cond_true] at g1 ⊢
        rw [show ((0 : Int) == 0) = true from rfl, cond_true, show ad 0 1 = 1 from ad1 (i := 0) (by omega)]
        simp only
        obtain ⟨r2, p2, q2, y1⟩ := ReadVar_eq u r1.2.1 (by omega) x1
        have g2 := l06Var_good u r1.2.1 hul p2
        rw [loopO_eq, hB]
        unfold i_ReadPage_b1
        rw [decide_eq_true (by omega : (1 : Int) < 4), cond_true, q2, Option.bind_some]
        rcases y1 with ⟨y1, _, _⟩ | ⟨y1, b0, a2, n2, y2, y3, y4, y5, y6, y7, y8⟩
        · rw [y1] at g2 ⊢
          exact ⟨r1.2.1, r1.1, 0, 0, 0, true, ⟨_, _, _, g1, g2, l06Var_bad u _ hul x1, l06Var_bad u _ hul x1⟩, rfl, by simp⟩
        have eb : b0 = a1 := by omega
        subst eb
        rw [y1] at g2 ⊢
        have x2 : oI r2.2.1 := ⟨by omega, by omega⟩
        simp only [Bool.not_true, cond_false, cond_true] at g2 ⊢
        rw [show ((1 : Int) == 0) = false from rfl, cond_false, show ((1 : Int) == 1) = true from rfl, cond_true, show ad 1 1 = 2 from ad1 (i := 1) (by omega)]
        simp only
        obtain ⟨r3, p3, q3, k1⟩ := ReadVar_eq u r2.2.1 (by omega) x2
        have g3 := l06Var_good u r2.2.1 hul p3
        rw [loopO_eq, hB]
        unfold i_ReadPage_b1
        rw [decide_eq_true (by omega : (2 : Int) < 4), cond_true, q3, Option.bind_some]
        rcases k1 with ⟨k1, _, _⟩ | ⟨k1, c0, a3, n3, k2, k3, k4, k5, k6, k7, k8⟩
        · rw [k1] at g3 ⊢
          exact ⟨r2.2.1, r1.1, r2.1, 0, 0, true, ⟨_, _, _, g1, g2, g3, l06Var_bad u _ hul x2⟩, rfl, by simp⟩
        have ec : c0 = a2 := by omega
        subst ec
        rw [k1] at g3 ⊢
        have x3 : oI r3.2.1 := ⟨by omega, by omega⟩
        simp only [Bool.not_true, cond_false, cond_true] at g3 ⊢
        rw [show ((2 : Int) == 0) = false from rfl, cond_false, show ((2 : Int) == 1) = false from rfl, cond_false, show ((2 : Int) == 2) = true from rfl, cond_true, show ad 2 1 = 3 from ad1 (i := 2) (by omega)]
        simp only
        obtain ⟨r4, p4, q4, l1⟩ := ReadVar_eq u r3.2.1 (by omega) x3
        have g4 := l06Var_good u r3.2.1 hul p4
        rw [loopO_eq, hB]
        unfold i_ReadPage_b1
        rw [decide_eq_true (by omega : (3 : Int) < 4), cond_true, q4, Option.bind_some]
        rcases l1 with ⟨l1, _, _⟩ | ⟨l1, d0, a4, n4, l2, l3, l4, l5, l6, l7, l8⟩
        · rw [l1] at g4 ⊢
          exact ⟨r3.2.1, r1.1, r2.1, r3.1, 0, true, ⟨_, _, _, g1, g2, g3, g4⟩, rfl, by simp⟩
        have ed : d0 = a3 := by omega
        subst ed
        rw [l1] at g4 ⊢
        simp only [Bool.not_true, cond_false, cond_true] at g4 ⊢
        rw [show ((3 : Int) == 0) = false from rfl, cond_false, show ((3 : Int) == 1) = false from rfl, cond_false, show ((3 : Int) == 2) = false from rfl, cond_false, show ((3 : Int) == 3) = true from rfl, cond_true, show ad 3 1 = 4 from ad1 (i := 3) (by omega)]
        simp only
        rw [loopO_eq, hB]
        unfold i_ReadPage_b1
        rw [decide_eq_false (by omega : ¬(4 : Int) < 4), cond_false]
        exact ⟨r4.2.1, r1.1, r2.1, r3.1, r4.1, false, ⟨_, _, _, g1, g2, g3, g4⟩, rfl, fun _ => ⟨b0, c0, d0, a4, n1, n2, n3, n4, z2, y4, k4, l4, l3, z3, y5, k5, l5, l6, z5, y7, k7, l7, z6, y8, k8, l8⟩⟩
      obtain ⟨a, m1, m2, m3, m4, bad, ⟨c1, c2, c3, f1, f2, f3, f4⟩, f5, f6⟩ := four_ (fun s : Int × Int × Int × Int × Int × Int => i_ReadPage_b1 (u, true) s.1 s.2.1 s.2.2.1 s.2.2.2.1 s.2.2.2.2.1 s.2.2.2.2.2) (fun _ _ _ _ _ _ => rfl)
      rw [f5]
      simp only [f1, f2, f3, f4, Option.bind_some]
      cases bad with
      | true => exact ⟨page0, false, rfl, rfl, fun _ => rfl, by simp⟩
      | false =>
        obtain ⟨a1, a2, a3, a4, n1, n2, n3, n4, rfl, rfl, rfl, rfl, rfl, i1, i2, i3, i4, i5, j1, j2, j3, j4, s1, s2, s3, s4⟩ := f6 rfl
        simp only [cond_false, Option.bind_some, Sum.elim_inl]
        have hx0 : sx u 0 = some (((L u)[0]'(by omega)).toNat : Int) := sx_nat u (i := 0) (by omega)
        have hsub : sub u (a4 : Int) (sln u) = some (u.extract a4 (L u).length) := by rw [sln_eq]; exact sub_nat u (by omega) (by omega)
        rw [hx0, hsub]
        simp only [Option.bind_some]
        have hk := u8_lt ((L u)[0]'(by omega))
        have hw : IntKind.i64.wrap (((L u)[0]'(by omega)).toNat : Int) = ((L u)[0]'(by omega)).toNat := wr64 (by omega) (by omega)
        rw [hw]
        obtain ⟨po, po1, po2, _⟩ := PageOk_eq (Page.mk (((L u)[0]'(by omega)).toNat : Int) n1 n2 n3 n4 (u.extract a4 (L u).length))
        rw [po2]
        simp only [Option.bind_some]
        cases po with
        | false =>
          have : s_PageText (Page.mk (((L u)[0]'(by omega)).toNat : Int) n1 n2 n3 n4 (u.extract a4 (L u).length)) = some (bs [], false) := by
            unfold s_PageText
            rw [po1]
            rfl
          rw [this]
          exact ⟨page0, false, rfl, rfl, fun _ => rfl, by simp⟩
        | true =>
          have hT : L (u.extract a4 (L u).length) = (L u).drop a4 := by
            rw [L_ext]
            exact List.take_of_length_le (by simp)
          have hsplit : L u = [(L u)[0]'(by omega)] ++ encV n1 ++ encV n2 ++ encV n3 ++ encV n4 ++ L (u.extract a4 (L u).length) := by
            rw [hT, s1, s2, s3, s4]
            have h0 : L u = [(L u)[0]'(by omega)] ++ (L u).drop 1 := by
              have := List.drop_eq_getElem_cons (l := L u) (i := 0) (by omega)
              simpa using this
            have d1 := drop_split (L u) (a := 1) (b := a1) (by omega)
            have d2 := drop_split (L u) (a := a1) (b := a2) (by omega)
            have d3 := drop_split (L u) (a := a2) (b := a3) (by omega)
            have d4 := drop_split (L u) (a := a3) (b := a4) (by omega)
            simp only [List.append_assoc]
            rw [← d4, ← d3, ← d2, ← d1]
            exact h0
          rw [PageText_eq _ u ((L u)[0]'(by omega)) n1 n2 n3 n4 po1 rfl rfl rfl rfl rfl j1 j2 j3 j4 hul hsplit]
          obtain ⟨v', hv', hs'⟩ := (Sealed_ex u).2 hul
          rw [hv] at hv'
          injection hv' with hv'
          subst hv'
          rw [hs', Option.bind_some]
          have : seq (u ++ four v) t = true := by rw [seq_eq, decide_eq_true_eq]; exact htu.symm
          simp only [Bool.not_true, cond_false, Option.bind_some, this]
          exact ⟨_, true, rfl, rfl, by simp, fun _ => po1⟩
end Go.TI
namespace Go.TI
open Go
set_option linter.unusedSimpArgs false
set_option linter.unusedVariables false
def zLeaf (x : Leaf) : Nat := x.Text.size
def zBlock (x : Block) : Nat := zl zLeaf x.Leaves
def zFlash (x : Flash) : Nat := zl zBlock x.Blocks
theorem szLeaf_eq (x : Leaf) (h : oLeaf x) : Weighs zLeaf w_szLeaf x := by
  intro left h0 h1
  have hx : x.Text.size ≤ 9223372036854775807 := h.2
  have e : sln x.Text = (x.Text.size : Int) := rfl
  unfold w_szLeaf
  rw [sb_eq (by rw [e]; omega) (by rw [e]; omega), e]
  unfold zLeaf
  by_cases hc : (x.Text.size : Int) ≤ left
  · rw [decide_eq_false (by omega), cond_false]
    exact ⟨_, rfl, by rw [if_pos hc]⟩
  · rw [decide_eq_true (by omega), cond_true]
    exact ⟨_, rfl, by rw [if_neg hc]; omega⟩
theorem szLeafS_eq (l : List Leaf) (h : ol oLeaf l) : Weighs (zl zLeaf) w_szLeafS l :=
  Weighs.list (sz_listF zLeaf w_szLeaf l h.1 (fun x hx => szLeaf_eq x (h.2 x hx)) (fun _ _ => rfl) (fun _ => rfl))
theorem Weighs.wrap {α β : Type} {z : β → Nat} {g : β → Int → Option Int} {f : α → Int → Option Int} {x : α} {y : β} {z' : α → Nat} (h : Weighs z g y) (hz : z' x = z y) (hf : ∀ left, f x left = (g y left).bind fun v => bif decide (v < 0) then some (-1) else some v) : Weighs z' f x := by
  intro left h0 h1
  rw [hz]
  obtain ⟨v, h2, h3⟩ := h left h0 h1
  rw [hf, h2, Option.bind_some]
  split at h3
  · rename_i hc
    rw [decide_eq_false (by omega), cond_false]
    exact ⟨_, rfl, by rw [if_pos hc]; exact h3⟩
  · rename_i hc
    rw [decide_eq_true h3, cond_true]
    exact ⟨_, rfl, by rw [if_neg hc]; omega⟩
theorem szBlock_eq (x : Block) (h : oBlock x) : Weighs zBlock w_szBlock x := Weighs.wrap (szLeafS_eq x.Leaves h.2.2) rfl (fun _ => rfl)
theorem szBlockS_eq (l : List Block) (h : ol oBlock l) : Weighs (zl zBlock) w_szBlockS l :=
  Weighs.list (sz_listF zBlock w_szBlock l h.1 (fun x hx => szBlock_eq x (h.2 x hx)) (fun _ _ => rfl) (fun _ => rfl))
theorem szFlash_eq (x : Flash) (h : oFlash x) : Weighs zFlash w_szFlash x := Weighs.wrap (szBlockS_eq x.Blocks h) rfl (fun _ => rfl)
theorem toLeafS_eq (l : List Leaf) (h : zl zLeaf l ≤ 1048576) : w_toLeafS l = some l := by
  have := zl_len (z := zLeaf) (l := l)
  exact to_listF w_toLeaf l (by omega) (by omega) (fun _ _ => rfl) (fun _ _ => rfl) rfl
theorem toBlock_eq (x : Block) (h : zBlock x ≤ 1048576) : w_toBlock x = some x := by
  unfold w_toBlock
  rw [toLeafS_eq _ h]
  rfl
theorem toBlockS_eq (l : List Block) (h : zl zBlock l ≤ 1048576) : w_toBlockS l = some l := by
  have := zl_len (z := zBlock) (l := l)
  exact to_listF w_toBlock l (by omega) (by omega) (fun x hx => toBlock_eq x (by have := zl_mem (z := zBlock) hx; omega)) (fun _ _ => rfl) rfl
theorem toFlash_eq (x : Flash) (h : zFlash x ≤ 1048576) : w_toFlash x = some x := by
  unfold w_toFlash
  rw [toBlockS_eq _ h]
  rfl
theorem eqLeaf_eq (a b : Leaf) : Tells (w_eqLeaf a b) a b := by
  cases a with
  | mk a1 a2 =>
  cases b with
  | mk b1 b2 =>
  have : Says (w_eqLeaf (Leaf.mk a1 a2) (Leaf.mk b1 b2)) (a1 = b1 ∧ a2 = b2 ∧ True) := says_and (by simp) (says_and seq_ne says_true)
  simpa only [Tells, Says, Leaf.mk.injEq, and_true] using this
theorem eqLeafS_eq (a b : List Leaf) (h : a.length ≤ 1048576) : Tells (w_eqLeafS a b) a b :=
  eq_listF w_eqLeaf a b (by omega) (fun x _ y _ => eqLeaf_eq x y) (fun _ => rfl) rfl
theorem eqBlock_eq (a b : Block) (h : zBlock a ≤ 1048576) : Tells (w_eqBlock a b) a b := by
  cases a with
  | mk a1 a2 a3 =>
  cases b with
  | mk b1 b2 b3 =>
  have hl := zl_len (z := zLeaf) (l := a3)
  have : Says (w_eqBlock (Block.mk a1 a2 a3) (Block.mk b1 b2 b3)) (a1 = b1 ∧ a2 = b2 ∧ a3 = b3 ∧ True) := says_and (by cases a1 <;> cases b1 <;> simp) (says_and (by simp) (says_bind (eqLeafS_eq a3 b3 (by unfold zBlock at h; simp only at h; omega)) says_true))
  simpa only [Tells, Says, Block.mk.injEq, and_true] using this
theorem eqBlockS_eq (a b : List Block) (h : zl zBlock a ≤ 1048576) : Tells (w_eqBlockS a b) a b := by
  have := zl_len (z := zBlock) (l := a)
  exact eq_listF w_eqBlock a b (by omega) (fun x hx y _ => eqBlock_eq x y (by have := zl_mem (z := zBlock) hx; omega)) (fun _ => rfl) rfl
theorem eqFlash_eq (a b : Flash) (h : zFlash a ≤ 1048576) : Tells (w_eqFlash a b) a b := by
  cases a with
  | mk a1 =>
  cases b with
  | mk b1 =>
  have : Says (w_eqFlash (Flash.mk a1) (Flash.mk b1)) (a1 = b1 ∧ True) := says_bind (eqBlockS_eq a1 b1 h) says_true
  simpa only [Tells, Says, Flash.mk.injEq, and_true] using this
theorem capF_of (f : Flash) (h : zFlash f ≤ 1048576) : capF f ∧ ∀ b ∈ f.Blocks, ∀ x ∈ b.Leaves, (L x.Text).length ≤ 1048576 := by
  have h1 := zl_len (z := zBlock) (l := f.Blocks)
  unfold zFlash at h
  refine ⟨⟨by omega, fun b hb => ?_⟩, fun b hb x hx => ?_⟩
  · have h2 := zl_mem (z := zBlock) hb
    have h3 := zl_len (z := zLeaf) (l := b.Leaves)
    have e : zBlock b = zl zLeaf b.Leaves := rfl
    omega
  · have h2 := zl_mem (z := zBlock) hb
    have h3 := zl_mem (z := zLeaf) hx
    have e : zBlock b = zl zLeaf b.Leaves := rfl
    have e2 : zLeaf x = x.Text.size := rfl
    rw [L_size]
    omega
end Go.TI
namespace Go.TI
open Go
set_option linter.unusedSimpArgs false
set_option linter.unusedVariables false
def nl (l : List Block) : Nat := (l.map fun b => b.Leaves.length).sum
theorem nl_le (f : Flash) : nl f.Blocks ≤ zFlash f := by
  unfold nl zFlash zl
  have : ∀ l : List Block, (l.map fun b => b.Leaves.length).sum ≤ (l.map zBlock).sum := by
    intro l
    induction l with
    | nil => simp
    | cons b l ih =>
      have := zl_len (z := zLeaf) (l := b.Leaves)
      have e : zBlock b = zl zLeaf b.Leaves := rfl
      simp only [List.map_cons, List.sum_cons]
      omega
  have := this f.Blocks
  omega
def isPage (f : Flash) (y : Found) : Prop := ∃ b x, gi f.Blocks y.Block = some b ∧ gi b.Leaves y.Leaf = some x ∧ (x.Is == 1) = true ∧ s_ReadPage x.Text = some (y.Page, true)
theorem ReadLeaf_at (f : Flash) (hf : capF f) {i k : Nat} {b : Block} {x : Leaf} (hb : f.Blocks[i]? = some b) (hx : b.Leaves[k]? = some x) : s_ReadLeaf f i k = some (bif x.Is == 1 then (x.Text, true) else (bs [], false)) := by
  have h1 := (List.getElem?_eq_some_iff.1 hb).1
  have h2 := (List.getElem?_eq_some_iff.1 hx).1
  have h3 := hf.1
  have h4 := hf.2 b (List.mem_of_getElem? hb)
  unfold s_ReadLeaf
  rw [sb_eq (by rw [ln_eq]; omega) (by rw [ln_eq]; omega), in_eq, ln_eq, decide_eq_true (by omega : (0 : Int) ≤ (i : Int)), decide_eq_true (by omega : (i : Int) ≤ (f.Blocks.length : Int) - 1)]
  simp only [Option.bind_some, Bool.and_self, Bool.not_true, cond_false, gi_nat, hb]
  rw [sb_eq (by rw [ln_eq]; omega) (by rw [ln_eq]; omega), in_eq, ln_eq, decide_eq_true (by omega : (0 : Int) ≤ (k : Int)), decide_eq_true (by omega : (k : Int) ≤ (b.Leaves.length : Int) - 1)]
  simp only [Option.bind_some, Bool.and_self, Bool.not_true, cond_false, hx]
  cases h : x.Is == 1 with
  | true =>
    have : (x.Is != 1) = false := by simp [bne, h]
    simp [this]
  | false =>
    have : (x.Is != 1) = true := by simp [bne, h]
    simp [this]
theorem collect_eq (f : Flash) (hf : capF f) (hT : ∀ b ∈ f.Blocks, ∀ x ∈ b.Leaves, (L x.Text).length ≤ 1048576) (hn : nl f.Blocks ≤ 1048576) :
    ∃ X, loopO (fun s : List Found × Int => s_ScanAll_b1 f s.1 s.2) ([], 0) = some X ∧ loopO (fun s : Int × List Found => i_ScanAll_b1 f s.1 s.2) (0, []) = some X ∧ X.length ≤ nl f.Blocks ∧ ∀ y ∈ X, isPage f y := by
  refine loop_two (body := fun s : List Found × Int => s_ScanAll_b1 f s.1 s.2) (body' := fun s : Int × List Found => i_ScanAll_b1 f s.1 s.2) (fun s i => (s, i)) (fun s i => (i, s)) f.Blocks.length (fun i out => out.length ≤ ((f.Blocks.take i).map fun b => b.Leaves.length).sum ∧ ∀ y ∈ out, isPage f y) (fun X => X.length ≤ nl f.Blocks ∧ ∀ y ∈ X, isPage f y) ?_ ?_ (s := []) ⟨by simp, by simp⟩
  · intro out i hi ⟨ho1, ho2⟩
    have hb : f.Blocks[i]? = some f.Blocks[i] := List.getElem?_eq_getElem hi
    have hm : f.Blocks[i] ∈ f.Blocks := List.getElem_mem _
    have hsum := sum_take (fun b : Block => b.Leaves.length) f.Blocks i hi
    have hle := sum_take_le (fun b : Block => b.Leaves.length) f.Blocks (i + 1)
    unfold nl at hn
    have hf1 := hf.1
    refine .inl ?_
    simp only [s_ScanAll_b1, i_ScanAll_b1, lt_ln, decide_eq_true hi, cond_true, gi_nat, hb, Option.bind_some]
    obtain ⟨u, q1, q2, q3⟩ := loop_two (body := fun s : List Found × Int => s_ScanAll_b2 f (i : Int) s.1 s.2) (body' := fun s : Int × List Found => i_ScanAll_b2 (i : Int) f.Blocks[i] s.1 s.2) (fun s i => (s, i)) (fun s i => (i, s)) f.Blocks[i].Leaves.length (fun k u => u.length ≤ out.length + k ∧ ∀ y ∈ u, isPage f y) (fun u => u.length ≤ out.length + f.Blocks[i].Leaves.length ∧ ∀ y ∈ u, isPage f y)
      (fun u k hk hu => by
        have hx : f.Blocks[i].Leaves[k]? = some f.Blocks[i].Leaves[k] := List.getElem?_eq_getElem hk
        have hxm : f.Blocks[i].Leaves[k] ∈ f.Blocks[i].Leaves := List.getElem_mem _
        have hk2 := hf.2 _ hm
        have hap : ∀ y : Found, ap 72 u [y] = some (u ++ [y]) := fun y => ap_eq (by simp only [List.length_singleton]; omega)
        refine .inl ?_
        obtain ⟨p, ok, r1, r2, r3, r4⟩ := ReadPage_eq f.Blocks[i].Leaves[k].Text (by have := hT _ hm _ hxm; omega)
        simp only [s_ScanAll_b2, i_ScanAll_b2, lt_ln, decide_eq_true hk, cond_true, gi_nat, hb, hx, Option.bind_some, ReadLeaf_at f hf hb hx, r2, hap]
        have hu2 := hu.1
        cases hfull : f.Blocks[i].Leaves[k].Is == 1 with
        | false =>
          obtain ⟨p', ok', t1, _⟩ := ReadPage_eq (bs []) (by rw [L_bs]; simp)
          simp only [cond_false, Option.bind_some, t1]
          refine ⟨u, by rw [ad1 (by omega)], by cases ok <;> (simp only [cond_true, cond_false, Option.bind_some]; rw [ad1 (by omega)]), by omega, hu.2⟩
        | true =>
          simp only [cond_true, Option.bind_some, r1]
          cases ok with
          | false => exact ⟨u, by simp only [cond_false]; rw [ad1 (by omega)], by simp only [cond_false, Option.bind_some]; rw [ad1 (by omega)], by omega, hu.2⟩
          | true =>
            refine ⟨u ++ [Found.mk i k p], by simp only [cond_true]; rw [ad1 (by omega)], by simp only [cond_true, Option.bind_some]; rw [ad1 (by omega)], by simp only [List.length_append, List.length_singleton]; omega, fun y hy => ?_⟩
            rcases List.mem_append.1 hy with hy | hy
            · exact hu.2 y hy
            · rw [List.mem_singleton] at hy
              subst hy
              exact ⟨_, _, by simp only [gi_nat]; exact hb, by simp only [gi_nat]; exact hx, hfull, r1⟩)
      (fun u hu => ⟨u, by simp only [s_ScanAll_b2, gi_nat, hb, Option.bind_some, lt_ln, Nat.lt_irrefl, decide_false, cond_false], by simp only [i_ScanAll_b2, lt_ln, Nat.lt_irrefl, decide_false, cond_false], hu⟩) (s := out) ⟨by omega, ho2⟩
    rw [q1, q2]
    simp only [Option.bind_some]
    rw [ad1 (by omega)]
    exact ⟨u, rfl, rfl, by omega, q3.2⟩
  · intro out ⟨ho1, ho2⟩
    refine ⟨out, by simp only [s_ScanAll_b1, lt_ln, Nat.lt_irrefl, decide_false, cond_false], by simp only [i_ScanAll_b1, lt_ln, Nat.lt_irrefl, decide_false, cond_false], ?_, ho2⟩
    rw [List.take_length] at ho1
    exact ho1
theorem gi_si_isSome {γ : Type} {l : List γ} {i j : Int} {x y : γ} (h : gi l j = some y) : ∃ z, gi (si l i x) j = some z := by
  obtain ⟨h1, h2⟩ := gi_eq_some h
  have := (List.getElem?_eq_some_iff.1 h2).1
  unfold gi
  rw [if_pos h1]
  exact ⟨_, List.getElem?_eq_getElem (by simp only [si, List.length_set]; exact this)⟩
theorem swap_round (l : List Found) (k : Int) : s_ScanAll_b4 l k = (sort_insertionSort_func_b2 (ltk i_ScanAll_1) 0 k l).map (Sum.map (fun s => (s.2, s.1)) id) := by
  unfold s_ScanAll_b4 sort_insertionSort_func_b2 gi2 swp
  cases hk : decide (k > 0) with
  | false => rfl
  | true =>
    simp only [cond_true]
    cases h1 : gi l (sb k 1) with
    | none => cases h2 : gi l k <;> simp
    | some x =>
      cases h2 : gi l k with
      | none => simp
      | some y =>
        simp only [Option.bind_some]
        have e : (decide (x.Page.Seq > y.Page.Seq)) = ltk i_ScanAll_1 y x := rfl
        rw [e]
        cases ltk i_ScanAll_1 y x with
        | false => rfl
        | true =>
          simp only [cond_true, h1, h2, Option.bind_some]
          obtain ⟨z, hz⟩ := gi_si_isSome (i := k) (x := x) h1
          rw [hz]
          rfl
theorem swp_len {γ : Type} {l l' : List γ} {i j : Int} (h : swp l i j = some l') : l'.length = l.length := by
  unfold swp at h
  obtain ⟨x, _, h⟩ := Option.bind_eq_some_iff.1 h
  obtain ⟨y, _, h⟩ := Option.bind_eq_some_iff.1 h
  injection h with h
  subst h
  simp [si]
theorem ins_len {a : Int} {j : Int} {l r : List Found} (h : loopO (fun s : Int × List Found => sort_insertionSort_func_b2 (ltk i_ScanAll_1) a s.1 s.2) (j, l) = some r) : r.length = l.length := by
  refine loopO_inv (fun s : Int × List Found => s.2.length = l.length) (fun r => r.length = l.length) ?_ ?_ (s := (j, l)) rfl h
  · rintro ⟨j, m⟩ s' hm hb
    simp only [sort_insertionSort_func_b2] at hb
    obtain ⟨c, _, hb⟩ := Option.bind_eq_some_iff.1 hb
    cases c with
    | false => cases hb
    | true =>
      simp only [cond_true] at hb
      obtain ⟨m', h1, hb⟩ := Option.bind_eq_some_iff.1 hb
      injection hb with hb
      injection hb with hb
      subst hb
      exact (swp_len h1).trans hm
  · rintro ⟨j, m⟩ b hm hb
    simp only [sort_insertionSort_func_b2] at hb
    obtain ⟨c, _, hb⟩ := Option.bind_eq_some_iff.1 hb
    cases c with
    | false =>
      simp only [cond_false] at hb
      injection hb with hb
      injection hb with hb
      subst hb
      exact hm
    | true =>
      simp only [cond_true] at hb
      obtain ⟨m', h1, hb⟩ := Option.bind_eq_some_iff.1 hb
      cases hb
theorem ScanAll_eq (f : Flash) (hf : capF f) (hT : ∀ b ∈ f.Blocks, ∀ x ∈ b.Leaves, (L x.Text).length ≤ 1048576) (hn : nl f.Blocks ≤ 1048576) :
    ∃ r, s_ScanAll f = some r ∧ i_ScanAll f = some r ∧ r.length ≤ nl f.Blocks ∧ (∀ y ∈ r, isPage f y) ∧ srt i_ScanAll_1 r := by
  obtain ⟨X, h1, h2, h3, h4⟩ := collect_eq f hf hT hn
  obtain ⟨r, h5, h6, h7⟩ := stable_eq i_ScanAll_1 X (by omega)
  obtain ⟨r', h8, h9, h10⟩ := insertionSort_eq i_ScanAll_1 [] X [] (by simp only [List.length_nil]; omega)
  have hr : r' = r := srt_unique i_ScanAll_1 h9 h6 (fun k => by rw [h7 k, ← h10 k])
  subst hr
  refine ⟨r', ?_, ?_, ?_, ?_, h6⟩
  · unfold s_ScanAll
    rw [h1, Option.bind_some]
    simp only [List.nil_append, List.append_nil, List.length_nil, Nat.zero_add] at h8
    unfold sort_insertionSort_func at h8
    rw [show ad ((0 : Nat) : Int) 1 = 1 from rfl] at h8
    have hc : loopO (fun s : List Found × Int => s_ScanAll_b3 s.1 s.2) (X, 1) = loopO (fun s : Int × List Found => sort_insertionSort_func_b1 (ltk i_ScanAll_1) ((0 : Nat) : Int) (X.length : Int) s.1 s.2) (1, X) := by
      refine loopO_conjI (body := fun s : Int × List Found => sort_insertionSort_func_b1 (ltk i_ScanAll_1) ((0 : Nat) : Int) (X.length : Int) s.1 s.2) (body' := fun s : List Found × Int => s_ScanAll_b3 s.1 s.2) (fun s => (s.2, s.1)) (fun s => s.2.length = X.length) ?_ ?_ (1, X) rfl
      · rintro ⟨j, m⟩ hm
        simp only at hm
        simp only [s_ScanAll_b3, sort_insertionSort_func_b1, ln_eq, hm]
        cases decide (j < (X.length : Int)) with
        | false => rfl
        | true =>
          simp only [cond_true]
          rw [loopO_conj (body := fun s : Int × List Found => sort_insertionSort_func_b2 (ltk i_ScanAll_1) ((0 : Nat) : Int) s.1 s.2) (body' := fun s : List Found × Int => s_ScanAll_b4 s.1 s.2) (fun s => (s.2, s.1)) (fun s => swap_round s.2 s.1) (j, m)]
          cases loopO (fun s : Int × List Found => sort_insertionSort_func_b2 (ltk i_ScanAll_1) ((0 : Nat) : Int) s.1 s.2) (j, m) <;> rfl
      · rintro ⟨j, m⟩ s' hm hb
        simp only [sort_insertionSort_func_b1] at hb
        cases hc : decide (j < (X.length : Int)) with
        | false => rw [hc, cond_false] at hb; cases hb
        | true =>
          rw [hc, cond_true] at hb
          obtain ⟨m', h1, hb⟩ := Option.bind_eq_some_iff.1 hb
          injection hb with hb
          injection hb with hb
          subst hb
          exact (ins_len h1).trans hm
    rw [hc]
    exact h8
  · unfold i_ScanAll
    rw [h2, Option.bind_some, h5]
    rfl
  · rw [← h7.len]; exact h3
  · exact fun y hy => h4 y ((h7.mem).1 hy)
end Go.TI
namespace Go.TI
open Go
set_option linter.unusedSimpArgs false
set_option linter.unusedVariables false
theorem Weighs.two {α β γ : Type} {z1 : β → Nat} {z2 : γ → Nat} {g1 : β → Int → Option Int} {g2 : γ → Int → Option Int} {f : α → Int → Option Int} {x : α} {y1 : β} {y2 : γ} {z : α → Nat} (h1 : Weighs z1 g1 y1) (h2 : Weighs z2 g2 y2) (hz : z x = z1 y1 + z2 y2)
    (hf : ∀ left, f x left = (g1 y1 left).bind fun v => bif decide (v < 0) then some (-1) else ((g2 y2 v).bind fun w => bif decide (w < 0) then some (-1) else some w)) : Weighs z f x := by
  intro left h0 hm
  obtain ⟨v, k1, k2⟩ := h1 left h0 hm
  rw [hf, k1, Option.bind_some, hz]
  split at k2
  · rename_i hc
    rw [decide_eq_false (by omega), cond_false]
    obtain ⟨w, k3, k4⟩ := h2 v (by omega) (by omega)
    rw [k3, Option.bind_some]
    split at k4
    · rename_i hd
      rw [decide_eq_false (by omega), cond_false]
      exact ⟨_, rfl, by rw [if_pos (by omega)]; omega⟩
    · rename_i hd
      rw [decide_eq_true k4, cond_true]
      exact ⟨_, rfl, by rw [if_neg (by omega)]; omega⟩
  · rename_i hc
    rw [decide_eq_true k2, cond_true]
    exact ⟨_, rfl, by rw [if_neg (by omega)]; omega⟩
theorem Weighs.flat {α : Type} {l : List α} {f : List α → Int → Option Int} (hl : l.length ≤ 9223372036854775807) (hf : ∀ left, f l left = bif decide (sb left (ln l) < 0) then some (-1) else some (sb left (ln l))) : Weighs List.length f l := by
  intro left h0 hm
  rw [hf, sb_eq (by rw [ln_eq]; omega) (by rw [ln_eq]; omega), ln_eq]
  by_cases hc : (l.length : Int) ≤ left
  · rw [decide_eq_false (by omega), cond_false]
    exact ⟨_, rfl, by rw [if_pos hc]⟩
  · rw [decide_eq_true (by omega), cond_true]
    exact ⟨_, rfl, by rw [if_neg hc]; omega⟩
def zKnot (x : Knot) : Nat := x.Kids.length
def zArena (x : Arena) : Nat := zl zKnot x.Knots
def zStore (x : Store) : Nat := x.Vols.length + zArena x.Arena
def zDevice (x : Device) : Nat := zFlash x.Flash + zStore x.Store
theorem szKnot_eq (x : Knot) (h : oKnot x) : Weighs zKnot w_szKnot x := Weighs.wrap (z := List.length) (g := w_szIntS) (Weighs.flat h.2.1 (fun _ => rfl)) rfl (fun _ => rfl)
theorem szKnotS_eq (l : List Knot) (h : ol oKnot l) : Weighs (zl zKnot) w_szKnotS l :=
  Weighs.list (sz_listF zKnot w_szKnot l h.1 (fun x hx => szKnot_eq x (h.2 x hx)) (fun _ _ => rfl) (fun _ => rfl))
theorem szArena_eq (x : Arena) (h : oArena x) : Weighs zArena w_szArena x := Weighs.wrap (szKnotS_eq x.Knots h) rfl (fun _ => rfl)
theorem szStore_eq (x : Store) (h : oStore x) : Weighs zStore w_szStore x := Weighs.two (z1 := List.length) (g1 := w_szVolS) (Weighs.flat h.1.1 (fun _ => rfl)) (szArena_eq x.Arena h.2.1) rfl (fun _ => rfl)
theorem szDevice_eq (x : Device) (h : oDevice x) : Weighs zDevice w_szDevice x := Weighs.two (szFlash_eq x.Flash h.1) (szStore_eq x.Store h.2.1) rfl (fun _ => rfl)
theorem toVolS_eq (l : List Vol) (h : l.length ≤ 1048576) : w_toVolS l = some l := to_listF w_toVol l (by omega) (by omega) (fun _ _ => rfl) (fun _ _ => rfl) rfl
theorem toIntS_eq (l : List Int) (h : l.length ≤ 1048576) : w_toIntS l = some l := to_listF (fun x => some x) l (by omega) (by omega) (fun _ _ => rfl) (fun _ _ => rfl) rfl
theorem toKnot_eq (x : Knot) (h : zKnot x ≤ 1048576) : w_toKnot x = some x := by
  unfold w_toKnot
  rw [toIntS_eq _ h]
  rfl
theorem toKnotS_eq (l : List Knot) (h : zl zKnot l ≤ 1048576) : w_toKnotS l = some l := by
  have := zl_len (z := zKnot) (l := l)
  exact to_listF w_toKnot l (by omega) (by omega) (fun x hx => toKnot_eq x (by have := zl_mem (z := zKnot) hx; omega)) (fun _ _ => rfl) rfl
theorem toArena_eq (x : Arena) (h : zArena x ≤ 1048576) : w_toArena x = some x := by
  unfold w_toArena
  rw [toKnotS_eq _ h]
  rfl
theorem toStore_eq (x : Store) (h : zStore x ≤ 1048576) : w_toStore x = some x := by
  unfold zStore at h
  unfold w_toStore
  rw [toVolS_eq _ (by omega), Option.bind_some, toArena_eq _ (by omega)]
  rfl
theorem toDevice_eq (x : Device) (h : zDevice x ≤ 1048576) : w_toDevice x = some x := by
  unfold zDevice at h
  unfold w_toDevice
  rw [toFlash_eq _ (by omega), Option.bind_some, toStore_eq _ (by omega)]
  rfl
theorem eqVol_eq (a b : Vol) : Tells (w_eqVol a b) a b := by
  cases a with
  | mk a1 a2 =>
  cases b with
  | mk b1 b2 =>
  have : Says (w_eqVol (Vol.mk a1 a2) (Vol.mk b1 b2)) (a1 = b1 ∧ a2 = b2 ∧ True) := says_and (by simp) (says_and (by simp) says_true)
  simpa only [Tells, Says, Vol.mk.injEq, and_true] using this
theorem eqVolS_eq (a b : List Vol) (h : a.length ≤ 1048576) : Tells (w_eqVolS a b) a b :=
  eq_listF w_eqVol a b (by omega) (fun x _ y _ => eqVol_eq x y) (fun _ => rfl) rfl
theorem eqIntS_eq (a b : List Int) (h : a.length ≤ 1048576) : Tells (w_eqIntS a b) a b :=
  eq_listF (fun x y => some (!(x != y))) a b (by omega) (fun x _ y _ => ⟨_, rfl, by simp⟩) (fun i => by
    unfold w_eqIntS_b1
    cases decide (i < ln a) with
    | false => rfl
    | true =>
      simp only [cond_true]
      cases gi a i with
      | none => rfl
      | some x =>
        cases gi b i with
        | none => rfl
        | some y => simp only [Option.bind_some, Bool.not_not]) rfl
theorem eqKnot_eq (a b : Knot) (h : zKnot a ≤ 1048576) : Tells (w_eqKnot a b) a b := by
  cases a with
  | mk a1 a2 =>
  cases b with
  | mk b1 b2 =>
  have : Says (w_eqKnot (Knot.mk a1 a2) (Knot.mk b1 b2)) (a1 = b1 ∧ a2 = b2 ∧ True) := says_and (by cases a1 <;> cases b1 <;> simp) (says_bind (eqIntS_eq a2 b2 h) says_true)
  simpa only [Tells, Says, Knot.mk.injEq, and_true] using this
theorem eqKnotS_eq (a b : List Knot) (h : zl zKnot a ≤ 1048576) : Tells (w_eqKnotS a b) a b := by
  have := zl_len (z := zKnot) (l := a)
  exact eq_listF w_eqKnot a b (by omega) (fun x hx y _ => eqKnot_eq x y (by have := zl_mem (z := zKnot) hx; omega)) (fun _ => rfl) rfl
theorem eqArena_eq (a b : Arena) (h : zArena a ≤ 1048576) : Tells (w_eqArena a b) a b := by
  cases a with
  | mk a1 =>
  cases b with
  | mk b1 =>
  have : Says (w_eqArena (Arena.mk a1) (Arena.mk b1)) (a1 = b1 ∧ True) := says_bind (eqKnotS_eq a1 b1 h) says_true
  simpa only [Tells, Says, Arena.mk.injEq, and_true] using this
theorem eqStore_eq (a b : Store) (h : zStore a ≤ 1048576) : Tells (w_eqStore a b) a b := by
  cases a with
  | mk a1 a2 a3 =>
  cases b with
  | mk b1 b2 b3 =>
  unfold zStore at h
  simp only at h
  have : Says (w_eqStore (Store.mk a1 a2 a3) (Store.mk b1 b2 b3)) (a1 = b1 ∧ a2 = b2 ∧ a3 = b3 ∧ True) := says_bind (eqVolS_eq a1 b1 (by omega)) (says_bind (eqArena_eq a2 b2 (by omega)) (says_and (by simp) says_true))
  simpa only [Tells, Says, Store.mk.injEq, and_true] using this
theorem eqDevice_eq (a b : Device) (h : zDevice a ≤ 1048576) : Tells (w_eqDevice a b) a b := by
  cases a with
  | mk a1 a2 a3 a4 a5 =>
  cases b with
  | mk b1 b2 b3 b4 b5 =>
  unfold zDevice at h
  simp only at h
  have : Says (w_eqDevice (Device.mk a1 a2 a3 a4 a5) (Device.mk b1 b2 b3 b4 b5)) (a1 = b1 ∧ a2 = b2 ∧ a3 = b3 ∧ a4 = b4 ∧ a5 = b5 ∧ True) := says_bind (eqFlash_eq a1 b1 (by omega)) (says_bind (eqStore_eq a2 b2 (by omega)) (says_and (by simp) (says_and (by simp) (says_and (by simp) says_true))))
  simpa only [Tells, Says, Device.mk.injEq, and_true] using this
end Go.TI
namespace Go.TI
open Go
set_option linter.unusedSimpArgs false
set_option linter.unusedVariables false
theorem match_eq (s : ByteArray) (f a : Int) : s_l04Match s f a = loopO (fun n : Int => i_matchAt_b2 s a f n) 0 := by
  show (loopO (fun n : Int => i_matchAt_b2 s a f n) 0).bind _ = _
  cases loopO (fun n : Int => i_matchAt_b2 s a f n) 0 <;> rfl
theorem match_ex (s : ByteArray) (f a : Nat) (hf : f < a) (ha : a ≤ (L s).length) (hs : (L s).length ≤ 64) : ∃ k : Nat, loopO (fun n : Int => i_matchAt_b2 s (a : Int) (f : Int) n) 0 = some (k : Int) ∧ k ≤ 31 ∧ a + k ≤ (L s).length := by
  obtain ⟨b, h1, k, rfl, h2, h3⟩ := loop_ex (body := fun n : Int => i_matchAt_b2 s (a : Int) (f : Int) n) (fun (_ : Unit) i => i) 31 (fun i _ => a + i ≤ (L s).length) (fun b => ∃ k : Nat, b = (k : Int) ∧ k ≤ 31 ∧ a + k ≤ (L s).length)
    (fun _ i hi hs => by
      simp only [i_matchAt_b2]
      rw [decide_eq_true (by omega : (i : Int) < 31), cond_true, ad_eq (by omega) (by omega), ad_eq (by omega) (by omega), sln_eq]
      by_cases hlt : a + i < (L s).length
      · rw [decide_eq_true (by omega : ((a : Int) + (i : Int)) < ((L s).length : Int)), cond_true]
        have e1 : ((f : Int) + (i : Int)) = ((f + i : Nat) : Int) := by omega
        have e2 : ((a : Int) + (i : Int)) = ((a + i : Nat) : Int) := by omega
        rw [e1, e2, sx_nat s (by omega), sx_nat s hlt]
        simp only [Option.bind_some]
        cases ((((L s)[f + i]).toNat : Int) == (((L s)[a + i]).toNat : Int)) with
        | true =>
          simp only [cond_true]
          rw [ad1 (by omega)]
          exact .inl ⟨(), rfl, by omega⟩
        | false => exact .inr ⟨_, rfl, i, rfl, by omega, hs⟩
      · rw [decide_eq_false (by omega : ¬((a : Int) + (i : Int)) < ((L s).length : Int)), cond_false]
        exact .inr ⟨_, rfl, i, rfl, by omega, hs⟩)
    (fun _ hs => by
      simp only [i_matchAt_b2]
      rw [decide_eq_false (by omega : ¬((31 : Nat) : Int) < 31), cond_false]
      exact ⟨_, rfl, 31, rfl, by omega, hs⟩) (s := ()) (by omega)
  exact ⟨k, h1, h2, h3⟩
theorem matchAt_eq (s : ByteArray) (a : Nat) (ha : a ≤ (L s).length) (hs : (L s).length ≤ 64) : ∃ z b : Nat, i_matchAt s (a : Int) = some ((z : Int), (b : Int)) ∧ loopO (fun q : Int × Int × Int => s_TokensOf_b2 s (a : Int) q.1 q.2.1 q.2.2) (0, 0, (sb (a : Int) 1)) = some ((z : Int), (b : Int)) ∧ z ≤ 31 ∧ a + z ≤ (L s).length ∧ (z = 0 ∨ 4 ≤ z ∧ 1 ≤ b ∧ b ≤ a) := by
  have heq : (fun q : Int × Int × Int => s_TokensOf_b2 s (a : Int) q.1 q.2.1 q.2.2) = fun q : Int × Int × Int => i_matchAt_b1 s (a : Int) q.1 q.2.1 q.2.2 := by
    funext ⟨x, y, z⟩
    simp only [s_TokensOf_b2, i_matchAt_b1, match_eq]
  rw [heq, sb_eq (by omega) (by omega)]
  obtain ⟨r, h1, z, b, rfl, h2, h3, h4⟩ := loop_ex (body := fun q : Int × Int × Int => i_matchAt_b1 s (a : Int) q.1 q.2.1 q.2.2) (fun (q : Nat × Nat) i => ((q.1 : Int), (q.2 : Int), (a : Int) - 1 - i)) a (fun i q => q.1 ≤ 31 ∧ a + q.1 ≤ (L s).length ∧ (q.1 = 0 ∨ 4 ≤ q.1 ∧ 1 ≤ q.2 ∧ q.2 ≤ a)) (fun r => ∃ z b : Nat, r = ((z : Int), (b : Int)) ∧ z ≤ 31 ∧ a + z ≤ (L s).length ∧ (z = 0 ∨ 4 ≤ z ∧ 1 ≤ b ∧ b ≤ a))
    (fun q i hi hq => by
      obtain ⟨k, m1, m2, m3⟩ := match_ex s (a - 1 - i) a (by omega) ha hs
      have e1 : ((a : Int) - 1 - (i : Int)) = ((a - 1 - i : Nat) : Int) := by omega
      simp only [i_matchAt_b1, e1]
      rw [decide_eq_true (by omega : (((a - 1 - i : Nat)) : Int) ≥ 0), cond_true, m1]
      simp only [Option.bind_some]
      rw [sb_eq (by omega) (by omega), sb_eq (by omega) (by omega)]
      refine .inl ?_
      have e2 : (((a - 1 - i : Nat) : Int) - 1) = (a : Int) - 1 - ((i + 1 : Nat) : Int) := by omega
      have e3 : ((a : Int) - ((a - 1 - i : Nat) : Int)) = ((1 + i : Nat) : Int) := by omega
      rw [e2, e3]
      by_cases h4 : 4 ≤ k
      · rw [decide_eq_true (by omega : (k : Int) ≥ 4), cond_true]
        by_cases h5 : q.1 < k
        · rw [decide_eq_true (by omega : (k : Int) > (q.1 : Int))]
          exact ⟨(k, 1 + i), rfl, m2, m3, .inr ⟨h4, by omega, by omega⟩⟩
        · rw [decide_eq_false (by omega : ¬(k : Int) > (q.1 : Int))]
          exact ⟨q, rfl, hq⟩
      · rw [decide_eq_false (by omega : ¬(k : Int) ≥ 4), cond_false]
        exact ⟨q, rfl, hq⟩)
    (fun q hq => by
      simp only [i_matchAt_b1]
      rw [decide_eq_false (by omega : ¬((a : Int) - 1 - (a : Int)) ≥ 0), cond_false]
      exact ⟨_, rfl, q.1, q.2, rfl, hq⟩) (s := (0, 0)) ⟨by omega, by omega, .inl rfl⟩
  have e0 : (((0 : Nat) : Int), ((0 : Nat) : Int), (a : Int) - 1 - 0) = ((0 : Int), (0 : Int), (a : Int) - 1) := by simp
  simp only [e0] at h1
  refine ⟨z, b, ?_, h1, h2, h3, h4⟩
  unfold i_matchAt
  rw [sb_eq (by omega) (by omega), h1]
  rfl
def tokOk (t : Token) : Prop := (t.Back = 0 ∧ t.Size = 0 ∧ 1 ≤ (L t.Text).length ∧ (L t.Text).length ≤ 31) ∨ (1 ≤ t.Back ∧ t.Back ≤ 64 ∧ 4 ≤ t.Size ∧ t.Size ≤ 31 ∧ L t.Text = [])
theorem gi_app_last {α : Type} (l : List α) (x : α) : gi (l ++ [x]) (l.length : Int) = some x := by
  rw [gi_nat]
  simp
theorem si_app_last {α : Type} (l : List α) (x y : α) : si (l ++ [x]) (l.length : Int) y = l ++ [y] := by
  rw [si_nat]
  simp
theorem TokensOf_eq (s : ByteArray) (hs : (L s).length ≤ 64) : ∃ l, s_TokensOf s = some l ∧ i_TokensOf s = some l ∧ l.length ≤ 64 ∧ ∀ t ∈ l, tokOk t := by
  unfold s_TokensOf i_TokensOf
  rw [sln_eq, decide_eq_false (by omega : ¬((L s).length : Int) > 64), cond_false, cond_false]
  obtain ⟨l, h1, h2, h3, h4⟩ := loop_meas (body := fun q : List Token × Int => s_TokensOf_b1 s q.1 q.2) (body' := fun q : List Token × Int => i_TokensOf_b1 s q.1 q.2) (fun q => (L s).length - q.2.toNat)
    (fun q => ∃ a : Nat, q.2 = (a : Int) ∧ a ≤ (L s).length ∧ q.1.length ≤ a ∧ ∀ t ∈ q.1, tokOk t) (fun l => l.length ≤ 64 ∧ ∀ t ∈ l, tokOk t)
    (by
      rintro ⟨out, at_⟩ ⟨a, ha, h1, h2, h3⟩
      simp only at ha h2 h3
      subst ha
      simp only [s_TokensOf_b1, i_TokensOf_b1]
      rw [sln_eq]
      by_cases hlt : a < (L s).length
      · rw [decide_eq_true (by omega : (a : Int) < ((L s).length : Int)), cond_true, cond_true]
        obtain ⟨z, b, m1, m2, m3, m4, m5⟩ := matchAt_eq s a h1 hs
        rw [m1, m2]
        simp only [Option.bind_some]
        have hap : ∀ x : Token, ap 32 out [x] = some (out ++ [x]) := fun x => ap_eq (by simp only [List.length_singleton]; omega)
        refine .inl ?_
        by_cases hz : z = 0
        · subst hz
          rw [decide_eq_false (by omega : ¬((0 : Nat) : Int) > 0), cond_false, cond_false]
          have esub : sub s (a : Int) (ad (a : Int) 1) = some (s.extract a (a + 1)) := by rw [ad1 (by omega)]; exact sub_nat s (by omega) (by omega)
          have elen : (L (s.extract a (a + 1))).length = 1 := by rw [L_ext]; simp; omega
          rw [esub, ad1 (by omega), sb_eq (by rw [ln_eq]; omega) (by rw [ln_eq]; omega), ln_eq]
          have ecat : ∀ x : ByteArray, (L x).length ≤ 31 → cat x (s.extract a (a + 1)) = some (x ++ s.extract a (a + 1)) := fun x hx => cat_eq _ _ (by rw [elen]; omega)
          have e0 : cat (bs []) (s.extract a (a + 1)) = some (s.extract a (a + 1)) := by
            rw [ecat _ (by rw [L_bs]; simp)]
            exact congrArg some (L_inj (by rw [L_cat, L_bs]; rfl))
          have enew : tokOk (Token.mk 0 0 (s.extract a (a + 1))) := .inl ⟨rfl, rfl, by simp only; rw [elen]; omega, by simp only; rw [elen]; omega⟩
          have hmem : ∀ (o : List Token) (x : Token), (∀ t ∈ o, tokOk t) → tokOk x → ∀ t ∈ o ++ [x], tokOk t := fun o x ho hx t ht => by
            rcases List.mem_append.1 ht with ht | ht
            · exact ho t ht
            · rw [List.mem_singleton] at ht; subst ht; exact hx
          have fin : ∀ o : List Token, o.length ≤ a + 1 → (∀ t ∈ o, tokOk t) → (∃ a' : Nat, ((a + 1 : Nat) : Int) = (a' : Int) ∧ a' ≤ (L s).length ∧ o.length ≤ a' ∧ ∀ t ∈ o, tokOk t) ∧ (L s).length - (((a + 1 : Nat)) : Int).toNat < (L s).length - ((a : Int)).toNat := fun o ho1 ho2 => ⟨⟨a + 1, rfl, by omega, ho1, ho2⟩, by omega⟩
          rcases List.eq_nil_or_concat out with rfl | ⟨o, x, rfl⟩
          · simp only [List.length_nil, Int.ofNat_zero, Int.zero_sub]
            rw [decide_eq_true (by omega : (-1 : Int) < 0), decide_eq_false (by omega : ¬(-1 : Int) ≥ 0)]
            simp only [cond_true, cond_false, Option.bind_some, hap]
            rw [show ad (-1) 1 = (([] : List Token).length : Int) from rfl]
            simp only [gi_app_last, Option.bind_some, e0, si_app_last]
            exact ⟨_, rfl, rfl, fin _ (by simp) (hmem _ _ (by simp) enew)⟩
          · rw [List.concat_eq_append] at h2 h3 hap ⊢
            simp only [List.length_append, List.length_singleton] at h2 ⊢
            have ek : (((o.length + 1 : Nat) : Int) - 1) = (o.length : Int) := by omega
            rw [ek, decide_eq_false (by omega : ¬(o.length : Int) < 0), decide_eq_true (by omega : (o.length : Int) ≥ 0)]
            simp only [cond_true, cond_false, gi_app_last, Option.bind_some]
            have hx := h3 x (by simp)
            have hnew := hmem (o ++ [x]) _ h3 enew
            have elast : ad (o.length : Int) 1 = ((o ++ [x]).length : Int) := by rw [ad1 (by omega)]; simp
            rcases hx with ⟨x1, x2, x3, x4⟩ | ⟨x1, x2, x3, x4, x5⟩
            · rw [x1]
              simp only [show ((0 : Int) == 0) = true from rfl, cond_true, show decide ((0 : Int) > 0) = false from rfl, cond_false]
              rw [sln_eq]
              by_cases h31 : (L x.Text).length < 31
              · rw [decide_eq_true (by omega : ((L x.Text).length : Int) < 31), decide_eq_false (by omega : ¬((L x.Text).length : Int) ≥ 31)]
                simp only [cond_true, cond_false, Option.bind_some, gi_app_last, ecat _ x4, si_app_last]
                simp only [x1]
                refine ⟨_, rfl, rfl, fin _ (by simp; omega) (hmem _ _ (fun t ht => h3 t (by simp [ht])) (.inl ⟨rfl, x2, ?_, ?_⟩))⟩
                · simp only; rw [L_cat, List.length_append, elen]; omega
                · simp only; rw [L_cat, List.length_append, elen]; omega
              · rw [decide_eq_false (by omega : ¬((L x.Text).length : Int) < 31), decide_eq_true (by omega : ((L x.Text).length : Int) ≥ 31)]
                simp only [cond_true, cond_false, Option.bind_some, hap, elast, gi_app_last, e0, si_app_last]
                exact ⟨_, rfl, rfl, fin _ (by simp; omega) hnew⟩
            · have hb : (x.Back == 0) = false := by simp; omega
              rw [hb, decide_eq_true (by omega : x.Back > 0)]
              simp only [cond_true, cond_false, Option.bind_some, hap, elast, gi_app_last, e0, si_app_last]
              exact ⟨_, rfl, rfl, fin _ (by simp; omega) hnew⟩
        · rw [decide_eq_true (by omega : (z : Int) > 0), cond_true, cond_true, hap]
          simp only [Option.bind_some]
          rw [ad_eq (by omega) (by omega)]
          refine ⟨_, rfl, rfl, ⟨a + z, by simp, by omega, by simp; omega, ?_⟩, by simp only; omega⟩
          intro t ht
          rcases List.mem_append.1 ht with ht | ht
          · exact h3 t ht
          · rw [List.mem_singleton] at ht
            subst ht
            refine .inr ⟨?_, ?_, ?_, ?_, by simp only; rw [L_bs]⟩ <;> simp only <;> omega
      · rw [decide_eq_false (by omega : ¬(a : Int) < ((L s).length : Int)), cond_false, cond_false]
        exact .inr ⟨_, rfl, rfl, by omega, h3⟩) ((L s).length) ([], 0) (by simp) ⟨0, rfl, by omega, by simp, by simp⟩
  rw [h1, h2]
  exact ⟨l, rfl, rfl, h3, h4⟩
theorem strB_app (l m : List Int) : L (strB (l ++ m)) = L (strB l) ++ L (strB m) := by rw [L_strB, L_strB, L_strB, List.map_append]
theorem strB_len (l : List Int) : (L (strB l)).length = l.length := by rw [L_strB, List.length_map]
theorem strB_sby (b : ByteArray) : L (strB (sby b)) = L b := by
  rw [L_strB, sby, List.map_map]
  have : ((fun n : Int => UInt8.ofNat n.toNat) ∘ fun c : UInt8 => (c.toNat : Int)) = id := by
    funext c
    simp
  rw [this, List.map_id]
  rfl
theorem aps_ap (l : List Int) (b : ByteArray) : aps l b = ap 1 l (sby b) := by
  have : (sby b).length = b.size := by simp [sby]
  unfold aps ap
  rw [this, Nat.mul_one]
theorem sby_len (b : ByteArray) : (sby b).length = (L b).length := by simp [sby, L]
theorem PackText_eq (s : ByteArray) : ∃ z ok, s_PackText s = some (z, ok) ∧ i_PackText s = some (z, ok) ∧ (ok = false → z = bs []) ∧ (ok = true → (L s).length ≤ 64 ∧ ((L z)[0]? = some 122 ∨ (L z)[0]? = some 114)) := by
  unfold s_PackText i_PackText
  rw [sln_eq]
  by_cases hs : (L s).length ≤ 64
  · rw [decide_eq_false (by omega : ¬((L s).length : Int) > 64), cond_false, cond_false]
    obtain ⟨l, t1, t2, t3, t4⟩ := TokensOf_eq s hs
    rw [t1, t2]
    simp only [Option.bind_some]
    obtain ⟨z, v, h1, h2, rfl, h3, h4⟩ := loop_twoR (body := fun q : ByteArray × Int => s_PackText_b1 l q.1 q.2) (body' := fun q : List Int × Int => i_PackText_b1 l q.1 q.2) (fun v i => (strB v, i)) (fun v i => (v, i)) l.length (fun i v => v.length ≤ 1 + 33 * i ∧ (L (strB v))[0]? = some 122) (fun z v => z = strB v ∧ v.length ≤ 4000 ∧ (L (strB v))[0]? = some 122)
      (fun v i hi hv => by
        have hg : l[i]? = some l[i] := List.getElem?_eq_getElem hi
        have hv1 := hv.1
        have ht := t4 _ (List.getElem_mem hi)
        refine .inl ?_
        simp only [s_PackText_b1, i_PackText_b1, lt_ln, decide_eq_true hi, cond_true, gi_nat, hg, Option.bind_some]
        have hcat : ∀ (a : ByteArray) (m : List Int), (L a).length ≤ 4000 → m.length ≤ 2 → cat a (strB m) = some (a ++ strB m) := fun a m h1 h2 => cat_eq _ _ (by rw [strB_len]; omega)
        have h0 : ∀ m : List Int, (L (strB (v ++ m)))[0]? = some 122 := fun m => by
          rw [strB_app, List.getElem?_append_left]
          · exact hv.2
          · rcases Nat.eq_zero_or_pos (L (strB v)).length with h | h
            · have := hv.2; rw [List.eq_nil_of_length_eq_zero h] at this; cases this
            · exact h
        rcases ht with ⟨x1, x2, x3, x4⟩ | ⟨x1, x2, x3, x4, x5⟩
        · rw [x1]
          simp only [show ((0 : Int) == 0) = true from rfl, cond_true, show decide ((0 : Int) > 0) = false from rfl, cond_false]
          rw [hcat _ _ (by rw [strB_len]; omega) (by simp), ap_eq (by simp only [List.length_singleton]; omega)]
          simp only [Option.bind_some]
          rw [cat_eq _ _ (by rw [L_cat, List.length_append, strB_len, strB_len]; simp only [List.length_singleton]; omega), aps_ap, ap_eq (by rw [sby_len]; simp only [List.length_append, List.length_singleton]; omega)]
          simp only [Option.bind_some]
          rw [ad1 (by omega)]
          refine ⟨v ++ ([IntKind.u8.wrap (sln l[i].Text)] ++ sby l[i].Text), ?_, by rw [List.append_assoc], ?_, h0 _⟩
          · congr 4
            apply L_inj
            rw [L_cat, L_cat, strB_app, strB_app, strB_sby, List.append_assoc]
          · simp only [List.length_append, List.length_singleton, sby_len]; omega
        · have hb : (l[i].Back == 0) = false := by simp; omega
          rw [hb, decide_eq_true (by omega : l[i].Back > 0)]
          simp only [cond_true, cond_false]
          rw [hcat _ _ (by rw [strB_len]; omega) (by simp), ap_eq (by simp only [List.length_cons, List.length_nil]; omega)]
          simp only [Option.bind_some]
          rw [ad1 (by omega)]
          refine ⟨v ++ [IntKind.u8.wrap (ad 128 l[i].Size), IntKind.u8.wrap l[i].Back], ?_, rfl, ?_, h0 _⟩
          · congr 4
            apply L_inj
            rw [L_cat, strB_app]
          · simp only [List.length_append, List.length_cons, List.length_nil]; omega)
      (fun v hv => ⟨_, _, by simp only [s_PackText_b1, lt_ln, Nat.lt_irrefl, decide_false, cond_false], by simp only [i_PackText_b1, lt_ln, Nat.lt_irrefl, decide_false, cond_false], rfl, by have := hv.1; omega, hv.2⟩) (s := [122]) ⟨by simp, by rw [L_strB]; rfl⟩
    have e0 : (strB [122], (0 : Int)) = (bs [122], (0 : Int)) := by rw [show strB [122] = bs [122] from L_inj (by rw [L_strB, L_bs]; rfl)]
    simp only [e0] at h1
    rw [h1, h2]
    simp only [Option.bind_some]
    rw [sln_eq, strB_len, ln_eq, ad_eq (by omega) (by omega)]
    by_cases hc : ((L s).length : Int) + 1 ≤ (v.length : Int)
    · rw [decide_eq_true hc, cond_true, cat_eq _ _ (by rw [L_bs]; simp only [List.length_singleton]; omega)]
      refine ⟨_, true, rfl, rfl, by simp, fun _ => ⟨hs, .inr ?_⟩⟩
      rw [L_cat, L_bs]
      rfl
    · rw [decide_eq_false hc, cond_false]
      exact ⟨_, true, rfl, rfl, by simp, fun _ => ⟨hs, .inl h4⟩⟩
  · rw [decide_eq_true (by omega : ((L s).length : Int) > 64), cond_true, cond_true]
    exact ⟨_, false, rfl, rfl, by simp, by simp⟩
def tokIn (t : Token) : Prop := (t.Back = 0 ∧ t.Size = 0 ∧ 1 ≤ (L t.Text).length ∧ (L t.Text).length ≤ 31) ∨ (t.Back ≠ 0 ∧ 1 ≤ t.Size ∧ t.Size ≤ 31 ∧ L t.Text = [])
theorem PlainOf_same : i_PlainOf = s_PlainOf := by
  funext l
  unfold i_PlainOf s_PlainOf
  have hb : i_PlainOf_b1 l = s_PlainOf_b1 l := by
    funext out y
    unfold i_PlainOf_b1 s_PlainOf_b1
    cases decide (y < ln l) with
    | false => rfl
    | true =>
      simp only [cond_true]
      cases gi l y with
      | none => rfl
      | some t =>
        simp only [Option.bind_some, eq_in, in_eq, aps_ap]
        have h2 : (fun s : List Int × Int => i_PlainOf_b2 t s.1 s.2) = fun s : List Int × Int => s_PlainOf_b2 t s.1 s.2 := rfl
        rw [h2]
        cases t.Back == 0 with
        | false => rfl
        | true =>
          simp only [cond_true]
          cases t.Size != 0 <;> cases (decide (1 ≤ sln t.Text) && decide (sln t.Text ≤ 31)) <;> rfl
  rw [hb]
theorem PlainOf_ex (l : List Token) (hl : l.length ≤ 1048576) : ∃ p ok, s_PlainOf l = some (p, ok) ∧ (ok = true → ∀ t ∈ l, tokIn t) := by
  unfold s_PlainOf
  obtain ⟨r, h1, h2⟩ := loop_ex (body := fun q : List Int × Int => s_PlainOf_b1 l q.1 q.2) (fun (o : List Int) i => (o, i)) l.length (fun i o => o.length ≤ 64 ∧ ∀ (j : Nat) t, j < i → l[j]? = some t → tokIn t) (fun r => (∃ o, r = .inl o ∧ ∀ t ∈ l, tokIn t) ∨ r = .inr (bs [], false))
    (fun o i hi ho => by
      have hg : l[i]? = some l[i] := List.getElem?_eq_getElem hi
      obtain ⟨ho1, ho2⟩ := ho
      simp only [s_PlainOf_b1, lt_ln, decide_eq_true hi, cond_true, gi_nat, hg, Option.bind_some, in_eq]
      have bad : ∀ k : (List Int) ⊕ ((List Int × Int) ⊕ ((List Int) ⊕ ((ByteArray × Bool)))), k = .inr (.inr (.inr (bs [], false))) → ∃ b, (some k).bind (Sum.elim (fun j1 => (bif (decide ((ln j1) > 64)) then (some (.inr (.inr ((bs []), false)))) else (some (.inl (j1, (ad (i : Int) 1)))))) some) = some (.inr b) ∧ ((∃ o, b = .inl o ∧ ∀ t ∈ l, tokIn t) ∨ b = .inr (bs [], false)) := by
        rintro k rfl
        exact ⟨_, rfl, .inr rfl⟩
      have good : ∀ (o' : List Int), tokIn l[i] → (∃ s', (some (.inl o' : (List Int) ⊕ ((List Int × Int) ⊕ ((List Int) ⊕ ((ByteArray × Bool)))))).bind (Sum.elim (fun j1 => (bif (decide ((ln j1) > 64)) then (some (.inr (.inr ((bs []), false)))) else (some (.inl (j1, (ad (i : Int) 1)))))) some) = some (.inl (s', ((i + 1 : Nat) : Int))) ∧ s'.length ≤ 64 ∧ ∀ (j : Nat) t, j < i + 1 → l[j]? = some t → tokIn t) ∨ ∃ b, (some (.inl o' : (List Int) ⊕ ((List Int × Int) ⊕ ((List Int) ⊕ ((ByteArray × Bool)))))).bind (Sum.elim (fun j1 => (bif (decide ((ln j1) > 64)) then (some (.inr (.inr ((bs []), false)))) else (some (.inl (j1, (ad (i : Int) 1)))))) some) = some (.inr b) ∧ ((∃ o, b = .inl o ∧ ∀ t ∈ l, tokIn t) ∨ b = .inr (bs [], false)) := by
        intro o' ht
        simp only [Option.bind_some, Sum.elim_inl]
        by_cases h64 : o'.length ≤ 64
        · rw [decide_eq_false (by rw [ln_eq]; omega), cond_false, ad1 (by omega)]
          refine .inl ⟨o', rfl, h64, fun j t hj hjt => ?_⟩
          by_cases e : j = i
          · subst e
            rw [hg] at hjt
            injection hjt with hjt
            rw [← hjt]; exact ht
          · exact ho2 j t (by omega) hjt
        · rw [decide_eq_true (by rw [ln_eq]; omega), cond_true]
          exact .inr ⟨_, rfl, .inr rfl⟩
      by_cases hb : l[i].Back = 0
      · rw [hb]
        simp only [show ((0 : Int) == 0) = true from rfl, cond_true]
        rw [sln_eq]
        by_cases hx : (1 ≤ (L l[i].Text).length ∧ (L l[i].Text).length ≤ 31) ∧ l[i].Size = 0
        · obtain ⟨⟨hx1, hx2⟩, hx3⟩ := hx
          rw [decide_eq_true (by omega : (1 : Int) ≤ ((L l[i].Text).length : Int)), decide_eq_true (by omega : ((L l[i].Text).length : Int) ≤ 31), hx3]
          simp only [Bool.and_self, Bool.not_true, cond_false, Option.bind_some, show ((0 : Int) != 0) = false from rfl]
          rw [ap_eq (by rw [sby_len]; omega)]
          simp only [Option.bind_some]
          exact good _ (.inl ⟨hb, hx3, hx1, hx2⟩)
        · by_cases h1 : 1 ≤ (L l[i].Text).length ∧ (L l[i].Text).length ≤ 31
          · have hs : (l[i].Size != 0) = true := by simp; intro e; exact hx ⟨h1, e⟩
            rw [decide_eq_true (by omega : (1 : Int) ≤ ((L l[i].Text).length : Int)), decide_eq_true (by omega : ((L l[i].Text).length : Int) ≤ 31), hs]
            simp only [Bool.and_self, Bool.not_true, cond_false, cond_true, Option.bind_some]
            exact .inr (bad _ rfl)
          · have hd : (decide ((1 : Int) ≤ ((L l[i].Text).length : Int)) && decide (((L l[i].Text).length : Int) ≤ 31)) = false := by
              rw [Bool.and_eq_false_iff, decide_eq_false_iff_not, decide_eq_false_iff_not]; omega
            rw [hd]
            simp only [Bool.not_false, cond_true, Option.bind_some]
            exact .inr (bad _ rfl)
      · have hb' : (l[i].Back == 0) = false := by simpa using hb
        rw [hb']
        simp only [cond_false]
        rw [ln_eq, seq_L, L_bs]
        by_cases hx : (1 ≤ l[i].Back ∧ l[i].Back ≤ (o.length : Int)) ∧ (1 ≤ l[i].Size ∧ l[i].Size ≤ 31) ∧ L l[i].Text = []
        · obtain ⟨⟨y1, y2⟩, ⟨y3, y4⟩, y5⟩ := hx
          rw [decide_eq_true y1, decide_eq_true y2, decide_eq_true y3, decide_eq_true y4, decide_eq_true y5]
          simp only [Bool.and_self, Bool.not_true, cond_false, Option.bind_some]
          obtain ⟨o', q1, q2⟩ := loop_ex (body := fun q : List Int × Int => s_PlainOf_b2 l[i] q.1 q.2) (fun (o : List Int) k => (o, k)) l[i].Size.toNat (fun k u => u.length = o.length + k) (fun _ => True)
            (fun u k hk hu => by
              simp only [s_PlainOf_b2]
              rw [decide_eq_true (by omega : (k : Int) < l[i].Size), cond_true, sb_eq (by rw [ln_eq]; omega) (by rw [ln_eq]; omega), ln_eq, gi_ok (by omega) (by omega)]
              simp only [Option.bind_some]
              rw [ap_eq (by simp only [List.length_singleton]; omega), ad1 (by omega)]
              exact .inl ⟨_, rfl, by simp only [List.length_append, List.length_singleton]; omega⟩)
            (fun u hu => ⟨u, by simp only [s_PlainOf_b2]; rw [decide_eq_false (by omega), cond_false], trivial⟩) (s := o) (by omega)
          rw [q1]
          simp only [Option.bind_some]
          exact good _ (.inr ⟨hb, y3, y4, y5⟩)
        · refine .inr ?_
          cases c1 : (decide (1 ≤ l[i].Back) && decide (l[i].Back ≤ (o.length : Int))) with
          | false =>
            simp only [Bool.not_false, cond_true, Option.bind_some]
            exact bad _ rfl
          | true =>
            simp only [Bool.not_true, cond_false, Option.bind_some]
            cases c2 : (decide (1 ≤ l[i].Size) && decide (l[i].Size ≤ 31)) with
            | false =>
              simp only [Bool.not_false, cond_true, Option.bind_some]
              exact bad _ rfl
            | true =>
              simp only [Bool.not_true, cond_false, Option.bind_some]
              have c3 : decide (L l[i].Text = []) = false := by
                rw [decide_eq_false_iff_not]
                intro e
                simp only [Bool.and_eq_true, decide_eq_true_eq] at c1 c2
                exact hx ⟨c1, c2, e⟩
              rw [c3]
              simp only [Bool.not_false, cond_true]
              exact bad _ rfl)
    (fun o ho => ⟨_, by simp only [s_PlainOf_b1, lt_ln, Nat.lt_irrefl, decide_false, cond_false], .inl ⟨o, rfl, fun t ht => by
      obtain ⟨j, hj, rfl⟩ := List.getElem_of_mem ht
      exact ho.2 j _ hj (List.getElem?_eq_getElem hj)⟩⟩) (s := []) ⟨by simp, fun j t hj => by omega⟩
  rw [h1]
  rcases h2 with ⟨o, rfl, h2⟩ | rfl
  · exact ⟨_, true, rfl, fun _ => h2⟩
  · exact ⟨_, false, rfl, by simp⟩
theorem wr_byte (c : UInt8) : IntKind.i64.wrap (c.toNat : Int) = (c.toNat : Int) := wr64 (by omega) (by have := c.toNat_lt; omega)
theorem tokI_step (rem : ByteArray) (out : List Token) (h : 0 < (L rem).length) (ho : out.length ≤ 1048576) (hr : (L rem).length ≤ 1048576) :
    i_tokensIn_b1 rem out = some (if 128 ≤ (L rem)[0].toNat ∧ 2 ≤ (L rem).length then .inl (rem.extract 2 (L rem).length, out ++ [Token.mk (((L rem)[1]?.getD 0).toNat : Int) (((L rem)[0].toNat : Int) - 128) (bs [])])
      else if (L rem)[0].toNat < 128 ∧ (L rem)[0].toNat < (L rem).length then .inl (rem.extract (1 + (L rem)[0].toNat) (L rem).length, out ++ [Token.mk 0 0 (rem.extract 1 (1 + (L rem)[0].toNat))])
      else .inr (.inr ([], false))) := by
  have hlt := (L rem)[0].toNat_lt
  have hne : seq rem (bs []) = false := by
    rw [seq_L, L_bs, decide_eq_false_iff_not]
    intro e
    rw [e] at h
    simp at h
  have hap : ∀ x : Token, ap 32 out [x] = some (out ++ [x]) := fun x => ap_eq (by simp only [List.length_singleton]; omega)
  unfold i_tokensIn_b1
  rw [hne]
  have s0 : sx rem 0 = some ((L rem)[0].toNat : Int) := sx_nat rem (i := 0) h
  simp only [Bool.not_false, cond_true, s0, Option.bind_some, wr_byte, sln_eq, hap]
  have c0 : ad 1 ((L rem)[0].toNat : Int) = ((1 + (L rem)[0].toNat : Nat) : Int) := by rw [ad_eq (by omega) (by omega)]; omega
  rw [c0]
  by_cases h1 : 128 ≤ (L rem)[0].toNat
  · rw [decide_eq_true (by omega : ((L rem)[0].toNat : Int) ≥ 128), decide_eq_false (by omega : ¬((L rem)[0].toNat : Int) < 128)]
    simp only [cond_true, cond_false, Option.bind_some]
    by_cases h2 : 2 ≤ (L rem).length
    · rw [decide_eq_true (by omega : ((L rem).length : Int) ≥ 2), cond_true, if_pos ⟨h1, h2⟩]
      have s1 : sx rem 1 = some ((L rem)[1].toNat : Int) := sx_nat rem (i := 1) (by omega)
      have s2 : sub rem 2 ((L rem).length : Int) = some (rem.extract 2 (L rem).length) := sub_nat rem (i := 2) h2 (Nat.le_refl _)
      rw [s1, s2, sb_eq (by omega) (by omega)]
      simp only [Option.bind_some, wr_byte]
      rw [List.getElem?_eq_getElem (by omega : 1 < (L rem).length)]
      rfl
    · rw [decide_eq_false (by omega : ¬((L rem).length : Int) ≥ 2), cond_false, if_neg (fun e => h2 e.2), if_neg (fun e => by omega)]
  · rw [decide_eq_false (by omega : ¬((L rem)[0].toNat : Int) ≥ 128), decide_eq_true (by omega : ((L rem)[0].toNat : Int) < 128), if_neg (fun e => h1 e.1)]
    simp only [cond_true, cond_false, Option.bind_some]
    by_cases h2 : (L rem)[0].toNat < (L rem).length
    · rw [decide_eq_true (by omega : ((L rem)[0].toNat : Int) < ((L rem).length : Int)), cond_true, if_pos ⟨by omega, h2⟩]
      have s1 : sub rem 1 ((1 + (L rem)[0].toNat : Nat) : Int) = some (rem.extract 1 (1 + (L rem)[0].toNat)) := sub_nat rem (i := 1) (by omega) (by omega)
      have s2 : sub rem ((1 + (L rem)[0].toNat : Nat) : Int) ((L rem).length : Int) = some (rem.extract (1 + (L rem)[0].toNat) (L rem).length) := sub_nat rem (by omega) (Nat.le_refl _)
      rw [s1, s2]
      rfl
    · rw [decide_eq_false (by omega : ¬((L rem)[0].toNat : Int) < ((L rem).length : Int)), cond_false, if_neg (fun e => h2 e.2)]
theorem tokI_end (rem : ByteArray) (out : List Token) (h : (L rem).length = 0) : i_tokensIn_b1 rem out = some (.inr (.inl out)) := by
  have hne : seq rem (bs []) = true := by
    rw [seq_L, L_bs, decide_eq_true_eq]
    exact List.eq_nil_of_length_eq_zero h
  unfold i_tokensIn_b1
  rw [hne]
  rfl
theorem tokS_step (t : ByteArray) (out : List Token) (a : Nat) (h : a < (L t).length) (ho : out.length ≤ 1048576) (hr : (L t).length ≤ 1048576) :
    s_l04Tokens_b1 t out (a : Int) = some (if 128 < (L t)[a].toNat then (if a + 2 ≤ (L t).length then .inl (out ++ [Token.mk (((L t)[a + 1]?.getD 0).toNat : Int) (((L t)[a].toNat : Int) - 128) (bs [])], ((a + 2 : Nat) : Int)) else .inr (.inr (out, false)))
      else if a + 1 + (L t)[a].toNat ≤ (L t).length then .inl (out ++ [Token.mk 0 0 (t.extract (a + 1) (a + 1 + (L t)[a].toNat))], ((a + 1 + (L t)[a].toNat : Nat) : Int))
      else .inr (.inr (out, false))) := by
  have hlt := (L t)[a].toNat_lt
  have hap : ∀ x : Token, ap 32 out [x] = some (out ++ [x]) := fun x => ap_eq (by simp only [List.length_singleton]; omega)
  have c2 : ad (a : Int) 2 = ((a + 2 : Nat) : Int) := by rw [ad_eq (by omega) (by omega)]; omega
  have c3 : ad ((a + 1 : Nat) : Int) ((L t)[a].toNat : Int) = ((a + 1 + (L t)[a].toNat : Nat) : Int) := by rw [ad_eq (by omega) (by omega)]; omega
  unfold s_l04Tokens_b1
  rw [sln_eq, decide_eq_true (by omega : (a : Int) < ((L t).length : Int)), cond_true, sx_nat t h]
  simp only [Option.bind_some, wr_byte, hap]
  rw [c2, ad1 (by omega), c3]
  by_cases h1 : 128 < (L t)[a].toNat
  · rw [decide_eq_true (by omega : ((L t)[a].toNat : Int) > 128), cond_true, if_pos h1]
    by_cases h2 : a + 2 ≤ (L t).length
    · rw [decide_eq_false (by omega : ¬((a + 2 : Nat) : Int) > ((L t).length : Int)), cond_false, if_pos h2, sx_nat t (by omega : a + 1 < (L t).length), sb_eq (by omega) (by omega)]
      simp only [Option.bind_some, wr_byte]
      rw [List.getElem?_eq_getElem (by omega : a + 1 < (L t).length)]
      rfl
    · rw [decide_eq_true (by omega : ((a + 2 : Nat) : Int) > ((L t).length : Int)), cond_true, if_neg h2]
  · rw [decide_eq_false (by omega : ¬((L t)[a].toNat : Int) > 128), cond_false, if_neg h1]
    by_cases h2 : a + 1 + (L t)[a].toNat ≤ (L t).length
    · rw [decide_eq_false (by omega : ¬((a + 1 + (L t)[a].toNat : Nat) : Int) > ((L t).length : Int)), cond_false, if_pos h2, sub_nat t (by omega) h2]
      rfl
    · rw [decide_eq_true (by omega : ((a + 1 + (L t)[a].toNat : Nat) : Int) > ((L t).length : Int)), cond_true, if_neg h2]
theorem tokS_end (t : ByteArray) (out : List Token) (a : Nat) (h : (L t).length ≤ a) : s_l04Tokens_b1 t out (a : Int) = some (.inr (.inl out)) := by
  unfold s_l04Tokens_b1
  rw [sln_eq, decide_eq_false (by omega : ¬(a : Int) < ((L t).length : Int)), cond_false]
theorem tokI_tot (rem : ByteArray) (out : List Token) (h : out.length + (L rem).length ≤ 1048576) : ∃ r, loopO (fun q : ByteArray × List Token => i_tokensIn_b1 q.1 q.2) (rem, out) = some r ∧ ((∃ l, r = .inl l ∧ l.length ≤ 1048576 ∧ ∀ t ∈ out, t ∈ l) ∨ r = .inr ([], false)) := by
  obtain ⟨r, h1, _, h2⟩ := loop_meas (body := fun q : ByteArray × List Token => i_tokensIn_b1 q.1 q.2) (body' := fun q : ByteArray × List Token => i_tokensIn_b1 q.1 q.2) (fun q => (L q.1).length) (fun q => q.2.length + (L q.1).length ≤ 1048576 ∧ ∀ t ∈ out, t ∈ q.2) (fun r => (∃ l, r = .inl l ∧ l.length ≤ 1048576 ∧ ∀ t ∈ out, t ∈ l) ∨ r = .inr ([], false))
    (by
      rintro ⟨rem, o⟩ ⟨hl, ho⟩
      simp only at hl ho
      simp only
      rcases Nat.eq_zero_or_pos (L rem).length with h0 | h0
      · rw [tokI_end rem o h0]
        exact .inr ⟨_, rfl, rfl, .inl ⟨o, rfl, by omega, ho⟩⟩
      · rw [tokI_step rem o h0 (by omega) (by omega)]
        split
        · rename_i hc
          refine .inl ⟨_, rfl, rfl, ⟨?_, fun t ht => List.mem_append_left _ (ho t ht)⟩, ?_⟩
          · simp only [List.length_append, List.length_singleton, L_ext, List.length_take, List.length_drop]; omega
          · simp only [L_ext, List.length_take, List.length_drop]; omega
        · split
          · rename_i hc
            refine .inl ⟨_, rfl, rfl, ⟨?_, fun t ht => List.mem_append_left _ (ho t ht)⟩, ?_⟩
            · simp only [List.length_append, List.length_singleton, L_ext, List.length_take, List.length_drop]; omega
            · simp only [L_ext, List.length_take, List.length_drop]; omega
          · exact .inr ⟨_, rfl, rfl, .inr rfl⟩) _ (rem, out) (Nat.le_refl _) ⟨h, fun t ht => ht⟩
  exact ⟨r, h1, h2⟩
theorem tokS_tot (t : ByteArray) (out : List Token) (a : Nat) (ha : a ≤ (L t).length) (h : out.length ≤ a) (hr : (L t).length ≤ 1048576) : ∃ r, loopO (fun q : List Token × Int => s_l04Tokens_b1 t q.1 q.2) (out, (a : Int)) = some r ∧ ((∃ l, r = .inl l ∧ l.length ≤ 1048576 ∧ ∀ x ∈ out, x ∈ l) ∨ ∃ l, r = .inr (l, false) ∧ l.length ≤ 1048576) := by
  obtain ⟨r, h1, _, h2⟩ := loop_meas (body := fun q : List Token × Int => s_l04Tokens_b1 t q.1 q.2) (body' := fun q : List Token × Int => s_l04Tokens_b1 t q.1 q.2) (fun q => (L t).length - q.2.toNat) (fun q => ∃ a : Nat, q.2 = (a : Int) ∧ a ≤ (L t).length ∧ q.1.length ≤ a ∧ ∀ x ∈ out, x ∈ q.1) (fun r => (∃ l, r = .inl l ∧ l.length ≤ 1048576 ∧ ∀ x ∈ out, x ∈ l) ∨ ∃ l, r = .inr (l, false) ∧ l.length ≤ 1048576)
    (by
      rintro ⟨o, at_⟩ ⟨a, ha, hl, hb, ho⟩
      simp only at ha hb ho
      subst ha
      simp only
      rcases Nat.lt_or_ge a (L t).length with h0 | h0
      · rw [tokS_step t o a h0 (by omega) hr]
        split
        · split
          · refine .inl ⟨_, rfl, rfl, ⟨a + 2, rfl, by omega, by simp only [List.length_append, List.length_singleton]; omega, fun t ht => List.mem_append_left _ (ho t ht)⟩, by simp only; omega⟩
          · exact .inr ⟨_, rfl, rfl, .inr ⟨o, rfl, by omega⟩⟩
        · split
          · refine .inl ⟨_, rfl, rfl, ⟨_, rfl, by assumption, by simp only [List.length_append, List.length_singleton]; omega, fun t ht => List.mem_append_left _ (ho t ht)⟩, by simp only; omega⟩
          · exact .inr ⟨_, rfl, rfl, .inr ⟨o, rfl, by omega⟩⟩
      · rw [tokS_end t o a h0]
        exact .inr ⟨_, rfl, rfl, .inl ⟨o, rfl, by omega, ho⟩⟩) _ (out, (a : Int)) (Nat.le_refl _) ⟨a, rfl, ha, h, fun t ht => ht⟩
  exact ⟨r, h1, h2⟩
theorem tok_main (t : ByteArray) (hr : (L t).length ≤ 1048576) : ∀ (n a : Nat) (rem : ByteArray) (out : List Token), (L t).length - a ≤ n → a ≤ (L t).length → L rem = (L t).drop a → out.length ≤ a →
    ∃ ri rs, loopO (fun q : ByteArray × List Token => i_tokensIn_b1 q.1 q.2) (rem, out) = some ri ∧ loopO (fun q : List Token × Int => s_l04Tokens_b1 t q.1 q.2) (out, (a : Int)) = some rs ∧
      ((∃ l, ri = .inl l ∧ rs = .inl l ∧ l.length ≤ 1048576) ∨ ((ri = .inr ([], false) ∨ ∃ l, ri = .inl l ∧ l.length ≤ 1048576 ∧ ∃ x ∈ l, ¬tokIn x) ∧ ((∃ l, rs = .inr (l, false) ∧ l.length ≤ 1048576) ∨ ∃ l, rs = .inl l ∧ l.length ≤ 1048576 ∧ ∃ x ∈ l, ¬tokIn x))) := by
  intro n
  induction n with
  | zero =>
    intro a rem out h1 h2 h3 h4
    have ha : a = (L t).length := by omega
    have hrem : (L rem).length = 0 := by rw [h3, ha]; simp
    refine ⟨_, _, by rw [loopO_eq]; simp only [tokI_end rem out hrem], by rw [loopO_eq]; simp only [tokS_end t out a (by omega)], .inl ⟨out, rfl, rfl, by omega⟩⟩
  | succ n ih =>
    intro a rem out h1 h2 h3 h4
    rcases Nat.lt_or_ge a (L t).length with h0 | h0
    · have hrl : (L rem).length = (L t).length - a := by rw [h3]; simp
      have hpos : 0 < (L rem).length := by omega
      have hg0 : (L rem)[0] = (L t)[a] := by simp only [h3]; simp
      have hg1 : (L rem)[1]?.getD 0 = (L t)[a + 1]?.getD 0 := by rw [h3, List.getElem?_drop]
      have hstepI := tokI_step rem out hpos (by omega) (by omega)
      have hstepS := tokS_step t out a h0 (by omega) hr
      have hdrop : ∀ k, L (rem.extract k (L rem).length) = (L t).drop (a + k) := fun k => by
        rw [L_ext, h3, List.drop_drop, List.take_of_length_le]
        simp only [List.length_drop]
        omega
      rw [hg0, hg1] at hstepI
      rcases Nat.lt_trichotomy (L t)[a].toNat 128 with hc | hc | hc
      · rw [if_neg (by omega)] at hstepI
        rw [if_neg (by omega)] at hstepS
        by_cases hk : a + 1 + (L t)[a].toNat ≤ (L t).length
        · rw [if_pos (by omega)] at hstepI
          rw [if_pos hk] at hstepS
          obtain ⟨ri, rs, q1, q2, q3⟩ := ih (a + 1 + (L t)[a].toNat) (rem.extract (1 + (L t)[a].toNat) (L rem).length) (out ++ [Token.mk 0 0 (t.extract (a + 1) (a + 1 + (L t)[a].toNat))]) (by omega) hk (by rw [hdrop, Nat.add_assoc]) (by simp only [List.length_append, List.length_singleton]; omega)
          have etx : rem.extract 1 (1 + (L t)[a].toNat) = t.extract (a + 1) (a + 1 + (L t)[a].toNat) := by
            apply L_inj
            rw [L_ext, L_ext, h3, List.drop_drop]
            congr 1
            omega
          refine ⟨ri, rs, ?_, ?_, q3⟩
          · rw [loopO_eq]
            simp only [hstepI]
            rw [etx]
            exact q1
          · rw [loopO_eq]
            simp only [hstepS]
            exact q2
        · rw [if_neg (by omega)] at hstepI
          rw [if_neg hk] at hstepS
          exact ⟨_, _, by rw [loopO_eq]; simp only [hstepI], by rw [loopO_eq]; simp only [hstepS], .inr ⟨.inl rfl, .inl ⟨out, rfl, by omega⟩⟩⟩
      · -- 128: neither can be right
        have hI : ∃ ri, loopO (fun q : ByteArray × List Token => i_tokensIn_b1 q.1 q.2) (rem, out) = some ri ∧ (ri = .inr ([], false) ∨ ∃ l, ri = .inl l ∧ l.length ≤ 1048576 ∧ ∃ x ∈ l, ¬tokIn x) := by
          by_cases hk : 2 ≤ (L rem).length
          · rw [if_pos ⟨by omega, hk⟩] at hstepI
            obtain ⟨r, q1, q2⟩ := tokI_tot (rem.extract 2 (L rem).length) (out ++ [Token.mk (((L t)[a + 1]?.getD 0).toNat : Int) (((L t)[a].toNat : Int) - 128) (bs [])]) (by rw [hdrop]; simp only [List.length_append, List.length_singleton, List.length_drop]; omega)
            refine ⟨r, by rw [loopO_eq]; simp only [hstepI]; exact q1, ?_⟩
            rcases q2 with ⟨l, rfl, q3, q4⟩ | rfl
            · refine .inr ⟨l, rfl, q3, _, q4 _ (List.mem_append_right _ (List.mem_singleton.2 rfl)), ?_⟩
              intro hk
              rcases hk with ⟨_, _, k3, _⟩ | ⟨_, k2, _⟩
              · simp only [L_bs, List.length_nil] at k3; omega
              · simp only at k2; omega
            · exact .inl rfl
          · rw [if_neg (fun e => hk e.2), if_neg (by omega)] at hstepI
            exact ⟨_, by rw [loopO_eq]; simp only [hstepI], .inl rfl⟩
        have hS : ∃ rs, loopO (fun q : List Token × Int => s_l04Tokens_b1 t q.1 q.2) (out, (a : Int)) = some rs ∧ ((∃ l, rs = .inr (l, false) ∧ l.length ≤ 1048576) ∨ ∃ l, rs = .inl l ∧ l.length ≤ 1048576 ∧ ∃ x ∈ l, ¬tokIn x) := by
          rw [if_neg (by omega)] at hstepS
          by_cases hk : a + 1 + (L t)[a].toNat ≤ (L t).length
          · rw [if_pos hk] at hstepS
            obtain ⟨r, q1, q2⟩ := tokS_tot t (out ++ [Token.mk 0 0 (t.extract (a + 1) (a + 1 + (L t)[a].toNat))]) (a + 1 + (L t)[a].toNat) hk (by simp only [List.length_append, List.length_singleton]; omega) hr
            refine ⟨r, by rw [loopO_eq]; simp only [hstepS]; exact q1, ?_⟩
            rcases q2 with ⟨l, rfl, q3, q4⟩ | ⟨l, rfl, q3⟩
            · refine .inr ⟨l, rfl, q3, _, q4 _ (List.mem_append_right _ (List.mem_singleton.2 rfl)), ?_⟩
              intro hk2
              rcases hk2 with ⟨_, _, _, k4⟩ | ⟨k1, _⟩
              · simp only [L_ext, List.length_take, List.length_drop] at k4; omega
              · exact k1 rfl
            · exact .inl ⟨l, rfl, q3⟩
          · rw [if_neg hk] at hstepS
            exact ⟨_, by rw [loopO_eq]; simp only [hstepS], .inl ⟨out, rfl, by omega⟩⟩
        obtain ⟨ri, q1, q2⟩ := hI
        obtain ⟨rs, q3, q4⟩ := hS
        exact ⟨ri, rs, q1, q3, .inr ⟨q2, q4⟩⟩
      · rw [if_pos hc] at hstepS
        by_cases hk : a + 2 ≤ (L t).length
        · rw [if_pos ⟨by omega, by omega⟩] at hstepI
          rw [if_pos hk] at hstepS
          obtain ⟨ri, rs, q1, q2, q3⟩ := ih (a + 2) (rem.extract 2 (L rem).length) (out ++ [Token.mk (((L t)[a + 1]?.getD 0).toNat : Int) (((L t)[a].toNat : Int) - 128) (bs [])]) (by omega) hk (hdrop 2) (by simp only [List.length_append, List.length_singleton]; omega)
          exact ⟨ri, rs, by rw [loopO_eq]; simp only [hstepI]; exact q1, by rw [loopO_eq]; simp only [hstepS]; exact q2, q3⟩
        · rw [if_neg (by omega), if_neg (by omega)] at hstepI
          rw [if_neg hk] at hstepS
          exact ⟨_, _, by rw [loopO_eq]; simp only [hstepI], by rw [loopO_eq]; simp only [hstepS], .inr ⟨.inl rfl, .inl ⟨out, rfl, by omega⟩⟩⟩
    · have ha : a = (L t).length := by omega
      have hrem : (L rem).length = 0 := by rw [h3, ha]; simp
      refine ⟨_, _, by rw [loopO_eq]; simp only [tokI_end rem out hrem], by rw [loopO_eq]; simp only [tokS_end t out a (by omega)], .inl ⟨out, rfl, rfl, by omega⟩⟩
theorem parse_eq (t : ByteArray) (hr : (L t).length ≤ 1048576) : ∃ li oi ls os pi ki ps ks, i_tokensIn t = some (li, oi) ∧ s_l04Tokens t = some (ls, os) ∧ i_PlainOf li = some (pi, ki) ∧ s_PlainOf ls = some (ps, ks) ∧ ((oi = os ∧ pi = ps ∧ ki = ks) ∨ ((oi = false ∨ ki = false) ∧ (os = false ∨ ks = false))) := by
  obtain ⟨ri, rs, q1, q2, q3⟩ := tok_main t hr ((L t).length) 0 t [] (by omega) (by omega) (by simp) (by simp)
  have e0 : (([] : List Token), ((0 : Nat) : Int)) = ([], 0) := rfl
  simp only [e0] at q2
  unfold i_tokensIn s_l04Tokens
  rw [q1, q2, PlainOf_same]
  have none : ∀ l : List Token, l.length ≤ 1048576 → (∃ x ∈ l, ¬tokIn x) → ∃ p, s_PlainOf l = some (p, false) := by
    rintro l hl ⟨x, hx, hn⟩
    obtain ⟨p, ok, h1, h2⟩ := PlainOf_ex l hl
    cases ok with
    | false => exact ⟨p, h1⟩
    | true => exact absurd (h2 rfl x hx) hn
  rcases q3 with ⟨l, rfl, rfl, hl⟩ | ⟨hi, hs⟩
  · obtain ⟨p, ok, h1, _⟩ := PlainOf_ex l hl
    exact ⟨l, true, l, true, p, ok, p, ok, rfl, rfl, h1, h1, .inl ⟨rfl, rfl, rfl⟩⟩
  · have hI : ∃ li oi pi ki, (some ri).bind (Sum.elim (fun v1 => (some (v1, true))) some) = some (li, oi) ∧ s_PlainOf li = some (pi, ki) ∧ (oi = false ∨ ki = false) := by
      rcases hi with rfl | ⟨l, rfl, hl, hb⟩
      · obtain ⟨p, ok, h1, _⟩ := PlainOf_ex [] (by simp)
        exact ⟨[], false, p, ok, rfl, h1, .inl rfl⟩
      · obtain ⟨p, h1⟩ := none l hl hb
        exact ⟨l, true, p, false, rfl, h1, .inr rfl⟩
    have hS : ∃ li oi pi ki, (some rs).bind (Sum.elim (fun v1 => (some (v1, true))) some) = some (li, oi) ∧ s_PlainOf li = some (pi, ki) ∧ (oi = false ∨ ki = false) := by
      rcases hs with ⟨l, rfl, hl⟩ | ⟨l, rfl, hl, hb⟩
      · obtain ⟨p, ok, h1, _⟩ := PlainOf_ex l hl
        exact ⟨l, false, p, ok, rfl, h1, .inl rfl⟩
      · obtain ⟨p, h1⟩ := none l hl hb
        exact ⟨l, true, p, false, rfl, h1, .inr rfl⟩
    obtain ⟨li, oi, pi, ki, a1, a2, a3⟩ := hI
    obtain ⟨ls, os, ps, ks, b1, b2, b3⟩ := hS
    exact ⟨li, oi, ls, os, pi, ki, ps, ks, a1, b1, a2, b2, .inr ⟨a3, b3⟩⟩
theorem UnpackText_eq (t : ByteArray) (hr : (L t).length ≤ 1048576) : ∃ u ok, s_UnpackText t = some (u, ok) ∧ i_UnpackText t = some (u, ok) ∧ (ok = false → u = bs []) ∧ (ok = true → (L u).length ≤ 64) := by
  unfold s_UnpackText i_UnpackText
  rw [sln_eq, seq_L, L_bs]
  by_cases h0 : L t = []
  · rw [h0]
    exact ⟨_, false, rfl, rfl, by simp, by simp⟩
  · have hpos : 0 < (L t).length := by
      rcases Nat.eq_zero_or_pos (L t).length with h | h
      · exact absurd (List.eq_nil_of_length_eq_zero h) h0
      · exact h
    have e1 : (((L t).length : Int) == 0) = false := by simp; exact h0
    rw [e1, decide_eq_false h0, cond_false, cond_false]
    have s1 : sub t 1 ((L t).length : Int) = some (t.extract 1 (L t).length) := sub_nat t (i := 1) (by omega) (Nat.le_refl _)
    have s0 : sx t 0 = some ((L t)[0].toNat : Int) := sx_nat t (i := 0) hpos
    rw [s1, s0]
    simp only [Option.bind_some]
    generalize hx : t.extract 1 (L t).length = x
    have hxl : (L x).length ≤ 1048576 := by rw [← hx, L_ext]; simp; omega
    obtain ⟨li, oi, ls, os, pi, ki, ps, ks, a1, a2, a3, a4, a5⟩ := parse_eq x hxl
    rw [a1, a2]
    simp only [Option.bind_some]
    rw [a3, a4]
    simp only [Option.bind_some]
    -- what comes of a text that is to be packed again
    have back : ∀ j : ByteArray, ∃ u ok, ((s_PackText j).bind fun v3 => (bif (!v3.2) then (some true) else (some (!(seq v3.1 t))) : Option (Bool)).bind fun j2 => bif j2 then (some ((bs []), false)) else (some (j, true)) : Option (ByteArray × Bool)) = some (u, ok) ∧
        ((i_PackText j).bind fun v3 => (bif (!v3.2) then (some true) else (some (!(seq v3.1 t))) : Option (Bool)).bind fun j2 => bif j2 then (some ((bs []), false)) else (some (j, true)) : Option (ByteArray × Bool)) = some (u, ok) ∧ (ok = false → u = bs []) ∧ (ok = true → (L u).length ≤ 64 ∧ ((L t)[0].toNat = 122 ∨ (L t)[0].toNat = 114)) := by
      intro j
      obtain ⟨z, ok, p1, p2, p3, p4⟩ := PackText_eq j
      rw [p1, p2]
      simp only [Option.bind_some]
      cases ok with
      | false => exact ⟨_, false, rfl, rfl, by simp, by simp⟩
      | true =>
        simp only [Bool.not_true, cond_false, Option.bind_some]
        cases hz : seq z t with
        | false => exact ⟨_, false, rfl, rfl, by simp, by simp⟩
        | true =>
          have hzt : z = t := by rw [seq_eq, decide_eq_true_eq] at hz; exact hz
          obtain ⟨p5, p6⟩ := p4 rfl
          refine ⟨_, true, rfl, rfl, by simp, fun _ => ⟨p5, ?_⟩⟩
          rw [hzt, List.getElem?_eq_getElem hpos] at p6
          rcases p6 with p6 | p6
          · injection p6 with p6; left; rw [p6]; rfl
          · injection p6 with p6; right; rw [p6]; rfl
    by_cases h122 : (L t)[0].toNat = 122
    · have c1 : ((((L t)[0].toNat : Nat) : Int) == 122) = true := by simp [h122]
      have c2 : ((((L t)[0].toNat : Nat) : Int) != 114) = true := by simp [h122]
      rw [c1, c2]
      simp only [cond_true]
      rcases a5 with ⟨rfl, rfl, rfl⟩ | ⟨hi, hs⟩
      · cases oi with
        | false => exact ⟨_, false, rfl, rfl, by simp, by simp⟩
        | true =>
          cases ki with
          | false => exact ⟨_, false, rfl, rfl, by simp, by simp⟩
          | true =>
            simp only [Bool.not_true, cond_false, Option.bind_some, Sum.elim_inl]
            obtain ⟨u, ok, b1, b2, b3, b4⟩ := back pi
            exact ⟨u, ok, b1, b2, b3, fun h => (b4 h).1⟩
      · refine ⟨bs [], false, ?_, ?_, by simp, by simp⟩
        · rcases hs with rfl | rfl
          · rfl
          · cases os <;> rfl
        · rcases hi with rfl | rfl
          · rfl
          · cases oi <;> rfl
    · have c1 : ((((L t)[0].toNat : Nat) : Int) == 122) = false := by simp; omega
      rw [c1]
      simp only [cond_false, Option.bind_some, Sum.elim_inl]
      by_cases h114 : (L t)[0].toNat = 114
      · have c2 : ((((L t)[0].toNat : Nat) : Int) != 114) = false := by simp [h114]
        rw [c2]
        simp only [cond_false, Option.bind_some, Sum.elim_inl]
        obtain ⟨u, ok, b1, b2, b3, b4⟩ := back x
        exact ⟨u, ok, b1, b2, b3, fun h => (b4 h).1⟩
      · have c2 : ((((L t)[0].toNat : Nat) : Int) != 114) = true := by simp; omega
        rw [c2]
        simp only [cond_true]
        have nope : ∀ (j u : ByteArray) (ok : Bool), (ok = true → (L u).length ≤ 64 ∧ ((L t)[0].toNat = 122 ∨ (L t)[0].toNat = 114)) → ok = false := by
          intro j u ok hok
          cases ok with
          | false => rfl
          | true => rcases (hok rfl).2 with h | h <;> omega
        obtain ⟨u, ok, b1, b2, b3, b4⟩ := back x
        have k1 := nope x u ok b4
        subst k1
        have k2 := b3 rfl
        subst k2
        refine ⟨bs [], false, b1, ?_, by simp, by simp⟩
        cases oi with
        | false => rfl
        | true =>
          cases ki with
          | false => rfl
          | true =>
            simp only [Bool.not_true, cond_false, Option.bind_some, Sum.elim_inl]
            obtain ⟨u, ok, d1, d2, d3, d4⟩ := back pi
            have k1 := nope pi u ok d4
            subst k1
            have k2 := d3 rfl
            subst k2
            exact d2
end Go.TI
namespace Go.TI
open Go
set_option linter.unusedSimpArgs false
set_option linter.unusedVariables false
def capA (a : Arena) : Prop := a.Knots.length ≤ 1048576
theorem in_ok (x a b : Int) : s_l01In x a b = some (decide (a ≤ x ∧ x ≤ b)) := by
  rw [in_eq]
  congr 1
  rw [Bool.eq_iff_iff]
  simp
theorem ArenaOk_same (a : Arena) : i_ArenaOk a = s_ArenaOk a := by
  unfold i_ArenaOk s_ArenaOk
  have hb : i_ArenaOk_b1 a = s_ArenaOk_b1 a := by
    funext y
    unfold i_ArenaOk_b1 s_ArenaOk_b1
    cases decide (y < ln a.Knots) with
    | false => rfl
    | true =>
      simp only [cond_true]
      cases gi a.Knots y with
      | none => rfl
      | some k =>
        simp only [Option.bind_some]
        cases h : (ln k.Kids != 4) with
        | true => rfl
        | false =>
          simp only [cond_false]
          have h4 : ln k.Kids = 4 := by simpa using h
          have : (fun s : Int => i_ArenaOk_b2 a y k s) = fun s : Int => s_ArenaOk_b2 a y k s := by
            funext s
            unfold i_ArenaOk_b2 s_ArenaOk_b2
            rw [h4, eq_in]
          rw [this]
  rw [hb]
def kidOk (a : Arena) (i : Nat) (k : Knot) (n : Int) : Prop := if k.Leaf = true then 0 ≤ n else n = -1 ∨ (0 ≤ n ∧ n < i ∧ ∃ k', gi a.Knots n = some k' ∧ k'.Leaf = true)
theorem ArenaOk_ex (a : Arena) (ha : capA a) : ∃ v, s_ArenaOk a = some v ∧ (v = true → ∀ (i : Nat) k, a.Knots[i]? = some k → k.Kids.length = 4 ∧ ∀ n ∈ k.Kids, kidOk a i k n) := by
  unfold capA at ha
  unfold s_ArenaOk
  obtain ⟨r, h1, h2⟩ := loop_ex (body := fun s : Int => s_ArenaOk_b1 a s) (fun (_ : Unit) i => i) a.Knots.length (fun i _ => ∀ (j : Nat) k, j < i → a.Knots[j]? = some k → k.Kids.length = 4 ∧ ∀ n ∈ k.Kids, kidOk a j k n) (fun r => r = .inr false ∨ r = .inl () ∧ ∀ (i : Nat) k, a.Knots[i]? = some k → k.Kids.length = 4 ∧ ∀ n ∈ k.Kids, kidOk a i k n)
    (fun _ i hi hs => by
      obtain ⟨k, hk⟩ : ∃ k, a.Knots[i]? = some k := ⟨_, List.getElem?_eq_getElem hi⟩
      simp only [s_ArenaOk_b1, lt_ln, decide_eq_true hi, cond_true, gi_nat, hk, Option.bind_some]
      by_cases h4 : k.Kids.length = 4
      · have e1 : (ln k.Kids != 4) = false := by simp [ln, h4]
        simp only [e1, cond_false]
        obtain ⟨r, q1, q2⟩ := loop_ex (body := fun s : Int => s_ArenaOk_b2 a (i : Int) k s) (fun (_ : Unit) j => j) 4 (fun j _ => ∀ (m : Nat) n, m < j → k.Kids[m]? = some n → kidOk a i k n) (fun r => r = .inr (.inr (.inr false)) ∨ r = .inl () ∧ ∀ n ∈ k.Kids, kidOk a i k n)
          (fun _ j hj hk2 => by
            obtain ⟨n, hn⟩ : ∃ n, k.Kids[j]? = some n := ⟨_, List.getElem?_eq_getElem (by omega)⟩
            simp only [s_ArenaOk_b2]
            rw [decide_eq_true (by omega : (j : Int) < 4), cond_true, gi_nat, hn]
            simp only [Option.bind_some]
            have good : kidOk a i k n → (∃ s' : Unit, (bif false then (some (.inr (.inr (.inr (.inr false))))) else (some (.inl (ad (j : Int) 1))) : Option ((Int) ⊕ ((Unit) ⊕ ((Int) ⊕ ((Unit) ⊕ (Bool)))))) = some (.inl ((j + 1 : Nat) : Int)) ∧ ∀ (m : Nat) n, m < j + 1 → k.Kids[m]? = some n → kidOk a i k n) := fun hok => by
              refine ⟨(), by rw [cond_false, ad1 (by omega)], fun m n' hm hmn => ?_⟩
              by_cases e : m = j
              · subst e
                rw [hn] at hmn
                injection hmn with hmn
                rw [← hmn]; exact hok
              · exact hk2 m n' (by omega) hmn
            cases hl : k.Leaf with
            | true =>
              simp only [cond_true, Bool.not_true, cond_false]
              by_cases h0 : n < 0
              · rw [decide_eq_true h0, cond_true]
                exact .inr ⟨_, rfl, .inl rfl⟩
              · rw [decide_eq_false h0, cond_false]
                simp only [Option.bind_some]
                exact .inl (good (by unfold kidOk; rw [if_pos hl]; omega))
            | false =>
              simp only [cond_false, Bool.not_false, cond_true]
              by_cases h1 : n = -1
              · have : (n != -1) = false := by simp [h1]
                rw [this]
                simp only [cond_false, Option.bind_some]
                exact .inl (good (by unfold kidOk; rw [if_neg (by rw [hl]; simp)]; exact .inl h1))
              · have : (n != -1) = true := by simp [h1]
                rw [this]
                simp only [cond_true]
                rw [sb_eq (by omega) (by omega), in_ok]
                simp only [Option.bind_some]
                by_cases h2 : 0 ≤ n ∧ n ≤ (i : Int) - 1
                · rw [decide_eq_true h2]
                  simp only [Bool.not_true, cond_false]
                  rw [gi_ok h2.1 (by omega)]
                  simp only [Option.bind_some]
                  cases hl2 : (a.Knots[n.toNat]'(by omega)).Leaf with
                  | true =>
                    simp only [Bool.not_true]
                    refine .inl (good ?_)
                    unfold kidOk
                    rw [if_neg (by rw [hl]; simp)]
                    exact .inr ⟨h2.1, by omega, _, gi_ok h2.1 (by omega), hl2⟩
                  | false =>
                    simp only [Bool.not_false, cond_true]
                    exact .inr ⟨_, rfl, .inl rfl⟩
                · rw [decide_eq_false h2]
                  simp only [Bool.not_false, cond_true, Option.bind_some]
                  exact .inr ⟨_, rfl, .inl rfl⟩)
          (fun _ hk2 => ⟨_, by simp only [s_ArenaOk_b2]; rw [decide_eq_false (by omega : ¬((4 : Nat) : Int) < 4), cond_false], .inr ⟨rfl, fun n hn => by
            obtain ⟨m, hm, rfl⟩ := List.getElem_of_mem hn
            exact hk2 m _ (by omega) (List.getElem?_eq_getElem hm)⟩⟩) (s := ()) (fun m n hm => by omega)
        have q1' : loopO (fun s : Int => s_ArenaOk_b2 a (i : Int) k s) 0 = some r := q1
        rw [q1']
        rcases q2 with rfl | ⟨rfl, q2⟩
        · exact .inr ⟨_, rfl, .inl rfl⟩
        · simp only [Option.bind_some, Sum.elim_inl]
          rw [ad1 (by omega)]
          refine .inl ⟨(), rfl, fun j k' hj hjk => ?_⟩
          by_cases e : j = i
          · subst e
            rw [hk] at hjk
            injection hjk with hjk
            rw [← hjk]; exact ⟨h4, q2⟩
          · exact hs j k' (by omega) hjk
      · have e1 : (ln k.Kids != 4) = true := by simp [ln]; omega
        simp only [e1, cond_true]
        exact .inr ⟨_, rfl, .inl rfl⟩)
    (fun _ hs => ⟨_, by simp only [s_ArenaOk_b1, lt_ln, Nat.lt_irrefl, decide_false, cond_false], .inr ⟨rfl, fun i k hk => hs i k (List.getElem?_eq_some_iff.1 hk).1 hk⟩⟩) (s := ()) (fun j k hj => by omega)
  have h1' : loopO (fun s : Int => s_ArenaOk_b1 a s) 0 = some r := h1
  rw [h1']
  rcases h2 with rfl | ⟨rfl, h2⟩
  · exact ⟨_, rfl, by simp⟩
  · exact ⟨_, rfl, fun _ => h2⟩
theorem GetAt_eq (a : Arena) (ha : capA a) (root : Int) (s : Nat) (hs : s < 16) : ∃ v, s_GetAt a root (s : Int) = some v ∧ i_GetAt a root (s : Int) = some v := by
  have hcap : a.Knots.length ≤ 1048576 := ha
  obtain ⟨ok, h1, h2⟩ := ArenaOk_ex a ha
  unfold s_GetAt i_GetAt
  rw [ArenaOk_same, h1, eq_in]
  simp only [Option.bind_some, in_ok]
  rw [decide_eq_true (by omega : (0 : Int) ≤ (s : Int) ∧ (s : Int) ≤ 15)]
  simp only [Bool.not_true, cond_false, Option.bind_some]
  -- is it a root?
  have hroot : ∃ b, i_isRoot a root = some b ∧ s_l11Root a root = some (b || root == -1) ∧ (b = true → 0 ≤ root ∧ ∃ k, gi a.Knots root = some k ∧ k.Leaf = false) := by
    unfold i_isRoot s_l11Root
    rw [eq_in, sb_eq (by rw [ln_eq]; omega) (by rw [ln_eq]; omega), ln_eq, in_ok]
    simp only [Option.bind_some]
    by_cases hr : 0 ≤ root ∧ root ≤ (a.Knots.length : Int) - 1
    · have e1 : (root == -1) = false := by simp; omega
      rw [decide_eq_true hr, e1]
      simp only [cond_true, cond_false, Bool.or_false]
      rw [gi_ok hr.1 (by omega)]
      exact ⟨_, rfl, rfl, fun hb => ⟨hr.1, _, rfl, by simpa using hb⟩⟩
    · rw [decide_eq_false hr]
      simp only [cond_false]
      refine ⟨false, rfl, ?_, by simp⟩
      cases root == -1 <;> rfl
  obtain ⟨b, r1, r2, r3⟩ := hroot
  rw [r1, r2]
  simp only [Option.bind_some]
  cases ok with
  | false =>
    simp only [Bool.not_false, cond_true, Option.bind_some]
    cases b <;> exact ⟨0, rfl, rfl⟩
  | true =>
    simp only [Bool.not_true, cond_false]
    cases b with
    | false =>
      simp only [Bool.false_or, Bool.not_false, cond_true, Option.bind_some]
      cases hm : (root == -1) with
      | false => exact ⟨0, rfl, rfl⟩
      | true =>
        have hr : root = -1 := by simpa using hm
        simp only [Bool.not_true, cond_false, Option.bind_some, s_l11Get, hr]
        rw [decide_eq_true (by omega : (-1 : Int) < 0)]
        exact ⟨0, rfl, rfl⟩
    | true =>
      obtain ⟨hr, k, hk, hl⟩ := r3 rfl
      simp only [Bool.true_or, Bool.not_true, cond_false, Option.bind_some, s_l11Get, i_numberAt, hk]
      rw [decide_eq_false (by omega : ¬root < 0), cond_false]
      obtain ⟨g1, g2⟩ := gi_eq_some hk
      obtain ⟨k4, kk⟩ := h2 rfl root.toNat k g2
      have eq4 : qu (s : Int) 4 = ((s / 4 : Nat) : Int) := by
        unfold qu
        rw [show Int.tdiv (s : Int) 4 = ((s / 4 : Nat) : Int) from rfl, wr64 (by omega) (by omega)]
      have em : Int.tmod (s : Int) 4 = ((s % 4 : Nat) : Int) := rfl
      rw [eq4, em, gi_ok (by omega) (by omega)]
      simp only [Option.bind_some, Int.toNat_natCast]
      have hmem : k.Kids[s / 4]'(by omega) ∈ k.Kids := List.getElem_mem _
      have hkid := kk _ hmem
      unfold kidOk at hkid
      rw [if_neg (by rw [hl]; simp)] at hkid
      rcases hkid with hkid | ⟨c1, c2, k', c3, c4⟩
      · rw [hkid, decide_eq_true (by omega : (-1 : Int) < 0)]
        exact ⟨0, rfl, rfl⟩
      · rw [decide_eq_false (by omega), cond_false, c3]
        simp only [Option.bind_some]
        obtain ⟨g3, g4⟩ := gi_eq_some c3
        obtain ⟨k4', _⟩ := h2 rfl _ k' g4
        rw [gi_ok (by omega) (by omega)]
        exact ⟨_, rfl, rfl⟩
theorem AllAt_eq (a : Arena) (ha : capA a) (root : Int) : ∃ l, s_AllAt a root = some l ∧ i_AllAt a root = some l ∧ l.length = 16 := by
  unfold s_AllAt i_AllAt
  obtain ⟨l, h1, h2, h3⟩ := loop_two (body := fun s : List Int × Int => s_AllAt_b1 a root s.1 s.2) (body' := fun s : List Int × Int => i_AllAt_b1 a root s.1 s.2) (fun (o : List Int) i => (o, i)) (fun (o : List Int) i => (o, i)) 16 (fun i o => o.length = i) (fun o => o.length = 16)
    (fun o i hi ho => by
      obtain ⟨v, g1, g2⟩ := GetAt_eq a ha root i hi
      simp only [s_AllAt_b1, i_AllAt_b1]
      rw [decide_eq_true (by omega : (i : Int) < 16), cond_true, cond_true, g1, g2]
      simp only [Option.bind_some]
      rw [ap_eq (by simp only [List.length_singleton]; omega), ad1 (by omega)]
      exact .inl ⟨_, rfl, rfl, by simp only [List.length_append, List.length_singleton]; omega⟩)
    (fun o ho => ⟨o, by simp only [s_AllAt_b1]; rw [decide_eq_false (by omega : ¬((16 : Nat) : Int) < 16), cond_false], by simp only [i_AllAt_b1]; rw [decide_eq_false (by omega : ¬((16 : Nat) : Int) < 16), cond_false], ho⟩) (s := []) rfl
  rw [h1, h2]
  exact ⟨l, rfl, rfl, h3⟩
theorem volAt_ex (s : Store) (id : Int) (hs : s.Vols.length ≤ 1048576) : ∃ v : Int, s_l12At s id = some v ∧ i_volAt s id = some v ∧ (v < 0 ∨ 0 ≤ v ∧ v < s.Vols.length) := by
  have e : i_volAt s id = s_l12At s id := rfl
  rw [e]
  unfold s_l12At
  obtain ⟨r, h1, h2⟩ := loop_ex (body := fun q : Int => s_l12At_b1 s id q) (fun (_ : Unit) i => i) s.Vols.length (fun _ _ => True) (fun r => r = .inl () ∨ ∃ v : Int, r = .inr v ∧ 0 ≤ v ∧ v < s.Vols.length)
    (fun _ i hi _ => by
      have hg : s.Vols[i]? = some s.Vols[i] := List.getElem?_eq_getElem hi
      simp only [s_l12At_b1, lt_ln, decide_eq_true hi, cond_true, gi_nat, hg, Option.bind_some]
      cases s.Vols[i].Id == id with
      | true => exact .inr ⟨_, rfl, .inr ⟨_, rfl, by omega, by omega⟩⟩
      | false =>
        simp only [cond_false]
        rw [ad1 (by omega)]
        exact .inl ⟨(), rfl, trivial⟩)
    (fun _ _ => ⟨_, by simp only [s_l12At_b1, lt_ln, Nat.lt_irrefl, decide_false, cond_false], .inl rfl⟩) (s := ()) trivial
  have h1' : loopO (fun q : Int => s_l12At_b1 s id q) 0 = some r := h1
  rw [h1']
  rcases h2 with rfl | ⟨v, rfl, h2⟩
  · exact ⟨-1, rfl, rfl, .inl (by omega)⟩
  · exact ⟨v, rfl, rfl, .inr h2⟩
def found0 : Found := Found.mk 0 0 (Page.mk 0 0 0 0 0 (bs []))
def isOf (c : Int) (y : Found) : Bool := y.Page.Kind == 1 && y.Page.Tx == c
def fdAt (r : List Found) (o : Option Nat) : Found := match o with
  | some j => r[j]?.getD found0
  | none => found0
def lastP (c : Int) (r : List Found) (n : Nat) (o : Option Nat) : Prop := match o with
  | none => ∀ (k : Nat) y, k < n → r[k]? = some y → isOf c y = false
  | some j => j < n ∧ (∃ y, r[j]? = some y ∧ isOf c y = true) ∧ ∀ (k : Nat) y, j < k → k < n → r[k]? = some y → isOf c y = false
theorem lastP_one {c : Int} {r : List Found} {o o' : Option Nat} (h : lastP c r r.length o) (h' : lastP c r r.length o') : o = o' := by
  cases o with
  | none =>
    cases o' with
    | none => rfl
    | some j =>
      obtain ⟨h1, ⟨y, h2, h3⟩, _⟩ := h'
      rw [h j y h1 h2] at h3
      cases h3
  | some j =>
    obtain ⟨h1, ⟨y, h2, h3⟩, h4⟩ := h
    cases o' with
    | none =>
      rw [h' j y h1 h2] at h3
      cases h3
    | some i =>
      obtain ⟨k1, ⟨z, k2, k3⟩, k4⟩ := h'
      rcases Nat.lt_trichotomy i j with e | e | e
      · rw [k4 j y e h1 h2] at h3; cases h3
      · rw [e]
      · rw [h4 i z e k1 k2] at k3; cases k3
theorem newest_ex (r : List Found) (hr : r.length ≤ 1048576) (c : Int) : ∃ o, s_l13Newest r c = some (fdAt r o, o.isSome) ∧ lastP c r r.length o := by
  unfold s_l13Newest
  rw [sb_eq (by rw [ln_eq]; omega) (by rw [ln_eq]; omega), ln_eq]
  obtain ⟨b, h1, h2⟩ := loop_ex (body := fun s : Int => s_l13Newest_b1 r c s) (fun (_ : Unit) i => (r.length : Int) - 1 - i) r.length (fun i _ => ∀ (k : Nat) y, r.length - i ≤ k → k < r.length → r[k]? = some y → isOf c y = false) (fun b => (b = .inl () ∧ lastP c r r.length none) ∨ ∃ j, b = .inr (fdAt r (some j), true) ∧ lastP c r r.length (some j))
    (fun _ i hi hs => by
      have e1 : ((r.length : Int) - 1 - (i : Int)) = ((r.length - 1 - i : Nat) : Int) := by omega
      have hlt : r.length - 1 - i < r.length := by omega
      have hg : r[r.length - 1 - i]? = some r[r.length - 1 - i] := List.getElem?_eq_getElem hlt
      simp only [s_l13Newest_b1, e1]
      rw [decide_eq_true (by omega : ((r.length - 1 - i : Nat) : Int) ≥ 0), cond_true]
      simp only [gi_nat, hg, Option.bind_some]
      have next : isOf c r[r.length - 1 - i] = false → ∃ s' : Unit, (some (.inl (sb ((r.length - 1 - i : Nat) : Int) 1)) : Option ((Int) ⊕ ((Unit) ⊕ ((Found × Bool))))) = some (.inl ((r.length : Int) - 1 - ((i + 1 : Nat) : Int))) ∧ ∀ (k : Nat) y, r.length - (i + 1) ≤ k → k < r.length → r[k]? = some y → isOf c y = false := fun hno => by
        refine ⟨(), by rw [sb_eq (by omega) (by omega)]; congr 2; omega, fun k y h1 h2 h3 => ?_⟩
        by_cases e : k = r.length - 1 - i
        · subst e
          rw [hg] at h3
          injection h3 with h3
          rw [← h3]; exact hno
        · exact hs k y (by omega) h2 h3
      cases hk : r[r.length - 1 - i].Page.Kind == 1 with
      | false =>
        simp only [cond_false, Option.bind_some]
        exact .inl (next (by unfold isOf; rw [hk]; rfl))
      | true =>
        simp only [cond_true, Option.bind_some]
        cases ht : r[r.length - 1 - i].Page.Tx == c with
        | false =>
          simp only [cond_false]
          exact .inl (next (by unfold isOf; rw [ht, Bool.and_false]))
        | true =>
          simp only [cond_true]
          refine .inr ⟨_, rfl, .inr ⟨r.length - 1 - i, ?_, hlt, ⟨_, hg, by unfold isOf; rw [hk, ht]; rfl⟩, fun k y h1 h2 h3 => hs k y (by omega) h2 h3⟩⟩
          simp only [fdAt, hg, Option.getD_some])
    (fun _ hs => ⟨_, by simp only [s_l13Newest_b1]; rw [decide_eq_false (by omega), cond_false], .inl ⟨rfl, fun k y h1 h2 => hs k y (by omega) h1 h2⟩⟩) (s := ()) (fun k y h1 h2 => by omega)
  have e0 : ((r.length : Int) - 1 - 0) = (r.length : Int) - 1 := by omega
  rw [e0] at h1
  rw [h1]
  rcases h2 with ⟨rfl, h2⟩ | ⟨j, rfl, h2⟩
  · exact ⟨none, rfl, h2⟩
  · exact ⟨some j, rfl, h2⟩
theorem srt_get {r : List Found} (h : srt i_ScanAll_1 r) {j i : Nat} {x y : Found} (hji : j < i) (hx : r[j]? = some x) (hy : r[i]? = some y) : x.Page.Seq ≤ y.Page.Seq := by
  unfold srt at h
  obtain ⟨h1, h2⟩ := List.getElem?_eq_some_iff.1 hx
  obtain ⟨h3, h4⟩ := List.getElem?_eq_some_iff.1 hy
  rw [← h2, ← h4]
  exact List.pairwise_iff_getElem.1 h j i h1 h3 hji
theorem dataOf_ex (f : Flash) (r : List Found) (hsc : i_ScanAll f = some r) (hr : r.length ≤ 1048576) (hsr : srt i_ScanAll_1 r) (c : Int) : ∃ o, i_dataOf f c = some (fdAt r o, o.isSome) ∧ lastP c r r.length o := by
  unfold i_dataOf
  rw [hsc]
  simp only [Option.bind_some]
  obtain ⟨b, h1, o, rfl, h2⟩ := loop_ex (body := fun s : Bool × Int × Int × Int × Int × Int × Int × Int × Int × ByteArray => i_dataOf_b1 c r s.1 s.2.1 s.2.2.1 s.2.2.2.1 s.2.2.2.2.1 s.2.2.2.2.2.1 s.2.2.2.2.2.2.1 s.2.2.2.2.2.2.2.1 s.2.2.2.2.2.2.2.2.1 s.2.2.2.2.2.2.2.2.2)
    (fun (o : Option Nat) i => (o.isSome, i, (fdAt r o).Block, (fdAt r o).Leaf, (fdAt r o).Page.Kind, (fdAt r o).Page.Seq, (fdAt r o).Page.Tx, (fdAt r o).Page.Part, (fdAt r o).Page.Count, (fdAt r o).Page.Text)) r.length (fun i o => lastP c r i o)
    (fun b => ∃ o, b = (o.isSome, (fdAt r o).Block, (fdAt r o).Leaf, (fdAt r o).Page.Kind, (fdAt r o).Page.Seq, (fdAt r o).Page.Tx, (fdAt r o).Page.Part, (fdAt r o).Page.Count, (fdAt r o).Page.Text) ∧ lastP c r r.length o)
    (fun o i hi ho => by
      have hg : r[i]? = some r[i] := List.getElem?_eq_getElem hi
      refine .inl ?_
      simp only [i_dataOf_b1, lt_ln, decide_eq_true hi, cond_true, gi_nat, hg, Option.bind_some]
      have keep : isOf c r[i] = false → lastP c r (i + 1) o := fun hno => by
        cases o with
        | none =>
          intro k y h1 h2
          by_cases e : k = i
          · subst e; rw [hg] at h2; injection h2 with h2; rw [← h2]; exact hno
          · exact ho k y (by omega) h2
        | some j =>
          obtain ⟨h1, h2, h3⟩ := ho
          refine ⟨by omega, h2, fun k y h4 h5 h6 => ?_⟩
          by_cases e : k = i
          · subst e; rw [hg] at h6; injection h6 with h6; rw [← h6]; exact hno
          · exact h3 k y h4 (by omega) h6
      cases hk : r[i].Page.Kind == 1 with
      | false =>
        simp only [cond_false, Option.bind_some]
        rw [ad1 (by omega)]
        exact ⟨o, rfl, keep (by unfold isOf; rw [hk]; rfl)⟩
      | true =>
        simp only [cond_true]
        cases ht : r[i].Page.Tx == c with
        | false =>
          simp only [cond_false, Option.bind_some]
          rw [ad1 (by omega)]
          exact ⟨o, rfl, keep (by unfold isOf; rw [ht, Bool.and_false])⟩
        | true =>
          simp only [cond_true]
          have hyes : isOf c r[i] = true := by unfold isOf; rw [hk, ht]; rfl
          have hnew : lastP c r (i + 1) (some i) := ⟨by omega, ⟨_, hg, hyes⟩, fun k y h1 h2 => by omega⟩
          have hfd : fdAt r (some i) = r[i] := by simp only [fdAt, hg, Option.getD_some]
          cases o with
          | none =>
            simp only [Option.isSome_none, Bool.not_false, cond_true, Option.bind_some]
            rw [ad1 (by omega)]
            exact ⟨some i, by rw [hfd]; rfl, hnew⟩
          | some j =>
            obtain ⟨h1, ⟨y, h2, h3⟩, _⟩ := ho
            have hfj : fdAt r (some j) = y := by simp only [fdAt, h2, Option.getD_some]
            have hle := srt_get hsr h1 h2 hg
            simp only [Option.isSome_some, Bool.not_true, cond_false, Option.bind_some, hfj]
            rw [decide_eq_true (by omega : r[i].Page.Seq ≥ y.Page.Seq)]
            simp only [cond_true]
            rw [ad1 (by omega)]
            exact ⟨some i, by rw [hfd]; rfl, hnew⟩)
    (fun o ho => ⟨_, by simp only [i_dataOf_b1, lt_ln, Nat.lt_irrefl, decide_false, cond_false], o, rfl, ho⟩) (s := none) (fun k y h1 => by omega)
  have h1' : loopO (fun s : Bool × Int × Int × Int × Int × Int × Int × Int × Int × ByteArray => i_dataOf_b1 c r s.1 s.2.1 s.2.2.1 s.2.2.2.1 s.2.2.2.2.1 s.2.2.2.2.2.1 s.2.2.2.2.2.2.1 s.2.2.2.2.2.2.2.1 s.2.2.2.2.2.2.2.2.1 s.2.2.2.2.2.2.2.2.2) (false, 0, 0, 0, 0, 0, 0, 0, 0, (bs [])) = _ := h1
  rw [h1']
  exact ⟨o, rfl, h2⟩
theorem page_len {f : Flash} (hT : ∀ b ∈ f.Blocks, ∀ x ∈ b.Leaves, (L x.Text).length ≤ 1048576) {y : Found} (h : isPage f y) : (L y.Page.Text).length ≤ 90 := by
  obtain ⟨b, x, h1, h2, _, h3⟩ := h
  obtain ⟨_, g1⟩ := gi_eq_some h1
  obtain ⟨_, g2⟩ := gi_eq_some h2
  obtain ⟨p, ok, k1, _, _, k2⟩ := ReadPage_eq x.Text (by have := hT b (List.mem_of_getElem? g1) x (List.mem_of_getElem? g2); omega)
  rw [h3] at k1
  injection k1 with k1
  injection k1 with k1 k3
  have hp := k2 k3.symm
  obtain ⟨v, q1, _, q2⟩ := PageOk_eq p
  rw [hp] at q1
  injection q1 with q1
  obtain ⟨_, _, _, _, _, q3⟩ := q2 q1.symm
  rw [k1]
  rw [sln_eq] at q3
  omega
structure Scan (f : Flash) (r : List Found) : Prop where
  s : s_ScanAll f = some r
  i : i_ScanAll f = some r
  len : r.length ≤ 1048576
  page : ∀ y ∈ r, isPage f y
  text : ∀ y ∈ r, (L y.Page.Text).length ≤ 90
  srt : srt i_ScanAll_1 r
theorem Scan_ex (f : Flash) (hz : zFlash f ≤ 1048576) : ∃ r, Scan f r := by
  obtain ⟨hf, hT⟩ := capF_of f hz
  have hn : nl f.Blocks ≤ 1048576 := Nat.le_trans (nl_le f) hz
  obtain ⟨r, h1, h2, h3, h4, h5⟩ := ScanAll_eq f hf hT hn
  exact ⟨r, h1, h2, by omega, h4, fun y hy => page_len hT (h4 y hy), h5⟩
theorem ChunkText_eq {f : Flash} {r : List Found} (h : Scan f r) (c : Int) : ∃ u ok, s_l13Text r c = some (u, ok) ∧ i_ChunkText f c = some (u, ok) := by
  obtain ⟨o, h1, h2⟩ := newest_ex r h.len c
  obtain ⟨o', h3, h4⟩ := dataOf_ex f r h.i h.len h.srt c
  obtain rfl := lastP_one h2 h4
  unfold s_l13Text i_ChunkText
  rw [h1, h3]
  simp only [Option.bind_some]
  cases o with
  | none => exact ⟨_, _, rfl, rfl⟩
  | some j =>
    simp only [Option.isSome_some, Bool.not_true, cond_false]
    obtain ⟨_, ⟨y, k1, _⟩, _⟩ := h2
    have hfd : fdAt r (some j) = y := by simp only [fdAt, k1, Option.getD_some]
    obtain ⟨u, ok, p1, p2, _⟩ := UnpackText_eq y.Page.Text (by have := h.text y (List.mem_of_getElem? k1); omega)
    rw [hfd, p1, p2]
    exact ⟨_, _, rfl, rfl⟩
end Go.TI
namespace Go.TI
open Go
set_option linter.unusedSimpArgs false
set_option linter.unusedVariables false
def asc (l : List Int) : Prop := l.Pairwise fun x y => x < y
theorem asc_ext : ∀ {a b : List Int}, asc a → asc b → (∀ x, x ∈ a ↔ x ∈ b) → a = b
  | [], [], _, _, _ => rfl
  | [], y :: b, _, _, h => by have := (h y).2 List.mem_cons_self; cases this
  | x :: a, [], _, _, h => by have := (h x).1 List.mem_cons_self; cases this
  | x :: a, y :: b, ha, hb, h => by
    obtain ⟨a1, a2⟩ := List.pairwise_cons.1 ha
    obtain ⟨b1, b2⟩ := List.pairwise_cons.1 hb
    have hxy : x = y := by
      have h1 := (h x).1 List.mem_cons_self
      have h2 := (h y).2 List.mem_cons_self
      rcases List.mem_cons.1 h1 with h1 | h1
      · exact h1
      · rcases List.mem_cons.1 h2 with h2 | h2
        · exact h2.symm
        · have := a1 y h2; have := b1 x h1; omega
    subst hxy
    congr 1
    refine asc_ext a2 b2 fun z => ⟨fun hz => ?_, fun hz => ?_⟩
    · rcases List.mem_cons.1 ((h z).1 (List.mem_cons_of_mem _ hz)) with e | e
      · have := a1 z hz; omega
      · exact e
    · rcases List.mem_cons.1 ((h z).2 (List.mem_cons_of_mem _ hz)) with e | e
      · have := b1 z hz; omega
      · exact e
def ins (l : List Int) (x : Int) : List Int := l.filter (fun y => decide (y < x)) ++ (if x > 0 then [x] else []) ++ l.filter (fun y => decide (y > x))
theorem filt_loop {body : List Int × Int → Option ((List Int × Int) ⊕ (List Int))} (l : List Int) (p : Int → Bool) (o : List Int) (hM : l.length + o.length ≤ 1073741824)
    (hb : ∀ (u : List Int) (i : Nat) x, l[i]? = some x → u.length ≤ o.length + i → body (u, (i : Int)) = (bif p x then ((ap 8 u [x]).bind fun c => some (.inl (c, ad (i : Int) 1))) else some (.inl (u, ad (i : Int) 1)))) (he : ∀ u, body (u, (l.length : Int)) = some (.inr u)) : loopO body (o, 0) = some (o ++ l.filter p) := by
  obtain ⟨b, h1, rfl⟩ := loop_ex (body := body) (fun (u : List Int) i => (u, i)) l.length (fun i u => u = o ++ (l.take i).filter p) (fun u => u = o ++ l.filter p)
    (fun u i hi hu => by
      have hg : l[i]? = some l[i] := List.getElem?_eq_getElem hi
      have hlen : u.length ≤ o.length + i := by
        rw [hu, List.length_append]
        have := List.length_filter_le p (l.take i)
        simp only [List.length_take] at this
        omega
      refine .inl ?_
      rw [hb u i _ hg hlen]
      have et : l.take (i + 1) = l.take i ++ [l[i]] := by rw [List.take_succ_eq_append_getElem hi]
      cases hp : p l[i] with
      | true =>
        simp only [cond_true]
        rw [ap_eq (by simp only [List.length_singleton]; omega), ad1 (by omega)]
        refine ⟨_, rfl, ?_⟩
        rw [et, List.filter_append, hu, List.filter_cons_of_pos (by simpa using hp), List.filter_nil, List.append_assoc]
      | false =>
        simp only [cond_false]
        rw [ad1 (by omega)]
        refine ⟨_, rfl, ?_⟩
        rw [et, List.filter_append, hu, List.filter_cons_of_neg (by simp [hp]), List.filter_nil, List.append_nil])
    (fun u hu => ⟨u, he u, by rw [hu, List.take_length]⟩) (s := o) (by simp)
  exact h1
theorem ins_eq (l : List Int) (x : Int) (hl : l.length ≤ 33554432) : s_l12Insert l x = some (ins l x) := by
  unfold s_l12Insert
  rw [filt_loop (body := fun s : List Int × Int => s_l12Insert_b1 l x s.1 s.2) l (fun y => decide (y < x)) [] (by simp only [List.length_nil]; omega)
    (fun u i y hy _ => by
      have hi := (List.getElem?_eq_some_iff.1 hy).1
      simp only [s_l12Insert_b1, lt_ln, decide_eq_true hi, cond_true, gi_nat, hy, Option.bind_some])
    (fun u => by simp only [s_l12Insert_b1, lt_ln, Nat.lt_irrefl, decide_false, cond_false])]
  simp only [Option.bind_some, List.nil_append]
  have h1 := List.length_filter_le (fun y => decide (y < x)) l
  have step : ∀ o : List Int, o.length ≤ 33554433 → loopO (fun s : List Int × Int => s_l12Insert_b2 l x s.1 s.2) (o, 0) = some (o ++ l.filter (fun y => decide (y > x))) := fun o ho =>
    filt_loop (body := fun s : List Int × Int => s_l12Insert_b2 l x s.1 s.2) l (fun y => decide (y > x)) o (by omega)
      (fun u i y hy _ => by
        have hi := (List.getElem?_eq_some_iff.1 hy).1
        simp only [s_l12Insert_b2, lt_ln, decide_eq_true hi, cond_true, gi_nat, hy, Option.bind_some])
      (fun u => by simp only [s_l12Insert_b2, lt_ln, Nat.lt_irrefl, decide_false, cond_false])
  unfold ins
  by_cases hx : x > 0
  · rw [decide_eq_true hx, cond_true, ap_eq (by simp only [List.length_singleton]; omega), if_pos hx]
    simp only [Option.bind_some]
    rw [step _ (by simp only [List.length_append, List.length_singleton]; omega)]
    rfl
  · rw [decide_eq_false hx, cond_false, if_neg hx]
    simp only [Option.bind_some]
    rw [step _ (by omega), List.append_nil]
    rfl
theorem ins_mem {l : List Int} {x y : Int} (hl : ∀ z ∈ l, 0 < z) : y ∈ ins l x ↔ y ∈ l ∨ (y = x ∧ 0 < x) := by
  unfold ins
  simp only [List.mem_append, List.mem_filter, decide_eq_true_eq]
  constructor
  · rintro ((⟨h1, _⟩ | h1) | ⟨h1, _⟩)
    · exact .inl h1
    · split at h1
      · rename_i hx
        rw [List.mem_singleton] at h1
        exact .inr ⟨h1, hx⟩
      · cases h1
    · exact .inl h1
  · rintro (h1 | ⟨rfl, h2⟩)
    · rcases Int.lt_trichotomy y x with h | h | h
      · exact .inl (.inl ⟨h1, h⟩)
      · subst h
        have := hl y h1
        exact .inl (.inr (by rw [if_pos this]; exact List.mem_singleton.2 rfl))
      · exact .inr ⟨h1, h⟩
    · exact .inl (.inr (by rw [if_pos h2]; exact List.mem_singleton.2 rfl))
theorem ins_asc {l : List Int} {x : Int} (h : asc l) : asc (ins l x) := by
  unfold ins asc
  rw [List.pairwise_append, List.pairwise_append]
  refine ⟨⟨List.Pairwise.filter _ h, ?_, ?_⟩, List.Pairwise.filter _ h, ?_⟩
  · split <;> simp
  · intro a ha b hb
    split at hb
    · rw [List.mem_singleton] at hb
      subst hb
      simpa using (List.mem_filter.1 ha).2
    · cases hb
  · intro a ha b hb
    have hb2 : x < b := by simpa using (List.mem_filter.1 hb).2
    rcases List.mem_append.1 ha with ha | ha
    · have : a < x := by simpa using (List.mem_filter.1 ha).2
      omega
    · split at ha
      · rw [List.mem_singleton] at ha
        omega
      · cases ha
theorem insert_len (l : List Int) (x : Int) (h : asc l) : (ins l x).length ≤ l.length + 1 := by
  have hd : (l.filter (fun y => decide (y < x))).length + (l.filter (fun y => decide (y > x))).length ≤ l.length := by
    have e : ∀ l : List Int, (l.filter (fun y => decide (y < x))).length + (l.filter (fun y => decide (y > x))).length ≤ l.length := by
      intro l
      induction l with
      | nil => simp
      | cons z l ih =>
        simp only [List.filter_cons, List.length_cons]
        by_cases h1 : z < x
        · rw [if_pos (by simpa using h1), if_neg (by simp; omega)]
          simp only [List.length_cons]; omega
        · by_cases h2 : z > x
          · rw [if_neg (by simpa using h1), if_pos (by simpa using h2)]
            simp only [List.length_cons]; omega
          · rw [if_neg (by simpa using h1), if_neg (by simpa using h2)]
            omega
    exact e l
  unfold ins
  simp only [List.length_append]
  split <;> simp only [List.length_singleton, List.length_nil] <;> omega
noncomputable def nums (s : Store) (n : Nat) : List Int := ((s.Vols.take n).map fun v => (s_AllAt s.Arena v.Root).getD []).flatten
theorem nums_succ (s : Store) (n : Nat) (h : n < s.Vols.length) : nums s (n + 1) = nums s n ++ (s_AllAt s.Arena s.Vols[n].Root).getD [] := by
  unfold nums
  rw [List.take_succ_eq_append_getElem h, List.map_append, List.flatten_append]
  simp
theorem nums_len (s : Store) (ha : capA s.Arena) (n : Nat) (h : n ≤ s.Vols.length) : (nums s n).length = 16 * n := by
  induction n with
  | zero => simp [nums]
  | succ n ih =>
    obtain ⟨l, h1, _, h2⟩ := AllAt_eq s.Arena ha (s.Vols[n]'(by omega)).Root
    rw [nums_succ s n (by omega), List.length_append, ih (by omega), h1, Option.getD_some, h2]
    omega
def isLive (s : Store) (n : Nat) (l : List Int) : Prop := asc l ∧ ∀ x, x ∈ l ↔ x ∈ nums s n ∧ 0 < x
theorem s_LiveOf_ex (s : Store) (hv : s.Vols.length ≤ 1048576) (ha : capA s.Arena) : ∃ l, s_LiveOf s = some l ∧ isLive s s.Vols.length l ∧ l.length ≤ 16777216 := by
  unfold s_LiveOf
  obtain ⟨l, h1, h2, h3⟩ := loop_ex (body := fun q : List Int × Int => s_LiveOf_b1 s q.1 q.2) (fun (o : List Int) i => (o, i)) s.Vols.length (fun i o => isLive s i o ∧ o.length ≤ 16 * i) (fun o => isLive s s.Vols.length o ∧ o.length ≤ 16777216)
    (fun o i hi ho => by
      have hg : s.Vols[i]? = some s.Vols[i] := List.getElem?_eq_getElem hi
      obtain ⟨⟨ho1, ho2⟩, ho3⟩ := ho
      obtain ⟨a, a1, _, a2⟩ := AllAt_eq s.Arena ha s.Vols[i].Root
      refine .inl ?_
      simp only [s_LiveOf_b1, lt_ln, decide_eq_true hi, cond_true, gi_nat, hg, Option.bind_some, a1]
      obtain ⟨u, q1, ⟨q2, q3⟩, q4⟩ := loop_ex (body := fun q : List Int × Int => s_LiveOf_b2 a q.1 q.2) (fun (u : List Int) k => (u, k)) a.length (fun k u => (asc u ∧ ∀ x, x ∈ u ↔ (x ∈ nums s i ++ a.take k) ∧ 0 < x) ∧ u.length ≤ o.length + k) (fun u => (asc u ∧ ∀ x, x ∈ u ↔ (x ∈ nums s i ++ a) ∧ 0 < x) ∧ u.length ≤ o.length + a.length)
        (fun u k hk hu => by
          have hgk : a[k]? = some a[k] := List.getElem?_eq_getElem hk
          obtain ⟨⟨hu1, hu2⟩, hu3⟩ := hu
          refine .inl ?_
          simp only [s_LiveOf_b2, lt_ln, decide_eq_true hk, cond_true, gi_nat, hgk, Option.bind_some]
          rw [ins_eq u a[k] (by omega), ad1 (by omega)]
          refine ⟨_, rfl, ⟨ins_asc hu1, fun x => ?_⟩, by have := insert_len u a[k] hu1; omega⟩
          rw [ins_mem (fun z hz => ((hu2 z).1 hz).2), hu2, List.take_succ_eq_append_getElem hk]
          simp only [List.mem_append, List.mem_singleton]
          constructor
          · rintro (⟨h, h0⟩ | ⟨rfl, h0⟩)
            · exact ⟨h.imp id .inl, h0⟩
            · exact ⟨.inr (.inr rfl), h0⟩
          · rintro ⟨h | h | h, h0⟩
            · exact .inl ⟨.inl h, h0⟩
            · exact .inl ⟨.inr h, h0⟩
            · exact .inr ⟨h, by omega⟩)
        (fun u hu => ⟨u, by simp only [s_LiveOf_b2, lt_ln, Nat.lt_irrefl, decide_false, cond_false], by rw [List.take_length] at hu; exact hu⟩) (s := o) ⟨⟨ho1, fun x => by rw [ho2]; simp⟩, by omega⟩
      rw [q1]
      simp only [Option.bind_some]
      rw [ad1 (by omega)]
      refine ⟨u, rfl, ⟨q2, fun x => ?_⟩, by omega⟩
      rw [q3, nums_succ s i hi, a1, Option.getD_some])
    (fun o ho => ⟨o, by simp only [s_LiveOf_b1, lt_ln, Nat.lt_irrefl, decide_false, cond_false], ho.1, by omega⟩) (s := []) ⟨⟨List.Pairwise.nil, fun x => by simp [nums]⟩, by simp⟩
  rw [h1]
  exact ⟨l, rfl, h2, h3⟩
theorem chunksOf_eq (s : Store) (hv : s.Vols.length ≤ 1048576) (ha : capA s.Arena) : i_chunksOf s = some ((nums s s.Vols.length).filter fun x => decide (x > 0)) := by
  unfold i_chunksOf
  obtain ⟨l, h1, rfl⟩ := loop_ex (body := fun q : List Int × Int => i_chunksOf_b1 s q.1 q.2) (fun (o : List Int) i => (o, i)) s.Vols.length (fun i o => o = (nums s i).filter fun x => decide (x > 0)) (fun o => o = (nums s s.Vols.length).filter fun x => decide (x > 0))
    (fun o i hi ho => by
      have hg : s.Vols[i]? = some s.Vols[i] := List.getElem?_eq_getElem hi
      obtain ⟨a, a1, a3, a2⟩ := AllAt_eq s.Arena ha s.Vols[i].Root
      have hol : o.length ≤ 16 * i := by
        rw [ho]
        have := List.length_filter_le (fun x : Int => decide (x > 0)) (nums s i)
        rw [nums_len s ha i (by omega)] at this
        exact this
      refine .inl ?_
      simp only [i_chunksOf_b1, lt_ln, decide_eq_true hi, cond_true, gi_nat, hg, Option.bind_some, a3]
      rw [filt_loop (body := fun q : List Int × Int => i_chunksOf_b2 a q.1 q.2) a (fun x => decide (x > 0)) o (by omega)
        (fun u k y hy _ => by
          have hk := (List.getElem?_eq_some_iff.1 hy).1
          simp only [i_chunksOf_b2, lt_ln, decide_eq_true hk, cond_true, gi_nat, hy, Option.bind_some])
        (fun u => by simp only [i_chunksOf_b2, lt_ln, Nat.lt_irrefl, decide_false, cond_false])]
      simp only [Option.bind_some]
      rw [ad1 (by omega)]
      refine ⟨_, rfl, ?_⟩
      rw [nums_succ s i hi, a1, Option.getD_some, List.filter_append, ho])
    (fun o ho => ⟨o, by simp only [i_chunksOf_b1, lt_ln, Nat.lt_irrefl, decide_false, cond_false], ho⟩) (s := []) (by simp [nums])
  rw [h1]
  rfl
theorem i_LiveOf_ex (s : Store) (hv : s.Vols.length ≤ 1048576) (ha : capA s.Arena) : ∃ l, i_LiveOf s = some l ∧ isLive s s.Vols.length l := by
  unfold i_LiveOf
  rw [chunksOf_eq s hv ha]
  simp only [Option.bind_some]
  have hcl : ((nums s s.Vols.length).filter fun x => decide (x > 0)).length ≤ 16777216 := by
    have := List.length_filter_le (fun x : Int => decide (x > 0)) (nums s s.Vols.length)
    rw [nums_len s ha _ (Nat.le_refl _)] at this
    omega
  unfold sortI
  rw [if_pos (by omega)]
  simp only [Option.bind_some]
  have hml : (srtI ((nums s s.Vols.length).filter fun x => decide (x > 0))).length ≤ 16777216 := by rw [srtI_len]; exact hcl
  have hmem : ∀ x, x ∈ srtI ((nums s s.Vols.length).filter fun x => decide (x > 0)) ↔ x ∈ nums s s.Vols.length ∧ 0 < x := fun x => by
    unfold srtI
    rw [List.mem_mergeSort, List.mem_filter]
    simp
  have hsorted : (srtI ((nums s s.Vols.length).filter fun x => decide (x > 0))).Pairwise fun x y => x ≤ y := by
    have := List.pairwise_mergeSort (le := fun x y : Int => decide (x ≤ y)) (fun a b c h1 h2 => by simp at *; omega) (fun a b => by simp; omega) ((nums s s.Vols.length).filter fun x => decide (x > 0))
    unfold srtI
    exact this.imp (fun h => by simpa using h)
  generalize srtI ((nums s s.Vols.length).filter fun x => decide (x > 0)) = m at hml hmem hsorted
  obtain ⟨l, h1, h2, h3⟩ := loop_ex (body := fun q : List Int × Int => i_LiveOf_b1 m q.1 q.2) (fun (o : List Int) i => (o, i)) m.length (fun i o => asc o ∧ (∀ x, x ∈ o ↔ x ∈ m.take i) ∧ o.length ≤ i) (fun o => asc o ∧ ∀ x, x ∈ o ↔ x ∈ m)
    (fun o i hi ho => by
      have hg : m[i]? = some m[i] := List.getElem?_eq_getElem hi
      obtain ⟨ho1, ho2, ho3⟩ := ho
      have hle : ∀ x ∈ o, x ≤ m[i] := fun x hx => by
        obtain ⟨k, hk, rfl⟩ := List.getElem_of_mem ((ho2 x).1 hx)
        simp only [List.length_take] at hk
        rw [List.getElem_take]
        exact List.pairwise_iff_getElem.1 hsorted k i (by omega) hi (by omega)
      refine .inl ?_
      simp only [i_LiveOf_b1, lt_ln, decide_eq_true hi, cond_true, gi_nat, hg, Option.bind_some]
      have add : m[i] ∉ o → ∃ s', (some (.inl (o ++ [m[i]], ((i + 1 : Nat) : Int))) : Option ((List Int × Int) ⊕ (List Int))) = some (.inl (s', ((i + 1 : Nat) : Int))) ∧ asc s' ∧ (∀ x, x ∈ s' ↔ x ∈ m.take (i + 1)) ∧ s'.length ≤ i + 1 := fun hno => by
        refine ⟨_, rfl, ?_, fun x => ?_, by simp only [List.length_append, List.length_singleton]; omega⟩
        · unfold asc
          rw [List.pairwise_append]
          refine ⟨ho1, List.pairwise_singleton _ _, fun a ha b hb => ?_⟩
          rw [List.mem_singleton] at hb
          subst hb
          have h1 := hle a ha
          have h2 : a ≠ m[i] := fun e => hno (e ▸ ha)
          omega
        · rw [List.take_succ_eq_append_getElem hi, List.mem_append, List.mem_append, ho2]
      have skip : m[i] ∈ o → ∃ s', (some (.inl (o, ((i + 1 : Nat) : Int))) : Option ((List Int × Int) ⊕ (List Int))) = some (.inl (s', ((i + 1 : Nat) : Int))) ∧ asc s' ∧ (∀ x, x ∈ s' ↔ x ∈ m.take (i + 1)) ∧ s'.length ≤ i + 1 := fun hin => by
        refine ⟨_, rfl, ho1, fun x => ?_, by omega⟩
        rw [List.take_succ_eq_append_getElem hi, List.mem_append, ho2, List.mem_singleton]
        constructor
        · exact .inl
        · rintro (h | rfl)
          · exact h
          · exact (ho2 _).1 hin
      rw [ap_eq (by simp only [List.length_singleton]; omega), ad1 (by omega)]
      by_cases h0 : i = 0
      · subst h0
        simp only [show (((0 : Nat) : Int) == 0) = true from rfl, cond_true, Option.bind_some]
        have : o = [] := List.eq_nil_of_length_eq_zero (by omega)
        exact add (by rw [this]; simp)
      · have e0 : ((i : Int) == 0) = false := by simp; omega
        rw [e0, sb_eq (by omega) (by omega), show ((i : Int) - 1) = ((i - 1 : Nat) : Int) by omega, gi_nat]
        have hg1 : m[i - 1]? = some (m[i - 1]'(by omega)) := List.getElem?_eq_getElem (by omega)
        rw [hg1]
        simp only [cond_false, Option.bind_some]
        by_cases hne : m[i - 1]'(by omega) = m[i]
        · have : ((m[i - 1]'(by omega)) != m[i]) = false := by simp [hne]
          rw [this]
          simp only [cond_false]
          refine skip ((ho2 _).2 ?_)
          rw [← hne]
          rw [List.mem_iff_getElem]
          exact ⟨i - 1, by simp; omega, by rw [List.getElem_take]⟩
        · have : ((m[i - 1]'(by omega)) != m[i]) = true := by simp [hne]
          rw [this]
          simp only [cond_true, Option.bind_some]
          refine add fun hin => ?_
          obtain ⟨k, hk, hkx⟩ := List.getElem_of_mem ((ho2 _).1 hin)
          simp only [List.length_take] at hk
          rw [List.getElem_take] at hkx
          have h1 : m[k]'(by omega) ≤ m[i - 1]'(by omega) := by
            rcases Nat.lt_or_ge k (i - 1) with h | h
            · exact List.pairwise_iff_getElem.1 hsorted k (i - 1) (by omega) (by omega) h
            · have : k = i - 1 := by omega
              subst this
              exact Int.le_refl _
          have h2 : m[i - 1]'(by omega) ≤ m[i] := List.pairwise_iff_getElem.1 hsorted (i - 1) i (by omega) hi (by omega)
          rw [hkx] at h1
          omega)
    (fun o ho => ⟨o, by simp only [i_LiveOf_b1, lt_ln, Nat.lt_irrefl, decide_false, cond_false], ho.1, fun x => by rw [ho.2.1, List.take_length]⟩) (s := []) ⟨List.Pairwise.nil, by simp, by simp⟩
  rw [h1]
  exact ⟨l, rfl, h2, fun x => by rw [h3, hmem]⟩
theorem LiveOf_eq (s : Store) (hv : s.Vols.length ≤ 1048576) (ha : capA s.Arena) : ∃ l, s_LiveOf s = some l ∧ i_LiveOf s = some l ∧ isLive s s.Vols.length l ∧ l.length ≤ 16777216 := by
  obtain ⟨l, h1, h2, h3⟩ := s_LiveOf_ex s hv ha
  obtain ⟨l', k1, k2⟩ := i_LiveOf_ex s hv ha
  have : l' = l := asc_ext k2.1 h2.1 (fun x => by rw [k2.2, h2.2])
  subst this
  exact ⟨l', h1, k1, h2, h3⟩
end Go.TI
namespace Go.TI
open Go
set_option linter.unusedSimpArgs false
set_option linter.unusedVariables false
theorem markText_ex {k : Int} (h0 : 0 ≤ k) (h1 : k ≤ 9223372036854775807) : ∃ v, w_markText k = some v := by
  unfold w_markText
  by_cases hk : k ≤ 0
  · exact ⟨_, by rw [decide_eq_true hk, cond_true]⟩
  · rw [decide_eq_false hk, cond_false]
    obtain ⟨u, hu, hl⟩ := digits_loop (body := fun s : Int × ByteArray => w_markText_b1 s.1 s.2)
      (fun k t h2 h3 h4 => by
        unfold w_markText_b1
        simp only [decide_eq_true h2, cond_true]
        rw [cat_eq _ _ (by rw [L_strB]; simp; omega), Option.bind_some]
        unfold qu
        rw [wr64 (by rw [Int.tdiv_eq_ediv_of_nonneg (by omega)]; omega) (by rw [Int.tdiv_eq_ediv_of_nonneg (by omega)]; omega)])
      (fun k t h2 => by
        unfold w_markText_b1
        simp only [decide_eq_false (show ¬k > 0 by omega), cond_false])
      19 k (bs []) (Int.lt_of_le_of_lt h1 (by decide)) h1 (by rw [L_bs]; simp)
    rw [hu, Option.bind_some, cat_eq _ _ (by rw [L_bs]; simp; omega), Option.bind_some]
    exact ⟨_, rfl⟩
noncomputable def mt (k : Int) : ByteArray := (w_markText k).getD (bs [])
theorem markText_eq {k : Int} (h0 : 0 ≤ k) (h1 : k ≤ 9223372036854775807) : w_markText k = some (mt k) := by
  obtain ⟨v, h⟩ := markText_ex h0 h1
  rw [mt, h]
  rfl
noncomputable def fLeaf (k : Int) (x : Leaf) : Leaf := Leaf.mk k (mt (k + 1))
theorem markLeafS_eq (l : List Leaf) {k : Int} (h0 : 0 ≤ k) (hB : k + (((l.map fun _ => 2).sum : Nat) : Int) ≤ 1152921504606846976) :
    w_markLeafS l k = some (k + (((l.map fun _ => 2).sum : Nat) : Int), marks (fun _ => 2) fLeaf l k) := by
  have hl : l.length ≤ 1152921504606846976 := by rw [sum_const] at hB; omega
  refine mark_list (fun _ => 2) fLeaf (fun _ => True) 1152921504606846976 l rfl (fun pre x post k h1 _ h2 h3 => ?_) (fun m k hm => ?_) (fun _ _ => trivial) h0 hB
  · simp only [w_markLeafS_b1, lt_midM, cond_true, gi_midM, si_midM, Option.bind_some]
    rw [ad_eq (by omega) (by omega), markText_eq (by omega) (by omega), Option.bind_some, ad_eq (by omega) (by omega), ad1 (by omega)]
    simp only [fLeaf]
    congr 4
    omega
  · simp only [w_markLeafS_b1, lt_endM m hm, cond_false]
def cBlock (x : Block) : Nat := 2 + (x.Leaves.map fun _ => 2).sum
noncomputable def fBlock (k : Int) (x : Block) : Block := Block.mk ((Int.tmod k 3) == 0) (k + 1) (marks (fun _ => 2) fLeaf x.Leaves (k + 2))
theorem markBlockS_eq (l : List Block) {k : Int} (h0 : 0 ≤ k) (hB : k + (((l.map cBlock).sum : Nat) : Int) ≤ 1152921504606846976) :
    w_markBlockS l k = some (k + (((l.map cBlock).sum : Nat) : Int), marks cBlock fBlock l k) := by
  have hl : l.length ≤ 1152921504606846976 := by
    have := sum_le (c := fun _ => 2) (z := cBlock) (l := l) (fun x => by simp [cBlock])
    rw [sum_const] at this
    omega
  refine mark_list cBlock fBlock (fun _ => True) 1152921504606846976 l rfl (fun pre x post k h1 _ h2 h3 => ?_) (fun m k hm => ?_) (fun _ _ => trivial) h0 hB
  · have h3' : k + ((2 + (x.Leaves.map fun _ => 2).sum : Nat) : Int) ≤ 1152921504606846976 := h3
    simp only [w_markBlockS_b1, lt_midM, cond_true, gi_midM, si_midM, Option.bind_some]
    rw [ad_eq (a := k) (by omega) (by omega), ad_eq (by omega) (by omega), markLeafS_eq _ (by omega) (by omega), Option.bind_some, ad1 (by omega)]
    have e : k + 1 + 1 = k + 2 := by omega
    simp only [fBlock, e, cBlock]
    congr 4
    omega
  · simp only [w_markBlockS_b1, lt_endM m hm, cond_false]
def fVol (k : Int) (x : Vol) : Vol := Vol.mk k (k + 1)
theorem markVolS_eq (l : List Vol) {k : Int} (h0 : 0 ≤ k) (hB : k + (((l.map fun _ => 2).sum : Nat) : Int) ≤ 1152921504606846976) :
    w_markVolS l k = some (k + (((l.map fun _ => 2).sum : Nat) : Int), marks (fun _ => 2) fVol l k) := by
  have hl : l.length ≤ 1152921504606846976 := by rw [sum_const] at hB; omega
  refine mark_list (fun _ => 2) fVol (fun _ => True) 1152921504606846976 l rfl (fun pre x post k h1 _ h2 h3 => ?_) (fun m k hm => ?_) (fun _ _ => trivial) h0 hB
  · simp only [w_markVolS_b1, lt_midM, cond_true, gi_midM, si_midM, Option.bind_some]
    rw [ad_eq (by omega) (by omega), ad_eq (by omega) (by omega), ad1 (by omega)]
    simp only [fVol]
    congr 4
    omega
  · simp only [w_markVolS_b1, lt_endM m hm, cond_false]
def fInt (k : Int) (x : Int) : Int := k
theorem markIntS_eq (l : List Int) {k : Int} (h0 : 0 ≤ k) (hB : k + (((l.map fun _ => 1).sum : Nat) : Int) ≤ 1152921504606846976) :
    w_markIntS l k = some (k + (((l.map fun _ => 1).sum : Nat) : Int), marks (fun _ => 1) fInt l k) := by
  have hl : l.length ≤ 1152921504606846976 := by rw [sum_const] at hB; omega
  refine mark_list (fun _ => 1) fInt (fun _ => True) 1152921504606846976 l rfl (fun pre x post k h1 _ h2 h3 => ?_) (fun m k hm => ?_) (fun _ _ => trivial) h0 hB
  · simp only [w_markIntS_b1, lt_midM, cond_true, gi_midM, si_midM, Option.bind_some]
    rw [ad_eq (by omega) (by omega), ad1 (by omega)]
    rfl
  · simp only [w_markIntS_b1, lt_endM m hm, cond_false]
def cKnot (x : Knot) : Nat := 1 + (x.Kids.map fun _ => 1).sum
def fKnot (k : Int) (x : Knot) : Knot := Knot.mk ((Int.tmod k 3) == 0) (marks (fun _ => 1) fInt x.Kids (k + 1))
theorem markKnotS_eq (l : List Knot) {k : Int} (h0 : 0 ≤ k) (hB : k + (((l.map cKnot).sum : Nat) : Int) ≤ 1152921504606846976) :
    w_markKnotS l k = some (k + (((l.map cKnot).sum : Nat) : Int), marks cKnot fKnot l k) := by
  have hl : l.length ≤ 1152921504606846976 := by
    have := sum_le (c := fun _ => 1) (z := cKnot) (l := l) (fun x => by simp [cKnot])
    rw [sum_const] at this
    omega
  refine mark_list cKnot fKnot (fun _ => True) 1152921504606846976 l rfl (fun pre x post k h1 _ h2 h3 => ?_) (fun m k hm => ?_) (fun _ _ => trivial) h0 hB
  · have h3' : k + ((1 + (x.Kids.map fun _ => 1).sum : Nat) : Int) ≤ 1152921504606846976 := h3
    simp only [w_markKnotS_b1, lt_midM, cond_true, gi_midM, si_midM, Option.bind_some]
    rw [ad_eq (a := k) (by omega) (by omega), markIntS_eq _ (by omega) (by omega), Option.bind_some, ad1 (by omega)]
    simp only [fKnot, cKnot]
    congr 4
    omega
  · simp only [w_markKnotS_b1, lt_endM m hm, cond_false]
theorem markDevice_eq (d : Device) (hz : zDevice d ≤ 1048576) : ∃ v, w_markDevice d 1 = some v ∧ 0 ≤ v := by
  unfold zDevice zStore zArena zFlash at hz
  have b1 := sum_le (c := cBlock) (z := fun x => 2 + 2 * zBlock x) (l := d.Flash.Blocks) (fun x => by
    have := zl_len (z := zLeaf) (l := x.Leaves)
    unfold cBlock zBlock
    rw [sum_const]; omega)
  have b2 : (d.Flash.Blocks.map fun x => 2 + 2 * zBlock x).sum = 2 * zl zBlock d.Flash.Blocks := by
    unfold zl
    generalize d.Flash.Blocks = l
    induction l with
    | nil => rfl
    | cons x l ih => simp only [List.map_cons, List.sum_cons, List.length_cons, ih]; omega
  have b3 := sum_le (c := cKnot) (z := fun x => 1 + zKnot x) (l := d.Store.Arena.Knots) (fun x => by
    unfold cKnot zKnot
    rw [sum_const]; omega)
  have b4 : (d.Store.Arena.Knots.map fun x => 1 + zKnot x).sum = zl zKnot d.Store.Arena.Knots := by
    unfold zl
    generalize d.Store.Arena.Knots = l
    induction l with
    | nil => rfl
    | cons x l ih => simp only [List.map_cons, List.sum_cons, List.length_cons, ih]; omega
  have b5 : (d.Store.Vols.map fun _ => 2).sum ≤ 2 * 1048576 := by
    rw [sum_const]; omega
  unfold w_markDevice w_markFlash w_markStore w_markArena
  rw [markBlockS_eq _ (by omega) (by omega)]
  simp only [Option.bind_some]
  rw [markVolS_eq _ (by omega) (by omega)]
  simp only [Option.bind_some]
  rw [markKnotS_eq _ (by omega) (by omega)]
  simp only [Option.bind_some]
  exact ⟨_, rfl, by omega⟩
end Go.TI
namespace Go.TI
open Go
set_option linter.unusedSimpArgs false
set_option linter.unusedVariables false
theorem i_in_ok (x a b : Int) : i_in x a b = some (decide (a ≤ x ∧ x ≤ b)) := by
  unfold i_in
  by_cases h : x ≥ a
  · rw [decide_eq_true h, cond_true]
    congr 1
    rw [Bool.eq_iff_iff]
    simp
    omega
  · rw [decide_eq_false h, cond_false, decide_eq_false (by omega)]
theorem seq_nil (t : ByteArray) : seq t (bs []) = decide (sln t ≤ 0) := by
  rw [seq_L, L_bs, sln_eq, Bool.eq_iff_iff, decide_eq_true_eq, decide_eq_true_eq, ← List.length_eq_zero_iff]
  omega
theorem bif_some {α : Type} (b : Bool) (x y : α) : (bif b then some x else some y) = some (bif b then x else y) := by cases b <;> rfl
theorem AskOk_eq (q : Ask) : i_AskOk q = s_AskOk q := by
  cases q with
  | mk kind vol sec of text =>
  unfold i_AskOk s_AskOk
  simp only [in_ok, i_in_ok, Option.bind_some, seq_nil]
  by_cases hk : 1 ≤ kind ∧ kind ≤ 6
  · rw [decide_eq_true hk]
    simp only [Bool.not_true, cond_false, Option.bind_some]
    by_cases hv : 1 ≤ vol ∧ vol ≤ 9
    · rw [decide_eq_true hv]
      simp only [Bool.not_true, cond_false, Option.bind_some]
      have : kind = 1 ∨ kind = 2 ∨ kind = 3 ∨ kind = 4 ∨ kind = 5 ∨ kind = 6 := by omega
      have h0 : 0 ≤ sln text := by rw [sln_eq]; omega
      rcases this with rfl | rfl | rfl | rfl | rfl | rfl <;> simp [bif_some] <;> rw [Bool.eq_iff_iff] <;> simp only [Bool.and_eq_true, Bool.not_eq_true', decide_eq_true_eq, decide_eq_false_iff_not, beq_iff_eq, bne_eq_false_iff_eq] <;> omega
    · rw [decide_eq_false hv]
      simp
  · rw [decide_eq_false hk]
    simp
theorem FindSame_eq (f : Flash) (r : List Found) (h : Scan f r) (live : List Int) (hl : live.length ≤ 16777216) (t : ByteArray) : ∃ v, s_FindSame f live t = some v ∧ i_FindSame f live t = some v := by
  unfold s_FindSame i_FindSame s_l13Same
  rw [h.s, Option.bind_some]
  obtain ⟨b, h1, h2, _⟩ := loop_ex2 (body := fun s : Int => s_l13Same_b1 r live t s) (body' := fun s : Int => i_FindSame_b1 f live t s) (fun (_ : Unit) i => i) live.length (fun _ _ => True) (fun _ => True)
    (fun _ i hi _ => by
      have hg : live[i]? = some live[i] := List.getElem?_eq_getElem hi
      obtain ⟨u, ok, t1, t2⟩ := ChunkText_eq h live[i]
      simp only [s_l13Same_b1, i_FindSame_b1, lt_ln, decide_eq_true hi, cond_true, gi_nat, hg, Option.bind_some, t1, t2]
      rw [ad1 (by omega)]
      cases ok with
      | false => exact ⟨by simp, .inl ⟨(), rfl, trivial⟩⟩
      | true =>
        simp only [cond_true, Option.bind_some]
        cases seq u t with
        | true => exact ⟨by simp, .inr ⟨_, rfl, trivial⟩⟩
        | false => exact ⟨by simp, .inl ⟨(), rfl, trivial⟩⟩)
    (fun _ _ => ⟨by simp only [s_l13Same_b1, i_FindSame_b1, lt_ln, Nat.lt_irrefl, decide_false, cond_false], _, by simp only [s_l13Same_b1, lt_ln, Nat.lt_irrefl, decide_false, cond_false]; rfl, trivial⟩) (s := ()) trivial
  rw [h1, h2]
  cases b with
  | inl u => exact ⟨_, rfl, rfl⟩
  | inr u => exact ⟨_, rfl, rfl⟩
theorem PlanOf_eq (d : Device) (hz : zDevice d ≤ 1048576) (q : Ask) : ∃ v : List Rec × ByteArray × Int, s_PlanOf d q = some v ∧ i_PlanOf d q = some v ∧ v.1.length ≤ 1 := by
  unfold zDevice at hz
  obtain ⟨r, hr⟩ := Scan_ex d.Flash (by omega)
  have hs : zStore d.Store ≤ 1048576 := by omega
  have hv : d.Store.Vols.length ≤ 1048576 := by unfold zStore at hs; omega
  have ha : capA d.Store.Arena := by
    unfold zStore zArena at hs
    have := zl_len (z := zKnot) (l := d.Store.Arena.Knots)
    unfold capA; omega
  obtain ⟨live, l1, l2, _, l5⟩ := LiveOf_eq d.Store hv ha
  obtain ⟨w, w1, w2⟩ := FindSame_eq d.Flash r hr live l5 q.Text
  obtain ⟨z, ok, p1, p2, _⟩ := PackText_eq q.Text
  obtain ⟨v1, a1, a2, _⟩ := volAt_ex d.Store q.Vol hv
  obtain ⟨v2, b1, b2, _⟩ := volAt_ex d.Store q.Of hv
  have hok : ∃ b, s_AskOk q = some b := by
    unfold s_AskOk
    simp only [in_ok, Option.bind_some, bif_some]
    repeat' (first | exact ⟨_, rfl⟩ | (rw [bif_some]; done))
  obtain ⟨b, hb⟩ := hok
  unfold s_PlanOf i_PlanOf i_refusal
  rw [AskOk_eq, hb, Option.bind_some, Option.bind_some, a1, a2, b1, b2, l1, l2]
  simp only [Option.bind_some, w1, w2, p1, p2]
  cases b with
  | false => exact ⟨_, rfl, rfl, by simp⟩
  | true =>
    have hof : q.Kind = 3 → q.Of = 0 := by
      intro hk
      cases hc : q.Of != 0 with
      | false => simpa using hc
      | true =>
        unfold s_AskOk at hb
        simp only [in_ok, Option.bind_some, hk, hc] at hb
        cases hv : decide (1 ≤ q.Vol ∧ q.Vol ≤ 9) <;> cases h64 : decide (sln q.Text > 64) <;> cases hsq : seq q.Text (bs []) <;> simp [hv, h64, hsq] at hb
    simp only [Bool.not_true, cond_false]
    have hk : q.Kind = 1 ∨ q.Kind = 2 ∨ q.Kind = 3 ∨ q.Kind = 4 ∨ q.Kind = 5 ∨ (q.Kind ≠ 1 ∧ q.Kind ≠ 2 ∧ q.Kind ≠ 3 ∧ q.Kind ≠ 4 ∧ q.Kind ≠ 5) := by omega
    have hwb : w == 0 ∨ (w == 0) = false := by cases w == 0 <;> simp
    rcases hk with hk | hk | hk | hk | hk | ⟨k1, k2, k3, k4, k5⟩
    all_goals rcases hwb with hw | hw
    all_goals by_cases hv1 : v1 ≥ 0 <;> by_cases hv2 : v2 < 0 <;> by_cases hv3 : ln d.Store.Vols ≥ 3
    all_goals first
      | (simp [hk, hw, hv1, hv2, hv3]; done)
      | (have e1 : (q.Kind == 1) = false := by simpa using k1
         have e2 : (q.Kind == 2) = false := by simpa using k2
         have e3 : (q.Kind == 3) = false := by simpa using k3
         have e4 : (q.Kind == 4) = false := by simpa using k4
         have e5 : (q.Kind == 5) = false := by simpa using k5
         simp [bne, e1, e2, e3, e4, e5, hw, hv1, hv2, hv3]; done)
      | (have ho := hof hk
         simp [hk, hw, hv1, hv2, hv3, ho])
theorem eqRec_eq (a b : Rec) : Tells (w_eqRec a b) a b := by
  cases a with
  | mk a1 a2 a3 a4 =>
  cases b with
  | mk b1 b2 b3 b4 =>
  have : Says (w_eqRec (Rec.mk a1 a2 a3 a4) (Rec.mk b1 b2 b3 b4)) (a1 = b1 ∧ a2 = b2 ∧ a3 = b3 ∧ a4 = b4 ∧ True) := says_and (by simp) (says_and (by simp) (says_and (by simp) (says_and (by simp) says_true)))
  simpa only [Tells, Says, Rec.mk.injEq, and_true] using this
theorem eqRecS_eq (a b : List Rec) (h : a.length ≤ 1048576) : Tells (w_eqRecS a b) a b :=
  eq_listF w_eqRec a b (by omega) (fun x _ y _ => eqRec_eq x y) (fun _ => rfl) rfl
def fRec (k : Int) (x : Rec) : Rec := Rec.mk k (k + 1) (k + 2) (k + 3)
theorem markRecS_eq (l : List Rec) {k : Int} (h0 : 0 ≤ k) (hB : k + (((l.map fun _ => 4).sum : Nat) : Int) ≤ 1152921504606846976) :
    w_markRecS l k = some (k + (((l.map fun _ => 4).sum : Nat) : Int), marks (fun _ => 4) fRec l k) := by
  have hl : l.length ≤ 1152921504606846976 := by rw [sum_const] at hB; omega
  refine mark_list (fun _ => 4) fRec (fun _ => True) 1152921504606846976 l rfl (fun pre x post k h1 _ h2 h3 => ?_) (fun m k hm => ?_) (fun _ _ => trivial) h0 hB
  · have e1 : ad k 1 = k + 1 := ad_eq (by omega) (by omega)
    have e2 : ad (k + 1) 1 = k + 2 := (ad_eq (by omega) (by omega)).trans (by omega)
    have e3 : ad (k + 2) 1 = k + 3 := (ad_eq (by omega) (by omega)).trans (by omega)
    have e4 : ad (k + 3) 1 = k + 4 := (ad_eq (by omega) (by omega)).trans (by omega)
    simp only [w_markRecS_b1, lt_midM, cond_true, gi_midM, si_midM, Option.bind_some, e1, e2, e3, e4]
    rw [ad1 (by omega)]
    rfl
  · simp only [w_markRecS_b1, lt_endM m hm, cond_false]
theorem heldRecS_eq (l : List Rec) {k : Int} (h0 : 0 ≤ k) (hB : k + (((l.map fun _ => 4).sum : Nat) : Int) ≤ 1152921504606846976) :
    w_heldRecS (marks (fun _ => 4) fRec l k) k = some (k + (((l.map fun _ => 4).sum : Nat) : Int)) := by
  have hl : l.length ≤ 1152921504606846976 := by rw [sum_const] at hB; omega
  unfold w_heldRecS
  rw [held_list (body := fun s : Int × Int => w_heldRecS_b1 (marks (fun _ => 4) fRec l k) s.1 s.2) (fun _ => 4) fRec (fun _ => True) 1152921504606846976 l (fun i x k2 hi hg _ h2 h3 => ?_) (fun k' => ?_) (fun _ _ => trivial) h0 hB]
  · rfl
  · have hlt : i < (marks (fun _ => 4) fRec l k).length := by rw [marks_len]; exact hi
    have e1 : ad k2 1 = k2 + 1 := ad_eq (by omega) (by omega)
    have e2 : ad (k2 + 1) 1 = k2 + 2 := (ad_eq (by omega) (by omega)).trans (by omega)
    have e3 : ad (k2 + 2) 1 = k2 + 3 := (ad_eq (by omega) (by omega)).trans (by omega)
    have e4 : ad (k2 + 3) 1 = k2 + 4 := (ad_eq (by omega) (by omega)).trans (by omega)
    simp only [w_heldRecS_b1, lt_ln, decide_eq_true hlt, cond_true, gi_nat, hg, Option.bind_some, fRec, bne_self_eq_false, cond_false, e1, e2, e3, e4]
    rw [ad1 (by omega)]
    rfl
  · simp only [w_heldRecS_b1, lt_ln, marks_len, Nat.lt_irrefl, decide_false, cond_false]
theorem szAsk_eq (q : Ask) (h : oAsk q) (left : Int) (h0 : 0 ≤ left) (h1 : left ≤ 1048576) : ∃ v, w_szAsk q left = some v := by
  unfold w_szAsk
  rw [bif_some]
  exact ⟨_, rfl⟩
theorem planOf_true (d : Device) (q : Ask) (hd : oDevice d) (hq : oAsk q) : w_FnExactPlanOf d q = some true := by
  unfold w_FnExactPlanOf
  obtain ⟨v, h1, h2⟩ := szDevice_eq d hd 1048576 (by omega) (by omega)
  rw [h1, Option.bind_some]
  split at h2
  · rename_i hc
    rw [decide_eq_false (by omega), cond_false]
    have z : zDevice d ≤ 1048576 := by omega
    obtain ⟨s, hs⟩ := szAsk_eq q hq v (by omega) (by omega)
    rw [hs, Option.bind_some]
    cases hsn : decide (s < 0) with
    | true => rfl
    | false =>
      simp only [cond_false]
      obtain ⟨⟨l, t, n⟩, h3, h4, h5⟩ := PlanOf_eq d z q
      have h5 : l.length ≤ 1 := h5
      obtain ⟨k, k1, k2⟩ := markDevice_eq d z
      have hB : (1 : Int) + (((l.map fun _ => 4).sum : Nat) : Int) ≤ 1152921504606846976 := by rw [sum_const]; omega
      have e1 := tells_self (eqRecS_eq l l (by omega))
      have e2 : seq t t = true := by rw [seq_eq]; simp
      simp only [toDevice_eq d z, w_toAsk, Option.bind_some, h3, h4, e1, e2, tells_self (eqDevice_eq d d z), Bool.not_true, cond_false, bne_self_eq_false, k1, decide_eq_false (show ¬k < 0 by omega)]
      simp only [markRecS_eq l (k := 1) (by omega) hB, heldRecS_eq l (k := 1) (by omega) hB, Option.bind_some, decide_eq_false (show ¬(1 + (((l.map fun _ => 4).sum : Nat) : Int)) < 0 by omega), cond_false, bne_self_eq_false]
  · rw [decide_eq_true h2, cond_true]
end Go.TI
