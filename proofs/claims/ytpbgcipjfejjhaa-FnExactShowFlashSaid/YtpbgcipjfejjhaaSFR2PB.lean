/- Pages in texts: the program's and the reference's answer the same. No condition. -/
import Derived.Test.YtpbgcipjfejjhaaSFR2PA
import Derived.Test.YtpbgcipjfejjhaaSFR1PF
namespace Go.TI
open Go
set_option linter.unusedSimpArgs false
set_option linter.unusedVariables false

theorem PageOk_eq (p : Page) : ∃ v, s_PageOk p = some v ∧ i_PageOk p = some v ∧ (v = true → (p.Kind = 1 ∨ p.Kind = 2) ∧ (1 ≤ p.Seq ∧ p.Seq ≤ 1000000000) ∧ (1 ≤ p.Tx ∧ p.Tx ≤ 1000000000) ∧ (1 ≤ p.Count ∧ p.Count ≤ 9) ∧ (0 ≤ p.Part ∧ p.Part < p.Count) ∧ sln p.Text ≤ 90) := by
  unfold s_PageOk i_PageOk
  rw [eq_in]
  simp only [in_eq, Option.bind_some]
  by_cases h1 : 1 ≤ p.Seq ∧ p.Seq ≤ 1000000000
  · by_cases h2 : 1 ≤ p.Tx ∧ p.Tx ≤ 1000000000
    · by_cases h3 : 1 ≤ p.Count ∧ p.Count ≤ 9
      · have e : sb p.Count 1 = p.Count - 1 := sb_eq (by omega) (by omega)
        rw [e]
        by_cases h4 : 0 ≤ p.Part ∧ p.Part ≤ p.Count - 1
        · by_cases h5 : sln p.Text > 90
          · refine ⟨false, ?_, ?_, by simp⟩
            · cases hk : (decide (1 ≤ p.Kind) && decide (p.Kind ≤ 2)) <;> simp [h1, h2, h3, h4, h5]
            · simp [h1, h2, h3, h4, h5]
          · by_cases k2 : p.Kind = 2
            · exact ⟨true, by simp [h1, h2, h3, h4, h5, k2], by simp [h1, h2, h3, h4, h5, k2], fun _ => ⟨.inr k2, h1, h2, h3, ⟨h4.1, by omega⟩, by omega⟩⟩
            · by_cases k1 : p.Kind = 1
              · exact ⟨p.Count == 1, by simp [h1, h2, h3, h4, h5, k1], by simp [h1, h2, h3, h4, h5, k1], fun _ => ⟨.inl k1, h1, h2, h3, ⟨h4.1, by omega⟩, by omega⟩⟩
              · have hk : (decide (1 ≤ p.Kind) && decide (p.Kind ≤ 2)) = false := by
                  rw [Bool.and_eq_false_iff, decide_eq_false_iff_not, decide_eq_false_iff_not]; omega
                have e1 : (p.Kind == 1) = false := by simpa using k1
                have e2 : (p.Kind == 2) = false := by simpa using k2
                exact ⟨false, by simp [hk], by simp [h1, h2, h3, h4, h5, e1, e2], by simp⟩
        · have e4 : (decide (0 ≤ p.Part) && decide (p.Part ≤ p.Count - 1)) = false := by
            rw [Bool.and_eq_false_iff, decide_eq_false_iff_not, decide_eq_false_iff_not]; omega
          refine ⟨false, ?_, ?_, by simp⟩
          · cases hk : (decide (1 ≤ p.Kind) && decide (p.Kind ≤ 2)) <;> simp [h1, h2, h3, e4]
          · simp [h1, h2, h3, e4]
      · have e3 : (decide (1 ≤ p.Count) && decide (p.Count ≤ 9)) = false := by
          rw [Bool.and_eq_false_iff, decide_eq_false_iff_not, decide_eq_false_iff_not]; omega
        refine ⟨false, ?_, ?_, by simp⟩
        · cases hk : (decide (1 ≤ p.Kind) && decide (p.Kind ≤ 2)) <;> simp [h1, h2, e3]
        · simp [h1, h2, e3]
    · have e2 : (decide (1 ≤ p.Tx) && decide (p.Tx ≤ 1000000000)) = false := by
        rw [Bool.and_eq_false_iff, decide_eq_false_iff_not, decide_eq_false_iff_not]; omega
      refine ⟨false, ?_, ?_, by simp⟩
      · cases hk : (decide (1 ≤ p.Kind) && decide (p.Kind ≤ 2)) <;> simp [h1, e2]
      · simp [h1, e2]
  · have e1 : (decide (1 ≤ p.Seq) && decide (p.Seq ≤ 1000000000)) = false := by
      rw [Bool.and_eq_false_iff, decide_eq_false_iff_not, decide_eq_false_iff_not]; omega
    refine ⟨false, ?_, ?_, by simp⟩
    · cases hk : (decide (1 ≤ p.Kind) && decide (p.Kind ≤ 2)) <;> simp [e1]
    · simp [e1]

def page0 : Page := Page.mk 0 0 0 0 0 (bs [])
theorem l06Var_bad (u : ByteArray) (a : Int) (hu : (L u).length ≤ 20000) (ha : oI a) : s_l06Var (l06Cur.mk u a true) = some (0, l06Cur.mk u a true) := by
  obtain ⟨r, h1, _, _⟩ := ReadVar_eq u a (by omega) ha
  unfold s_l06Var
  simp only [h1, Option.bind_some, cond_true]
theorem l06Var_good (u : ByteArray) (a : Int) (hu : (L u).length ≤ 20000) {r : Int × Int × Bool} (h : s_ReadVar u a = some r) : s_l06Var (l06Cur.mk u a false) = some (bif r.2.2 then (r.1, l06Cur.mk u r.2.1 false) else (0, l06Cur.mk u a true)) := by
  unfold s_l06Var
  simp only [h, Option.bind_some, cond_false]
  cases r.2.2 <;> rfl
/-- What follows when one number is bad. -/
theorem tail_bad {α : Type} {x : α} {b : Bool} (h : b = true) {y : Option α} : (bif b then some x else y) = some x := by rw [h]; rfl

theorem drop_split (l : List UInt8) {a b : Nat} (h : a ≤ b) : l.drop a = (l.drop a).take (b - a) ++ l.drop b := by
  have := (List.take_append_drop (b - a) (l.drop a)).symm
  rw [List.drop_drop, show a + (b - a) = b by omega] at this
  exact this

theorem PageText_eq (p : Page) (u : ByteArray) (k : UInt8) (n1 n2 n3 n4 : Nat) (hp : s_PageOk p = some true) (hk : p.Kind = (k.toNat : Int)) (h1 : p.Seq = n1) (h2 : p.Tx = n2) (h3 : p.Part = n3) (h4 : p.Count = n4)
    (b1 : n1 ≤ 1000000000) (b2 : n2 ≤ 1000000000) (b3 : n3 ≤ 1000000000) (b4 : n4 ≤ 1000000000) (hu : (L u).length ≤ 20000) (e : L u = [k] ++ encV n1 ++ encV n2 ++ encV n3 ++ encV n4 ++ L p.Text) : s_PageText p = s_Sealed u := by
  obtain ⟨s1, q1, r1⟩ := l01Var_eq n1 (by omega)
  obtain ⟨s2, q2, r2⟩ := l01Var_eq n2 (by omega)
  obtain ⟨s3, q3, r3⟩ := l01Var_eq n3 (by omega)
  obtain ⟨s4, q4, r4⟩ := l01Var_eq n4 (by omega)
  have hl := congrArg List.length e
  simp only [List.length_append, List.length_singleton] at hl
  have hb : s_l06Byte p.Kind = some (strB [IntKind.u8.wrap p.Kind]) := rfl
  have hbL : L (strB [IntKind.u8.wrap p.Kind]) = [k] := by
    rw [L_strB, hk, IntKind.wrap_u8]
    have := u8_lt k
    have e2 : ((k.toNat : Int) % 256).toNat = k.toNat := by omega
    simp only [List.map_cons, List.map_nil, e2, UInt8.ofNat_toNat]
  unfold s_PageText
  rw [hp]
  simp only [Option.bind_some, Bool.not_true, cond_false, hb, h1, h2, h3, h4, q1, q2, q3, q4]
  rw [cat_eq _ _ (by rw [hbL, r1]; simp only [List.length_singleton]; omega), Option.bind_some]
  rw [cat_eq _ _ (by rw [L_cat, hbL, r1, r2]; simp only [List.length_append, List.length_singleton]; omega), Option.bind_some]
  rw [cat_eq _ _ (by rw [L_cat, L_cat, hbL, r1, r2, r3]; simp only [List.length_append, List.length_singleton]; omega), Option.bind_some]
  rw [cat_eq _ _ (by rw [L_cat, L_cat, L_cat, hbL, r1, r2, r3, r4]; simp only [List.length_append, List.length_singleton]; omega), Option.bind_some]
  rw [cat_eq _ _ (by rw [L_cat, L_cat, L_cat, L_cat, hbL, r1, r2, r3, r4]; simp only [List.length_append, List.length_singleton]; omega), Option.bind_some]
  have : strB [IntKind.u8.wrap p.Kind] ++ s1 ++ s2 ++ s3 ++ s4 ++ p.Text = u := by
    apply L_inj
    rw [L_cat, L_cat, L_cat, L_cat, L_cat, hbL, r1, r2, r3, r4, e]
  rw [this]
  cases s_Sealed u with
  | none => rfl
  | some v => rfl

theorem ReadPage_eq (t : ByteArray) (ht : (L t).length ≤ 9223372036854775806) : ∃ p ok, s_ReadPage t = some (p, ok) ∧ i_ReadPage t = some (p, ok) ∧ (ok = false → p = page0) ∧ (ok = true → s_PageOk p = some true) := by
  obtain ⟨u, uok, hu1, hu2, hu3, hu4⟩ := Unsealed_eq t ht
  unfold s_ReadPage i_ReadPage
  rw [hu1, hu2]
  simp only [Option.bind_some]
  have o1 : oI 1 := ⟨by omega, by omega⟩
  cases uok with
  | false =>
    have := hu4 rfl
    subst this
    have hz : (L (bs [])).length ≤ 20000 := by rw [L_bs]; simp
    simp only [Bool.not_false, cond_true, Option.bind_some, l06Var_bad _ _ hz o1]
    exact ⟨page0, false, rfl, rfl, fun _ => rfl, by simp⟩
  | true =>
    obtain ⟨hul, v, hv, htu⟩ := hu3 rfl
    simp only [Bool.not_true, cond_false, Option.bind_some]
    by_cases he : (L u).length < 1
    · have he2 : seq u (bs []) = true := by
        rw [seq_L, decide_eq_true_eq, L_bs]
        exact List.eq_nil_of_length_eq_zero (by omega)
      rw [decide_eq_true (by rw [sln_eq]; omega : sln u < 1), he2]
      simp only [cond_true, l06Var_bad _ _ hul o1, Option.bind_some]
      exact ⟨page0, false, rfl, rfl, fun _ => rfl, by simp⟩
    · have he2 : seq u (bs []) = false := by
        rw [seq_L, decide_eq_false_iff_not, L_bs]
        intro e
        rw [e] at he
        simp at he
      rw [decide_eq_false (by rw [sln_eq]; omega : ¬sln u < 1), he2]
      simp only [cond_false]
      -- the four numbers
      have four_ : ∀ (B : Int × Int × Int × Int × Int × Int → Option ((Int × Int × Int × Int × Int × Int) ⊕ ((Int × Int × Int × Int × Int) ⊕ ((Page × Bool))))), (∀ x y a b c d, B (x, y, a, b, c, d) = i_ReadPage_b1 (u, true) x y a b c d) →
          ∃ (a : Int) (m1 m2 m3 m4 : Int) (bad : Bool), (∃ c1 c2 c3, s_l06Var (l06Cur.mk u 1 false) = some (m1, c1) ∧ s_l06Var c1 = some (m2, c2) ∧ s_l06Var c2 = some (m3, c3) ∧ s_l06Var c3 = some (m4, l06Cur.mk u a bad)) ∧
            loopO B (1, 0, 0, 0, 0, 0) = some (bif bad then .inr (page0, false) else .inl (a, m1, m2, m3, m4)) ∧ (bad = false → ∃ (a1 a2 a3 a4 n1 n2 n3 n4 : Nat), m1 = n1 ∧ m2 = n2 ∧ m3 = n3 ∧ m4 = n4 ∧ a = a4 ∧ 1 < a1 ∧ a1 < a2 ∧ a2 < a3 ∧ a3 < a4 ∧ a4 ≤ (L u).length ∧ n1 ≤ 1000000000 ∧ n2 ≤ 1000000000 ∧ n3 ≤ 1000000000 ∧ n4 ≤ 1000000000 ∧
              encV n1 = ((L u).drop 1).take (a1 - 1) ∧ encV n2 = ((L u).drop a1).take (a2 - a1) ∧ encV n3 = ((L u).drop a2).take (a3 - a2) ∧ encV n4 = ((L u).drop a3).take (a4 - a3)) := by
        intro B hB
        obtain ⟨r1, p1, q1, w1⟩ := ReadVar_eq u 1 (by omega) o1
        have g1 := l06Var_good u 1 hul p1
        rw [loopO_eq, hB]
        unfold i_ReadPage_b1
        rw [decide_eq_true (by omega : (0 : Int) < 4), cond_true, q1, Option.bind_some]
        rcases w1 with ⟨w1, w2, w3⟩ | ⟨w1, a0', a1, n1, z0, z1, z2, z3, z4, z5, z6⟩
        · rw [w1] at g1 ⊢
          exact ⟨1, 0, 0, 0, 0, true, ⟨_, _, _, g1, l06Var_bad u 1 hul o1, l06Var_bad u 1 hul o1, l06Var_bad u 1 hul o1⟩, rfl, by simp⟩
        have ea0 : a0' = 1 := by omega
        subst ea0
        rw [w1] at g1 ⊢
        have x1 : oI r1.2.1 := ⟨by omega, by omega⟩
        simp only [Bool.not_true, cond_false, cond_true] at g1 ⊢
        rw [show ((0 : Int) == 0) = true from rfl, cond_true, show ad 0 1 = 1 from ad1 (i := 0) (by omega)]
        simp only
        obtain ⟨r2, p2, q2, y1⟩ := ReadVar_eq u r1.2.1 (by omega) x1
        have g2 := l06Var_good u r1.2.1 hul p2
        rw [loopO_eq, hB]
        unfold i_ReadPage_b1
        rw [decide_eq_true (by omega : (1 : Int) < 4), cond_true, q2, Option.bind_some]
        rcases y1 with ⟨y1, _, _⟩ | ⟨y1, b0, a2, n2, y2, y3, y4, y5, y6, y7, y8⟩
        · rw [y1] at g2 ⊢
          exact ⟨r1.2.1, r1.1, 0, 0, 0, true, ⟨_, _, _, g1, g2, l06Var_bad u _ hul x1, l06Var_bad u _ hul x1⟩, rfl, by simp⟩
        have eb : b0 = a1 := by omega
        subst eb
        rw [y1] at g2 ⊢
        have x2 : oI r2.2.1 := ⟨by omega, by omega⟩
        simp only [Bool.not_true, cond_false, cond_true] at g2 ⊢
        rw [show ((1 : Int) == 0) = false from rfl, cond_false, show ((1 : Int) == 1) = true from rfl, cond_true, show ad 1 1 = 2 from ad1 (i := 1) (by omega)]
        simp only
        obtain ⟨r3, p3, q3, k1⟩ := ReadVar_eq u r2.2.1 (by omega) x2
        have g3 := l06Var_good u r2.2.1 hul p3
        rw [loopO_eq, hB]
        unfold i_ReadPage_b1
        rw [decide_eq_true (by omega : (2 : Int) < 4), cond_true, q3, Option.bind_some]
        rcases k1 with ⟨k1, _, _⟩ | ⟨k1, c0, a3, n3, k2, k3, k4, k5, k6, k7, k8⟩
        · rw [k1] at g3 ⊢
          exact ⟨r2.2.1, r1.1, r2.1, 0, 0, true, ⟨_, _, _, g1, g2, g3, l06Var_bad u _ hul x2⟩, rfl, by simp⟩
        have ec : c0 = a2 := by omega
        subst ec
        rw [k1] at g3 ⊢
        have x3 : oI r3.2.1 := ⟨by omega, by omega⟩
        simp only [Bool.not_true, cond_false, cond_true] at g3 ⊢
        rw [show ((2 : Int) == 0) = false from rfl, cond_false, show ((2 : Int) == 1) = false from rfl, cond_false, show ((2 : Int) == 2) = true from rfl, cond_true, show ad 2 1 = 3 from ad1 (i := 2) (by omega)]
        simp only
        obtain ⟨r4, p4, q4, l1⟩ := ReadVar_eq u r3.2.1 (by omega) x3
        have g4 := l06Var_good u r3.2.1 hul p4
        rw [loopO_eq, hB]
        unfold i_ReadPage_b1
        rw [decide_eq_true (by omega : (3 : Int) < 4), cond_true, q4, Option.bind_some]
        rcases l1 with ⟨l1, _, _⟩ | ⟨l1, d0, a4, n4, l2, l3, l4, l5, l6, l7, l8⟩
        · rw [l1] at g4 ⊢
          exact ⟨r3.2.1, r1.1, r2.1, r3.1, 0, true, ⟨_, _, _, g1, g2, g3, g4⟩, rfl, by simp⟩
        have ed : d0 = a3 := by omega
        subst ed
        rw [l1] at g4 ⊢
        simp only [Bool.not_true, cond_false, cond_true] at g4 ⊢
        rw [show ((3 : Int) == 0) = false from rfl, cond_false, show ((3 : Int) == 1) = false from rfl, cond_false, show ((3 : Int) == 2) = false from rfl, cond_false, show ((3 : Int) == 3) = true from rfl, cond_true, show ad 3 1 = 4 from ad1 (i := 3) (by omega)]
        simp only
        rw [loopO_eq, hB]
        unfold i_ReadPage_b1
        rw [decide_eq_false (by omega : ¬(4 : Int) < 4), cond_false]
        exact ⟨r4.2.1, r1.1, r2.1, r3.1, r4.1, false, ⟨_, _, _, g1, g2, g3, g4⟩, rfl, fun _ => ⟨b0, c0, d0, a4, n1, n2, n3, n4, z2, y4, k4, l4, l3, z3, y5, k5, l5, l6, z5, y7, k7, l7, z6, y8, k8, l8⟩⟩
      obtain ⟨a, m1, m2, m3, m4, bad, ⟨c1, c2, c3, f1, f2, f3, f4⟩, f5, f6⟩ := four_ (fun s : Int × Int × Int × Int × Int × Int => i_ReadPage_b1 (u, true) s.1 s.2.1 s.2.2.1 s.2.2.2.1 s.2.2.2.2.1 s.2.2.2.2.2) (fun _ _ _ _ _ _ => rfl)
      rw [f5]
      simp only [f1, f2, f3, f4, Option.bind_some]
      cases bad with
      | true => exact ⟨page0, false, rfl, rfl, fun _ => rfl, by simp⟩
      | false =>
        obtain ⟨a1, a2, a3, a4, n1, n2, n3, n4, rfl, rfl, rfl, rfl, rfl, i1, i2, i3, i4, i5, j1, j2, j3, j4, s1, s2, s3, s4⟩ := f6 rfl
        simp only [cond_false, Option.bind_some, Sum.elim_inl]
        have hx0 : sx u 0 = some (((L u)[0]'(by omega)).toNat : Int) := sx_nat u (i := 0) (by omega)
        have hsub : sub u (a4 : Int) (sln u) = some (u.extract a4 (L u).length) := by rw [sln_eq]; exact sub_nat u (by omega) (by omega)
        rw [hx0, hsub]
        simp only [Option.bind_some]
        have hk := u8_lt ((L u)[0]'(by omega))
        have hw : IntKind.i64.wrap (((L u)[0]'(by omega)).toNat : Int) = ((L u)[0]'(by omega)).toNat := wr64 (by omega) (by omega)
        rw [hw]
        obtain ⟨po, po1, po2, _⟩ := PageOk_eq (Page.mk (((L u)[0]'(by omega)).toNat : Int) n1 n2 n3 n4 (u.extract a4 (L u).length))
        rw [po2]
        simp only [Option.bind_some]
        cases po with
        | false =>
          have : s_PageText (Page.mk (((L u)[0]'(by omega)).toNat : Int) n1 n2 n3 n4 (u.extract a4 (L u).length)) = some (bs [], false) := by
            unfold s_PageText
            rw [po1]
            rfl
          rw [this]
          exact ⟨page0, false, rfl, rfl, fun _ => rfl, by simp⟩
        | true =>
          have hT : L (u.extract a4 (L u).length) = (L u).drop a4 := by
            rw [L_ext]
            exact List.take_of_length_le (by simp)
          have hsplit : L u = [(L u)[0]'(by omega)] ++ encV n1 ++ encV n2 ++ encV n3 ++ encV n4 ++ L (u.extract a4 (L u).length) := by
            rw [hT, s1, s2, s3, s4]
            have h0 : L u = [(L u)[0]'(by omega)] ++ (L u).drop 1 := by
              have := List.drop_eq_getElem_cons (l := L u) (i := 0) (by omega)
              simpa using this
            have d1 := drop_split (L u) (a := 1) (b := a1) (by omega)
            have d2 := drop_split (L u) (a := a1) (b := a2) (by omega)
            have d3 := drop_split (L u) (a := a2) (b := a3) (by omega)
            have d4 := drop_split (L u) (a := a3) (b := a4) (by omega)
            simp only [List.append_assoc]
            rw [← d4, ← d3, ← d2, ← d1]
            exact h0
          rw [PageText_eq _ u ((L u)[0]'(by omega)) n1 n2 n3 n4 po1 rfl rfl rfl rfl rfl j1 j2 j3 j4 hul hsplit]
          obtain ⟨v', hv', hs'⟩ := (Sealed_ex u).2 hul
          rw [hv] at hv'
          injection hv' with hv'
          subst hv'
          rw [hs', Option.bind_some]
          have : seq (u ++ four v) t = true := by rw [seq_eq, decide_eq_true_eq]; exact htu.symm
          simp only [Bool.not_true, cond_false, Option.bind_some, this]
          exact ⟨_, true, rfl, rfl, by simp, fun _ => po1⟩
end Go.TI
