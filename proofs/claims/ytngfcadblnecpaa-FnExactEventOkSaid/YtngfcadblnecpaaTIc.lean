/- An interpreter of loaded Go code on trees, for every program: paths into trees. No condition; no program is in sight. -/
import Derived.Test.YtngfcadblnecpaaTIb
namespace Go.TI
open Go Go.RowKit

/-- The row's address behind headers that lie in memory. -/
def baseFrom (w : World) : Addr → List Nat → Option Addr
  | ad, [] => some ad
  | ad, c :: q => match w.cell? (ad.add c) with
    | some (.slice (some ad') _ _) => baseFrom w ad' q
    | _ => none

/-- .. behind a header that is a value. -/
def baseV (w : World) (v : Value) (q : List Nat) : Option Addr :=
  match v with
  | .slice (some ad) _ _ => baseFrom w ad q
  | _ => none

theorem set_self {α : Type} {l : List α} {i : Nat} {a : α} (h : l[i]? = some a) : l.set i a = l := by
  apply List.ext_getElem?
  intro j
  rw [List.getElem?_set]
  have hl := (List.getElem?_eq_some_iff.1 h).1
  split
  · rename_i hij
    subst hij
    first | exact h.symm | (rw [if_pos hl, h])
  · rfl

theorem baseFrom_cons {w : World} {ad : Addr} {c : Nat} {q : List Nat} {v : Value} (h : w.cell? (ad.add c) = some v) : baseFrom w ad (c :: q) = baseV w v q := by
  simp only [baseFrom, h, baseV]
  cases v <;> try rfl
  rename_i a _ _
  cases a <;> rfl

theorem reps_get {w : World} : ∀ {ts : List TV} {vs F U} (c : Nat) {t : TV}, reps w ts vs F U → ts[c]? = some t →
    ∃ v A B C D F1 U1, vs[c]? = some v ∧ rep w t v F1 U1 ∧ F = A ++ F1 ++ B ∧ U = C ++ U1 ++ D ∧
      ∀ w' t' v' F1' U1', rep w' t' v' F1' U1' → (∀ b ∈ A ++ B, w'.heap[b]? = w.heap[b]?) → (∀ b ∈ C ++ D, w'.heap[b]? = w.heap[b]?) →
        reps w' (ts.set c t') (vs.set c v') (A ++ F1' ++ B) (C ++ U1' ++ D)
  | [], vs, F, U, c, t, h, hc => by simp at hc
  | t0 :: ts, vs, F, U, 0, t, h, hc => by
    simp only [reps] at h
    obtain ⟨v, vs', F1, F2, U1, U2, rfl, rfl, rfl, h1, h2⟩ := h
    simp at hc
    subst hc
    refine ⟨v, [], F2, [], U2, F1, U1, rfl, h1, rfl, rfl, fun w' t' v' F1' U1' hr hA hC => ?_⟩
    simp only [List.set_cons_zero, reps]
    exact ⟨v', vs', F1', F2, U1', U2, rfl, rfl, rfl, hr, reps_move h2 (by simpa using hA) (by simpa using hC)⟩
  | t0 :: ts, vs, F, U, c + 1, t, h, hc => by
    simp only [reps] at h
    obtain ⟨v, vs', F1, F2, U1, U2, rfl, rfl, rfl, h1, h2⟩ := h
    simp at hc
    obtain ⟨u, A, B, C, D, G, V, hu, hr, rfl, rfl, hk⟩ := reps_get c h2 hc
    refine ⟨u, F1 ++ A, B, U1 ++ C, D, G, V, by simpa using hu, hr, by simp, by simp, fun w' t' v' F1' U1' hr' hA hC => ?_⟩
    simp only [List.set_cons_succ, reps]
    refine ⟨v, vs'.set c v', F1, A ++ F1' ++ B, U1, C ++ U1' ++ D, rfl, by simp, by simp, rep_move h1 ?_ ?_, hk w' t' v' F1' U1' hr' ?_ ?_⟩
    · exact fun b hb => hA b (by simp [hb])
    · exact fun b hb => hC b (by simp [hb])
    · exact fun b hb => hA b (by simp at hb ⊢; rcases hb with hb | hb <;> simp [hb])
    · exact fun b hb => hC b (by simp at hb ⊢; rcases hb with hb | hb <;> simp [hb])

/-- A path that is only read; it reads so in every world that has these blocks as they are. -/
theorem cont_rep {w : World} : ∀ (q : List Nat) {cs : List TV} {vs F U} {row : List TV}, reps w cs vs F U → cont cs q = some row →
    ∃ rvs F1 U1, reps w row rvs F1 U1 ∧ (∀ b ∈ F1, b ∈ F) ∧ (∀ b ∈ U1, b ∈ U) ∧
      match q with
      | [] => rvs = vs
      | c :: q => ∃ v, vs[c]? = some v ∧ ∀ j u, rvs[j]? = some u → ∃ ad, ∀ w2 : World, (∀ b ∈ F, w2.heap[b]? = w.heap[b]?) → (∀ b ∈ U, w2.heap[b]? = w.heap[b]?) → baseV w2 v q = some ad ∧ w2.cell? (ad.add j) = some u
  | [], cs, vs, F, U, row, h, hc => by
    simp only [cont, Option.some.injEq] at hc
    subst hc
    exact ⟨vs, F, U, h, fun _ hb => hb, fun _ hb => hb, rfl⟩
  | c :: q, cs, vs, F, U, row, h, hc => by
    simp only [cont] at hc
    split at hc
    · rename_i o e sz cells hcs
      obtain ⟨v, A, B, C, D, F1, U1, hv, hr, rfl, rfl, _⟩ := reps_get c h hcs
      have key : ∃ vs1 F2 U2, reps w cells vs1 F2 U2 ∧ Reads w v vs1 ∧ (∀ b ∈ F2, b ∈ F1) ∧ (∀ b ∈ U2, b ∈ U1) ∧ (∀ b ∈ blkOf v, b ∈ F1 ∨ b ∈ U1) := by
        cases o
        · simp only [rep] at hr
          obtain ⟨A, n, c, vs1, U', rfl, hn, hl, hrd, hr, rfl, rfl⟩ := hr
          exact ⟨vs1, [], U', hr, hrd, by simp, fun b hb => List.mem_append_right _ hb, fun b hb => .inr (List.mem_append_left _ hb)⟩
        · simp only [rep] at hr
          obtain ⟨n, vs1, F', ho, hr, rfl⟩ := hr
          exact ⟨vs1, F', _, hr, own_Reads ho, fun b hb => List.mem_append_right _ hb, fun _ hb => hb, fun b hb => .inl (List.mem_append_left _ hb)⟩
      obtain ⟨vs1, F2, U2, hr1, hrd, hF2, hU2, hbk⟩ := key
      obtain ⟨rvs, F3, U3, hr3, hF3, hU3, hb⟩ := cont_rep q hr1 hc
      refine ⟨rvs, F3, U3, hr3, fun b hb => by simp [hF2 b (hF3 b hb)], fun b hb => by simp [hU2 b (hU3 b hb)], v, hv, fun j u hj => ?_⟩
      have hrd2 : ∀ w2 : World, (∀ b ∈ A ++ F1 ++ B, w2.heap[b]? = w.heap[b]?) → (∀ b ∈ C ++ U1 ++ D, w2.heap[b]? = w.heap[b]?) → Reads w2 v vs1 := fun w2 hA hC => hrd.move (fun b hb => by
        rcases hbk b hb with hb | hb
        · exact hA b (by simp [hb])
        · exact hC b (by simp [hb]))
      match q, hb with
      | [], hb =>
        subst hb
        obtain ⟨ad, n, c, rfl, hcell⟩ := hrd j u hj
        refine ⟨ad, fun w2 hA hC => ⟨rfl, ?_⟩⟩
        obtain ⟨ad', n', c', he, hcell'⟩ := hrd2 w2 hA hC j u hj
        injection he with he
        injection he with he
        subst he
        exact hcell'
      | c' :: q', hb =>
        obtain ⟨v', hv', hb⟩ := hb
        obtain ⟨ad, hk⟩ := hb j u hj
        refine ⟨ad, fun w2 hA hC => ?_⟩
        obtain ⟨hba, hcell⟩ := hk w2 (fun b hb => hA b (by simp [hF2 b hb])) (fun b hb => hC b (by simp [hU2 b hb]))
        obtain ⟨ad0, n, c, rfl, hc0⟩ := hrd2 w2 hA hC c' v' hv'
        refine ⟨?_, hcell⟩
        show baseFrom w2 ad0 (c' :: q') = some ad
        rw [baseFrom_cons hc0]
        exact hba
    · cases hc

/-- A path of owned headers: what stands at its end may be turned. -/
theorem upd_rep {w : World} : ∀ (q : List Nat) {cs : List TV} {vs F U} {row : List TV} (c : Nat), reps w cs vs F U → ownP cs (c :: q) = true → cont cs (c :: q) = some row →
    ∃ v hv n e sz rvs A B C D F1 U1, vs[c]? = some hv ∧ w.ownsRow 0 e sz v n rvs ∧ reps w row rvs F1 U1 ∧ F = A ++ (blkOf v ++ F1) ++ B ∧ U = C ++ U1 ++ D ∧
      (∀ ad m k, v = .slice (some ad) m k → baseV w hv q = some ad) ∧
      ∀ w' row' rvs' F1' U1', w'.ownsRow 0 e sz v n rvs' → reps w' row' rvs' F1' U1' → (∀ b ∈ A ++ B, w'.heap[b]? = w.heap[b]?) → (∀ b ∈ C ++ D, w'.heap[b]? = w.heap[b]?) →
        ∀ f : List TV → List TV, f row = row' → reps w' (updC cs (c :: q) f) vs (A ++ (blkOf v ++ F1') ++ B) (C ++ U1' ++ D)
  | [], cs, vs, F, U, row, c, h, ho, hc => by
    simp only [cont] at hc
    split at hc
    · rename_i o e sz cells hcs
      simp only [Option.some.injEq] at hc
      subst hc
      simp only [ownP, hcs, Bool.and_true] at ho
      subst ho
      obtain ⟨v, A, B, C, D, F1, U1, hv, hr, rfl, rfl, hk⟩ := reps_get c h hcs
      simp only [rep] at hr
      obtain ⟨n, vs1, F', hown, hr, rfl⟩ := hr
      refine ⟨v, v, n, e, sz, vs1, A, B, C, D, F', U1, hv, hown, hr, rfl, rfl, fun ad m k hvv => by subst hvv; rfl, fun w' row' rvs' F1' U1' ho' hr' hA hC f hf => ?_⟩
      simp only [updC, hcs, hf]
      have hset : vs.set c v = vs := set_self hv
      have := hk w' (.sl true e sz row') v (blkOf v ++ F1') U1' (by simp only [rep]; exact ⟨n, rvs', F1', ho', hr', rfl⟩) hA hC
      rw [hset] at this
      exact this
    · cases hc
  | c' :: q, cs, vs, F, U, row, c, h, ho, hc => by
    rw [cont] at hc
    split at hc
    · rename_i o e sz cells hcs
      simp only [ownP, hcs, Bool.and_eq_true] at ho
      obtain ⟨rfl, ho⟩ := ho
      obtain ⟨v, A, B, C, D, F1, U1, hv, hr, rfl, rfl, hk⟩ := reps_get c h hcs
      simp only [rep] at hr
      obtain ⟨n, vs1, F', hown, hr, rfl⟩ := hr
      obtain ⟨v2, hv2, n2, e2, sz2, rvs, A2, B2, C2, D2, F2, U2, hvs1, hown2, hr2, rfl, rfl, hbase, hk2⟩ := upd_rep q c' hr (by simpa only [ownP] using ho) hc
      refine ⟨v2, v, n2, e2, sz2, rvs, A ++ (blkOf v ++ A2), B2 ++ B, C ++ C2, D2 ++ D, F2, U2, hv, hown2, hr2, by simp, by simp, ?_, ?_⟩
      · intro ad m k hvv
        obtain ⟨ad0, m0, k0, rfl, hc0⟩ := own_Reads hown c' hv2 hvs1
        show baseFrom w ad0 (c' :: q) = some ad
        rw [baseFrom_cons hc0]
        exact hbase ad m k hvv
      · intro w' row' rvs' F1' U1' ho' hr' hA hC f hf
        simp only [updC, hcs]
        have h3 := hk2 w' row' rvs' F1' U1' ho' hr' (fun b hb => hA b (by simp at hb ⊢; rcases hb with hb | hb <;> simp [hb])) (fun b hb => hC b (by simp at hb ⊢; rcases hb with hb | hb <;> simp [hb])) f hf
        have hown' : w'.ownsRow 0 e sz v n vs1 := by
          refine ⟨hown.1, ?_⟩
          rcases hown.2 with h0 | ⟨g, cap, cur, rfl, hg, hh, r⟩
          · exact .inl h0
          · exact .inr ⟨g, cap, cur, rfl, hg, (hA g (by simp [blkOf, Value.ownBlock])).trans hh, r⟩
        have hset : vs.set c v = vs := set_self hv
        have := hk w' (.sl true e sz (updC cells (c' :: q) f)) v (blkOf v ++ (A2 ++ (blkOf v2 ++ F1') ++ B2)) (C2 ++ U1' ++ D2) (by simp only [rep]; exact ⟨n, vs1, _, hown', h3, rfl⟩) (fun b hb => hA b (by simp at hb ⊢; rcases hb with hb | hb <;> simp [hb])) (fun b hb => hC b (by simp at hb ⊢; rcases hb with hb | hb <;> simp [hb]))
        rw [hset] at this
        simpa [updC] using this
    · cases hc

end Go.TI
