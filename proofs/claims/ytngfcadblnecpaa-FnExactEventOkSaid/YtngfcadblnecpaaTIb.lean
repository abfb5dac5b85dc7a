/- An interpreter of loaded Go code on trees, for every program: a value of the machine is a tree, and what shares do to it. No condition; no program is in sight. -/
import Derived.Test.YtngfcadblnecpaaTIa
namespace Go.TI
open Go Go.RowKit

/-- The blocks of a slice value. -/
def blkOf (v : Value) : List Nat := v.ownBlock.toList

/-- The cells of a slice are these values. -/
def Reads (w : World) (v : Value) (vs : List Value) : Prop := ∀ i u, vs[i]? = some u → ∃ ad n c, v = .slice (some ad) n c ∧ w.cell? (ad.add i) = some u

mutual
/-- A value is a tree: F: the blocks that it owns, U: the blocks that it only reads. -/
def rep (w : World) : TV → Value → List Nat → List Nat → Prop
  | .int k n, v, F, U => v = .int k n ∧ F = [] ∧ U = []
  | .bool b, v, F, U => v = .bool b ∧ F = [] ∧ U = []
  | .str s, v, F, U => v = .string s ∧ F = [] ∧ U = []
  | .sl true e sz cells, v, F, U => ∃ n vs F', w.ownsRow 0 e sz v n vs ∧ reps w cells vs F' U ∧ F = blkOf v ++ F'
  | .sl false _ sz cells, v, F, U => ∃ A n c vs U', v = .slice A n c ∧ n ≤ c ∧ vs.length = n * sz ∧ Reads w v vs ∧ reps w cells vs [] U' ∧ F = [] ∧ U = blkOf v ++ U'
  | .junk, v, F, U => v.oneCell' = true ∧ F = [] ∧ U = []
  | _, _, _, _ => False
def reps (w : World) : List TV → List Value → List Nat → List Nat → Prop
  | [], vs, F, U => vs = [] ∧ F = [] ∧ U = []
  | t :: ts, vs, F, U => ∃ v vs' F1 F2 U1 U2, vs = v :: vs' ∧ F = F1 ++ F2 ∧ U = U1 ++ U2 ∧ rep w t v F1 U1 ∧ reps w ts vs' F2 U2
end

theorem reps_len {w : World} : ∀ {ts : List TV} {vs F U}, reps w ts vs F U → vs.length = ts.length
  | [], vs, F, U, h => by simp only [reps] at h; simp [h.1]
  | t :: ts, vs, F, U, h => by
    simp only [reps] at h
    obtain ⟨v, vs', F1, F2, U1, U2, rfl, _, _, _, h2⟩ := h
    simp [reps_len h2]

theorem cell_of_blk {w w' : World} {a : Addr} (h : w'.heap[a.block]? = w.heap[a.block]?) : w'.cell? a = w.cell? a := World.cell?_of_block h

theorem add_block (a : Addr) (i : Nat) : (a.add i).block = a.block := by unfold Addr.add; split <;> rfl

theorem Reads.move {w w' : World} {v : Value} {vs : List Value} (h : Reads w v vs) (hb : ∀ b ∈ blkOf v, w'.heap[b]? = w.heap[b]?) : Reads w' v vs := by
  intro i u hi
  obtain ⟨ad, n, c, rfl, hc⟩ := h i u hi
  refine ⟨ad, n, c, rfl, ?_⟩
  rw [← hc]
  exact cell_of_blk (by rw [add_block]; exact hb _ (by simp [blkOf, Value.ownBlock]))

mutual
/-- What happens to other blocks turns no tree. -/
theorem rep_move {w w' : World} : ∀ {t : TV} {v F U}, rep w t v F U → (∀ b ∈ F, w'.heap[b]? = w.heap[b]?) → (∀ b ∈ U, w'.heap[b]? = w.heap[b]?) → rep w' t v F U
  | .int .., v, F, U, h, _, _ => by simpa only [rep] using h
  | .bool _, v, F, U, h, _, _ => by simpa only [rep] using h
  | .str _, v, F, U, h, _, _ => by simpa only [rep] using h
  | .junk, v, F, U, h, _, _ => by simpa only [rep] using h
  | .view .., v, F, U, h, _, _ => by simp only [rep] at h
  | .ptr .., v, F, U, h, _, _ => by simp only [rep] at h
  | .sl true e sz cells, v, F, U, h, hF, hU => by
    simp only [rep] at h ⊢
    obtain ⟨n, vs, F', ho, hr, rfl⟩ := h
    refine ⟨n, vs, F', ?_, reps_move hr (fun b hb => hF b (List.mem_append_right _ hb)) hU, rfl⟩
    refine ⟨ho.1, ?_⟩
    rcases ho.2 with h0 | ⟨g, cap, cur, rfl, hg, hh, r⟩
    · exact .inl h0
    · exact .inr ⟨g, cap, cur, rfl, hg, (hF g (by simp [blkOf, Value.ownBlock])).trans hh, r⟩
  | .sl false e sz cells, v, F, U, h, hF, hU => by
    simp only [rep] at h ⊢
    obtain ⟨A, n, c, vs, U', rfl, hn, hl, hrd, hr, rfl, rfl⟩ := h
    exact ⟨A, n, c, vs, U', rfl, hn, hl, hrd.move (fun b hb => hU b (List.mem_append_left _ hb)), reps_move hr (by simp) (fun b hb => hU b (List.mem_append_right _ hb)), rfl, rfl⟩
theorem reps_move {w w' : World} : ∀ {ts : List TV} {vs F U}, reps w ts vs F U → (∀ b ∈ F, w'.heap[b]? = w.heap[b]?) → (∀ b ∈ U, w'.heap[b]? = w.heap[b]?) → reps w' ts vs F U
  | [], vs, F, U, h, _, _ => by simpa only [reps] using h
  | t :: ts, vs, F, U, h, hF, hU => by
    simp only [reps] at h ⊢
    obtain ⟨v, vs', F1, F2, U1, U2, rfl, rfl, rfl, h1, h2⟩ := h
    exact ⟨v, vs', F1, F2, U1, U2, rfl, rfl, rfl,
      rep_move h1 (fun b hb => hF b (List.mem_append_left _ hb)) (fun b hb => hU b (List.mem_append_left _ hb)),
      reps_move h2 (fun b hb => hF b (List.mem_append_right _ hb)) (fun b hb => hU b (List.mem_append_right _ hb))⟩
end

theorem own_Reads {w : World} {e sz n : Nat} {v : Value} {vs : List Value} (h : w.ownsRow 0 e sz v n vs) : Reads w v vs := by
  intro i u hi
  have hl := (List.getElem?_eq_some_iff.1 hi).1
  rcases h.2 with ⟨_, h0⟩ | ⟨g, cap, cur, rfl, _⟩
  · have := h.1
    subst h0
    simp at this
    subst this
    simp at hi
  · exact ⟨_, _, _, rfl, h.cells rfl i u hi⟩

mutual
/-- An owned tree, as what is only read. -/
theorem rep_share {w : World} : ∀ {t : TV} {v F U}, rep w t v F U → ∃ U', rep w (share t) v [] U' ∧ ∀ b ∈ U', b ∈ F ∨ b ∈ U
  | .int .., v, F, U, h => by simp only [rep, share] at h ⊢; exact ⟨[], by simp [h.1], by simp⟩
  | .bool _, v, F, U, h => by simp only [rep, share] at h ⊢; exact ⟨[], by simp [h.1], by simp⟩
  | .str _, v, F, U, h => by simp only [rep, share] at h ⊢; exact ⟨[], by simp [h.1], by simp⟩
  | .junk, v, F, U, h => by simp only [rep, share] at h ⊢; exact ⟨[], by simp [h.1], by simp⟩
  | .view .., v, F, U, h => by simp only [rep] at h
  | .ptr .., v, F, U, h => by simp only [rep] at h
  | .sl true e sz cells, v, F, U, h => by
    simp only [rep, share] at h ⊢
    obtain ⟨n, vs, F', ho, hr, rfl⟩ := h
    obtain ⟨U', hr', hU'⟩ := reps_share hr
    have hrd := own_Reads ho
    have hs : ∃ A c, v = .slice A n c ∧ n ≤ c := by
      rcases ho.2 with ⟨rfl, rfl⟩ | ⟨g, cap, cur, rfl, _, _, hc, _⟩
      · exact ⟨none, 0, rfl, Nat.le_refl _⟩
      · exact ⟨_, _, rfl, hc⟩
    obtain ⟨A, c, rfl, hc⟩ := hs
    refine ⟨_, ⟨A, n, c, vs, U', rfl, hc, ho.1, hrd, hr', by simp, rfl⟩, fun b hb => ?_⟩
    rcases List.mem_append.1 hb with hb | hb
    · exact .inl (List.mem_append_left _ hb)
    · exact (hU' b hb).imp (List.mem_append_right _) id
  | .sl false e sz cells, v, F, U, h => by
    simp only [rep, share] at h ⊢
    obtain ⟨A, n, c, vs, U', rfl, hn, hl, hrd, hr, rfl, rfl⟩ := h
    obtain ⟨U2, hr', hU'⟩ := reps_share hr
    refine ⟨_, ⟨A, n, c, vs, U2, rfl, hn, hl, hrd, hr', by simp, rfl⟩, fun b hb => ?_⟩
    rcases List.mem_append.1 hb with hb | hb
    · exact .inr (List.mem_append_left _ hb)
    · rcases hU' b hb with hb | hb
      · simp at hb
      · exact .inr (List.mem_append_right _ hb)
theorem reps_share {w : World} : ∀ {ts : List TV} {vs F U}, reps w ts vs F U → ∃ U', reps w (shares ts) vs [] U' ∧ ∀ b ∈ U', b ∈ F ∨ b ∈ U
  | [], vs, F, U, h => by simp only [reps, shares] at h ⊢; exact ⟨[], by simp [h.1], by simp⟩
  | t :: ts, vs, F, U, h => by
    simp only [reps, shares] at h ⊢
    obtain ⟨v, vs', F1, F2, U1, U2, rfl, rfl, rfl, h1, h2⟩ := h
    obtain ⟨Ua, ha, hUa⟩ := rep_share h1
    obtain ⟨Ub, hb, hUb⟩ := reps_share h2
    refine ⟨Ua ++ Ub, ⟨v, vs', [], [], Ua, Ub, rfl, by simp, rfl, ha, hb⟩, fun b hb => ?_⟩
    rcases List.mem_append.1 hb with hb | hb
    · exact (hUa b hb).imp (List.mem_append_left _) (List.mem_append_left _)
    · exact (hUb b hb).imp (List.mem_append_right _) (List.mem_append_right _)
end

end Go.TI
