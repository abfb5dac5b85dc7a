/- An interpreter of loaded Go code on trees, for every program: copies and constants. No condition; no program is in sight. -/
import Derived.Test.YtngfcadblnecpaaTIe
namespace Go.TI
open Go Go.RowKit

section
variable {w0 : World} {FA UA : List Nat} {N : Nat} {w : World} {a : Act} {E : St} {blk : Root → Nat} {FS US : Root → List Nat}

theorem rep_scalar_F {w : World} {t : TV} {v : Value} {F U : List Nat} (h : rep w t v F U) (ht : ∀ e sz cells, t ≠ .sl true e sz cells) : F = [] := by
  cases t with
  | sl o e sz cells =>
    cases o
    · simp only [rep] at h
      obtain ⟨_, _, _, _, _, _, _, _, _, _, h, _⟩ := h
      exact h
    · exact absurd rfl (ht e sz cells)
  | int _ _ => simp only [rep] at h; exact h.2.1
  | bool _ => simp only [rep] at h; exact h.2.1
  | str _ => simp only [rep] at h; exact h.2.1
  | junk => simp only [rep] at h; exact h.2.1
  | view _ _ _ _ => simp only [rep] at h
  | ptr _ _ _ _ => simp only [rep] at h

theorem see_rel {r : Root} {q : List Nat} {c : Nat} {t : TV} {v : Value} {F U : List Nat} (h : cellX w a E blk t v F U)
    (hp : ∀ e sz cells, t = .sl true e sz cells → pv w a blk r q c = some v ∧ E.place r q c = some t) :
    ∃ U', cellX w a E blk (see E r q c t) v [] U' ∧ ∀ b ∈ U', b ∈ U := by
  cases t with
  | sl o e sz cells =>
    cases o
    · have hF := rep_scalar_F h (by simp)
      subst hF
      exact ⟨U, h, fun _ hb => hb⟩
    · obtain ⟨h1, h2⟩ := hp e sz cells rfl
      exact ⟨[], ⟨rfl, rfl, Nat.le_refl _, fun _ => ⟨h1, by rw [h2]; rfl⟩⟩, by simp⟩
  | int _ _ =>
    have hF := rep_scalar_F h (by simp)
    subst hF
    exact ⟨U, h, fun _ hb => hb⟩
  | bool _ =>
    have hF := rep_scalar_F h (by simp)
    subst hF
    exact ⟨U, h, fun _ hb => hb⟩
  | str _ =>
    have hF := rep_scalar_F h (by simp)
    subst hF
    exact ⟨U, h, fun _ hb => hb⟩
  | junk => exact ⟨[], ⟨rfl, rfl⟩, by simp⟩
  | view r ver q j =>
    obtain ⟨rfl, rfl, h⟩ := h
    exact ⟨[], ⟨rfl, rfl, h⟩, by simp⟩
  | ptr r ver q j =>
    obtain ⟨rfl, rfl, h⟩ := h
    exact ⟨[], ⟨rfl, rfl, h⟩, by simp⟩

theorem sees_rel {r : Root} {q : List Nat} : ∀ {ts : List TV} {vs : List Value} {F U : List Nat} (c : Nat), cellsX w a E blk ts vs F U →
    (∀ i t v, ts[i]? = some t → vs[i]? = some v → ∀ e sz cells, t = .sl true e sz cells → pv w a blk r q (c + i) = some v ∧ E.place r q (c + i) = some t) →
    ∃ U', cellsX w a E blk (sees E r q c ts) vs [] U' ∧ ∀ b ∈ U', b ∈ U
  | [], vs, F, U, c, h, _ => by
    obtain ⟨rfl, rfl, rfl⟩ := h
    exact ⟨[], ⟨rfl, rfl, rfl⟩, by simp⟩
  | t :: ts, vs, F, U, c, h, hp => by
    obtain ⟨v, vs', F1, F2, U1, U2, rfl, rfl, rfl, h1, h2⟩ := h
    obtain ⟨Ua, ha, hUa⟩ := see_rel (r := r) (q := q) (c := c) h1 (fun e sz cells he => by simpa using hp 0 t v rfl rfl e sz cells he)
    obtain ⟨Ub, hb, hUb⟩ := sees_rel (r := r) (q := q) (c + 1) h2 (fun i t' v' hi hv e sz cells he => by
      have := hp (i + 1) t' v' (by simpa using hi) (by simpa using hv) e sz cells he
      rwa [show c + (i + 1) = c + 1 + i from by omega] at this)
    refine ⟨Ua ++ Ub, ⟨v, vs', [], [], Ua, Ub, rfl, rfl, rfl, ha, hb⟩, fun b hb => ?_⟩
    rcases List.mem_append.1 hb with hb | hb
    · exact List.mem_append_left _ (hUa b hb)
    · exact List.mem_append_right _ (hUb b hb)

theorem cellsX_len {w : World} {a : Act} {E : St} {blk : Root → Nat} : ∀ {ts : List TV} {vs : List Value} {F U : List Nat}, cellsX w a E blk ts vs F U → vs.length = ts.length
  | [], _, _, _, h => by obtain ⟨rfl, _⟩ := h; rfl
  | t :: ts, vs, F, U, h => by
    obtain ⟨v, vs', F1, F2, U1, U2, rfl, _, _, _, h2⟩ := h
    simp [cellsX_len h2]

variable {P : Program}

theorem const_rep {t : TypeId} {v : Value} {x : TV} (h : constTV P t v = some x) : rep w x v [] [] ∧ v.cells = #[v] := by
  unfold constTV at h
  split at h
  · injection h with h; subst h; exact ⟨by simp [rep], rfl⟩
  · injection h with h; subst h; exact ⟨by simp [rep], rfl⟩
  · injection h with h; subst h; exact ⟨by simp [rep], rfl⟩
  · split at h
    · injection h with h
      subst h
      refine ⟨?_, rfl⟩
      simp only [rep]
      exact ⟨0, [], [], World.ownsRow_nil w 0 _ _, by simp [reps], by simp [blkOf, Value.ownBlock]⟩
    · cases h
  · cases h

theorem cellX_of_rep {t : TV} {v : Value} {F U : List Nat} (h : rep w t v F U) : cellX w a E blk t v F U := by
  cases t with
  | view _ _ _ _ => simp only [rep] at h
  | ptr _ _ _ _ => simp only [rep] at h
  | junk => simp only [rep] at h; exact h.2
  | int _ _ => exact h
  | bool _ => exact h
  | str _ => exact h
  | sl _ _ _ _ => exact h

/-- A copied operand. -/
theorem val_rel (h : Rel w0 FA UA N w a E blk FS US) {o : Operand} {t : TypeId} {s : SV} (hv : E.val P t o = some s) :
    ∃ U, svX w a E blk s (a.eval o) [] U ∧ ∀ b ∈ U, ∃ r, b ∈ US r := by
  unfold St.val at hv
  split at hv
  · rename_i n
    have hs := h.slot n
    split at hv
    · rename_i x hx
      injection hv with hv
      subst hv
      rw [hx] at hs
      simp only [svX] at hs
      obtain ⟨hc, hj⟩ := hs
      obtain ⟨U', h1, h2⟩ := see_rel (r := .slot n) (q := []) (c := 0) hc (fun e sz cells he => by
        subst he
        refine ⟨?_, ?_⟩
        · simp [pv, rootCell, hj rfl]
        · simp [St.place, St.root, hx, SV.cells, cont])
      refine ⟨U', ?_, fun b hb => ⟨_, h2 b hb⟩⟩
      simp only [svX]
      refine ⟨h1, fun hjk => ?_⟩
      cases x with
      | junk => simp [see, TV.isJunk] at hjk
      | _ => exact hj rfl
    · rename_i cs hx
      injection hv with hv
      subst hv
      rw [hx] at hs
      simp only [svX] at hs
      obtain ⟨vs, hvs, hc⟩ := hs
      obtain ⟨U', h1, h2⟩ := sees_rel (r := .slot n) (q := []) 0 hc (fun i t' v' hi hv' e sz cells he => by
        subst he
        refine ⟨?_, ?_⟩
        · simp [pv, rootCell, hvs, Value.cells, hv']
        · simp [St.place, St.root, hx, SV.cells, cont, hi])
      refine ⟨U', ?_, fun b hb => ⟨_, h2 b hb⟩⟩
      simp only [svX]
      exact ⟨vs, hvs, h1⟩
    · cases hv
  · rename_i v
    obtain ⟨x, hx, rfl⟩ := Option.map_eq_some_iff.1 hv
    obtain ⟨h1, h2⟩ := const_rep (w := w) hx
    refine ⟨[], ?_, by simp⟩
    simp only [svX]
    exact ⟨cellX_of_rep h1, fun _ => h2⟩
  · cases hv

/-- What is copied may be put into a slot. -/
theorem fits_copy (h : Rel w0 FA UA N w a E blk FS US) {U : List Nat} (hU : ∀ b ∈ U, ∃ r, b ∈ US r) (d : Root) : Fits w0 FA UA w FS US d [] U where
  nd := List.nodup_nil
  f1 := by simp
  fu := by simp
  u1 := fun r _ b hb hb' => by
    obtain ⟨s, hs⟩ := hU b hb
    exact h.disU r s b hb' hs
  inF := by simp
  inU := fun b hb => by
    obtain ⟨s, hs⟩ := hU b hb
    exact h.inU s b hs
end
end Go.TI
