/- An interpreter of loaded Go code on trees, for every program: two roots get new contents. No condition; no program is in sight. -/
import Derived.Test.YtngfcadblnecpaaTIo
namespace Go.TI
open Go Go.RowKit
set_option linter.unusedSimpArgs false
set_option linter.unusedVariables false

/-- A root stands as the state says. -/
def rootOk (w : World) (a : Act) (E : St) (blk : Root → Nat) (r : Root) (F U : List Nat) : Prop :=
  match r with
  | .slot n => svX w a E blk (E.slots n) (a.eval (.tmp n)) F U
  | .hand => True
  | r => (E.boxes r = none ∧ F = [] ∧ U = []) ∨ ∃ cs cur T F0, E.boxes r = some cs ∧ w.heap[blk r]? = some (.cells cur T (0, 0)) ∧ reps w cs cur.toList F0 U ∧ F = blk r :: F0

theorem Steady.trans {w1 w2 w3 : World} {a1 a2 a3 : Act} {E1 E2 E3 : St} {b1 b2 b3 : Root → Nat} {r : Root} (h : Steady w1 w2 a1 a2 E1 E2 b1 b2 r) (k : Steady w2 w3 a2 a3 E2 E3 b2 b3 r) : Steady w1 w3 a1 a3 E1 E3 b1 b3 r := by
  constructor
  · rcases h.views with h | ⟨h1, h2, h3⟩ <;> rcases k.views with k | ⟨k1, k2, k3⟩
    · exact .inl (by omega)
    · exact .inl (by omega)
    · exact .inl (by omega)
    · refine .inr ⟨by omega, fun q j v hv hs => ?_, fun q j ad hn hv hq => ?_⟩
      · obtain ⟨h4, h5⟩ := h2 q j v hv hs
        exact k2 q j v h4 h5
      · obtain ⟨h4, h5⟩ := h3 q j ad hn hv hq
        exact k3 q j ad hn h4 h5
  · rcases h.addrs with h | ⟨h1, h2⟩ <;> rcases k.addrs with k | ⟨k1, k2⟩
    · exact .inl (by omega)
    · exact .inl (by omega)
    · exact .inl (by omega)
    · refine .inr ⟨by omega, fun j ad hv hs => ?_⟩
      obtain ⟨h4, h5⟩ := h2 j ad hv hs
      exact k2 j ad h4 h5
theorem Steady.refl {w : World} {a : Act} {E : St} {blk : Root → Nat} {r : Root} : Steady w w a a E E blk blk r :=
  ⟨.inr ⟨rfl, fun _ _ _ h k => ⟨h, k⟩, fun _ _ _ _ h k => ⟨h, k⟩⟩, .inr ⟨rfl, fun _ _ h k => ⟨h, k⟩⟩⟩

section
variable {w0 : World} {FA UA : List Nat} {N : Nat} {w : World} {a : Act} {E : St} {blk : Root → Nat} {FS US : Root → List Nat} {P : Program}

theorem Rel.root (h : Rel w0 FA UA N w a E blk FS US) (r : Root) : rootOk w a E blk r (FS r) (US r) := by
  cases r with
  | slot n => exact h.slot n
  | hand => trivial
  | box n => exact h.box (.box n) rfl
  | ext n => exact h.box (.ext n) rfl

theorem rootOk_step {w' : World} {a' : Act} {E' : St} {blk' : Root → Nat} {r : Root} {F U : List Nat} (hs : ∀ s, Steady w w' a a' E E' blk blk' s) (h : rootOk w a E blk r F U)
    (hsl : ∀ n, r = .slot n → E'.slots n = E.slots n ∧ a'.eval (.tmp n) = a.eval (.tmp n)) (hbx : r.mem = true → E'.boxes r = E.boxes r ∧ blk' r = blk r)
    (hF : ∀ b ∈ F, w'.heap[b]? = w.heap[b]?) (hU : ∀ b ∈ U, w'.heap[b]? = w.heap[b]?) : rootOk w' a' E' blk' r F U := by
  have hmem : ∀ r : Root, r.mem = true → (E'.boxes r = E.boxes r ∧ blk' r = blk r) → ((E.boxes r = none ∧ F = [] ∧ U = []) ∨ ∃ cs cur T F0, E.boxes r = some cs ∧ w.heap[blk r]? = some (.cells cur T (0, 0)) ∧ reps w cs cur.toList F0 U ∧ F = blk r :: F0) →
      ((E'.boxes r = none ∧ F = [] ∧ U = []) ∨ ∃ cs cur T F0, E'.boxes r = some cs ∧ w'.heap[blk' r]? = some (.cells cur T (0, 0)) ∧ reps w' cs cur.toList F0 U ∧ F = blk' r :: F0) := by
    intro r hm hb h
    obtain ⟨h1, h2⟩ := hb
    rw [h1, h2]
    rcases h with h | ⟨cs, cur, T, F0, h3, h4, h5, rfl⟩
    · exact .inl h
    · exact .inr ⟨cs, cur, T, F0, h3, (hF _ (by simp)).trans h4, reps_move h5 (fun b hb => hF b (by simp [hb])) hU, rfl⟩
  cases r with
  | slot n =>
    obtain ⟨h1, h2⟩ := hsl n rfl
    simp only [rootOk] at h ⊢
    rw [h1, h2]
    exact svX_step hs h hF hU
  | hand => trivial
  | box n => exact hmem (.box n) rfl (hbx rfl) h
  | ext n => exact hmem (.ext n) rfl (hbx rfl) h

/-- Two roots get a new content; all else stands. -/
theorem Rel.two (h : Rel w0 FA UA N w a E blk FS US) {w' : World} {a' : Act} {E' : St} {blk' : Root → Nat} {r1 r2 : Root} {L1 L2 V1 V2 : List Nat} (hne : r1 ≠ r2)
    (hnd : (L1 ++ L2).Nodup)
    (hL : ∀ b ∈ L1 ++ L2, (b ∈ FS r1 ∨ b ∈ FS r2 ∨ w.heap.size ≤ b) ∧ b < w'.heap.size)
    (hV : ∀ b ∈ V1 ++ V2, (∃ s, b ∈ US s) ∨ ((b ∈ FS r1 ∨ b ∈ FS r2 ∨ w.heap.size ≤ b) ∧ b ∉ L1 ++ L2 ∧ b < w'.heap.size))
    (hsize : w.heap.size ≤ w'.heap.size) (hos : w'.os = w.os) (htape : w'.tape = w.tape) (hout : w'.output = w.output)
    (hkeep : ∀ b, b < w.heap.size → b ∉ FS r1 → b ∉ FS r2 → w'.heap[b]? = w.heap[b]?)
    (hst : ∀ s, Steady w w' a a' E E' blk blk' s)
    (hslots : ∀ n, Root.slot n ≠ r1 → Root.slot n ≠ r2 → E'.slots n = E.slots n ∧ a'.eval (.tmp n) = a.eval (.tmp n))
    (hboxes : ∀ s, s.mem = true → s ≠ r1 → s ≠ r2 → E'.boxes s = E.boxes s ∧ blk' s = blk s)
    (h1 : rootOk w' a' E' blk' r1 L1 V1) (h2 : rootOk w' a' E' blk' r2 L2 V2)
    (hhand : E'.boxes .hand = none) (hlen : N ≤ a'.tmps.size) (hdef : a'.defers = []) :
    Rel w0 FA UA N w' a' E' blk' (upd (upd FS r1 L1) r2 L2) (upd (upd US r1 V1) r2 V2) := by
  have eF1 : upd (upd FS r1 L1) r2 L2 r1 = L1 := by rw [upd_ne hne, upd_eq]
  have eF2 : upd (upd FS r1 L1) r2 L2 r2 = L2 := upd_eq _ _ _
  have eF : ∀ s, s ≠ r1 → s ≠ r2 → upd (upd FS r1 L1) r2 L2 s = FS s := fun s h1 h2 => by rw [upd_ne h2, upd_ne h1]
  have eU1 : upd (upd US r1 V1) r2 V2 r1 = V1 := by rw [upd_ne hne, upd_eq]
  have eU2 : upd (upd US r1 V1) r2 V2 r2 = V2 := upd_eq _ _ _
  have eU : ∀ s, s ≠ r1 → s ≠ r2 → upd (upd US r1 V1) r2 V2 s = US s := fun s h1 h2 => by rw [upd_ne h2, upd_ne h1]
  obtain ⟨hnd1, hnd2, hnd3⟩ := List.nodup_append.1 hnd
  have hL1 : ∀ b ∈ L1, b ∈ L1 ++ L2 := fun b hb => List.mem_append_left _ hb
  have hL2 : ∀ b ∈ L2, b ∈ L1 ++ L2 := fun b hb => List.mem_append_right _ hb
  -- a block of L1 ++ L2 is of no third root
  have hthird : ∀ s, s ≠ r1 → s ≠ r2 → ∀ b ∈ FS s, b ∉ L1 ++ L2 := by
    intro s hs1 hs2 b hb hbL
    rcases (hL b hbL).1 with hx | hx | hx
    · exact h.dis s r1 hs1 b hb hx
    · exact h.dis s r2 hs2 b hb hx
    · have := (h.inF s b hb).2
      omega
  have hthirdU : ∀ s, ∀ b ∈ US s, b ∉ L1 ++ L2 := by
    intro s b hb hbL
    rcases (hL b hbL).1 with hx | hx | hx
    · exact h.disU r1 s b hx hb
    · exact h.disU r2 s b hx hb
    · have := (h.inU s b hb).2
      omega
  have hsame : ∀ s, s ≠ r1 → s ≠ r2 → ∀ b ∈ FS s, w'.heap[b]? = w.heap[b]? := fun s hs1 hs2 b hb => hkeep b (h.inF s b hb).2 (fun e => h.dis s r1 hs1 b hb e) (fun e => h.dis s r2 hs2 b hb e)
  have hsameU : ∀ s, ∀ b ∈ US s, w'.heap[b]? = w.heap[b]? := fun s b hb => hkeep b (h.inU s b hb).2 (fun e => h.disU r1 s b e hb) (fun e => h.disU r2 s b e hb)
  have hall : ∀ r, rootOk w' a' E' blk' r (upd (upd FS r1 L1) r2 L2 r) (upd (upd US r1 V1) r2 V2 r) := by
    intro r
    by_cases hr1 : r = r1
    · subst hr1; rw [eF1, eU1]; exact h1
    · by_cases hr2 : r = r2
      · subst hr2; rw [eF2, eU2]; exact h2
      · rw [eF r hr1 hr2, eU r hr1 hr2]
        exact rootOk_step hst (h.root r) (fun n hn => hslots n (hn ▸ hr1) (hn ▸ hr2)) (fun hm => hboxes r hm hr1 hr2) (hsame r hr1 hr2) (hsameU r)
  -- where the blocks of the new account come from
  have hFin : ∀ s, ∀ b ∈ upd (upd FS r1 L1) r2 L2 s, b ∈ L1 ++ L2 ∨ (s ≠ r1 ∧ s ≠ r2 ∧ b ∈ FS s) := by
    intro s b hb
    by_cases hs2 : s = r2
    · subst hs2; rw [eF2] at hb; exact .inl (hL2 b hb)
    · by_cases hs1 : s = r1
      · subst hs1; rw [eF1] at hb; exact .inl (hL1 b hb)
      · rw [eF s hs1 hs2] at hb; exact .inr ⟨hs1, hs2, hb⟩
  have hUin : ∀ s, ∀ b ∈ upd (upd US r1 V1) r2 V2 s, (∃ t, b ∈ US t) ∨ ((b ∈ FS r1 ∨ b ∈ FS r2 ∨ w.heap.size ≤ b) ∧ b ∉ L1 ++ L2 ∧ b < w'.heap.size) := by
    intro s b hb
    by_cases hs2 : s = r2
    · subst hs2; rw [eU2] at hb; exact hV b (List.mem_append_right _ hb)
    · by_cases hs1 : s = r1
      · subst hs1; rw [eU1] at hb; exact hV b (List.mem_append_left _ hb)
      · rw [eU s hs1 hs2] at hb; exact .inl ⟨s, hb⟩
  constructor
  · intro n; exact hall (.slot n)
  · intro r hr
    have := hall r
    cases r <;> first | exact this | cases hr
  · exact hhand
  · intro s
    by_cases hs2 : s = r2
    · subst hs2; rw [eF2]; exact hnd2
    · by_cases hs1 : s = r1
      · subst hs1; rw [eF1]; exact hnd1
      · rw [eF s hs1 hs2]; exact h.nodup s
  · intro s s' hss b hb hb'
    by_cases hs2 : s = r2
    · subst hs2
      rw [eF2] at hb
      by_cases hs1' : s' = r1
      · subst hs1'
        rw [eF1] at hb'
        exact hnd3 b hb' b hb rfl
      · rw [eF s' hs1' (Ne.symm hss)] at hb'
        exact hthird s' hs1' (Ne.symm hss) b hb' (hL2 b hb)
    · by_cases hs1 : s = r1
      · subst hs1
        rw [eF1] at hb
        by_cases hs2' : s' = r2
        · subst hs2'
          rw [eF2] at hb'
          exact hnd3 b hb b hb' rfl
        · rw [eF s' (Ne.symm hss) hs2'] at hb'
          exact hthird s' (Ne.symm hss) hs2' b hb' (hL1 b hb)
      · rw [eF s hs1 hs2] at hb
        rcases hFin s' b hb' with hx | ⟨_, _, hx⟩
        · exact hthird s hs1 hs2 b hb hx
        · exact h.dis s s' hss b hb hx
  · intro s s' b hb hb'
    rcases hFin s b hb with hx | ⟨hs1, hs2, hx⟩
    · rcases hUin s' b hb' with ⟨t, hy⟩ | ⟨_, hy, _⟩
      · exact hthirdU t b hy hx
      · exact hy hx
    · rcases hUin s' b hb' with ⟨t, hy⟩ | ⟨hy | hy | hy, _, _⟩
      · exact h.disU s t b hx hy
      · exact h.dis s r1 hs1 b hx hy
      · exact h.dis s r2 hs2 b hx hy
      · have := (h.inF s b hx).2
        omega
  · intro s b hb
    rcases hFin s b hb with hx | ⟨hs1, hs2, hx⟩
    · obtain ⟨hy, hlt⟩ := hL b hx
      refine ⟨?_, hlt⟩
      rcases hy with hy | hy | hy
      · exact (h.inF r1 b hy).1
      · exact (h.inF r2 b hy).1
      · exact .inr (Nat.le_trans h.size hy)
    · exact ⟨(h.inF s b hx).1, Nat.lt_of_lt_of_le (h.inF s b hx).2 hsize⟩
  · intro s b hb
    rcases hUin s b hb with ⟨t, hy⟩ | ⟨hy, _, hlt⟩
    · exact ⟨(h.inU t b hy).1, Nat.lt_of_lt_of_le (h.inU t b hy).2 hsize⟩
    · refine ⟨.inr ?_, hlt⟩
      rcases hy with hy | hy | hy
      · exact (h.inF r1 b hy).1
      · exact (h.inF r2 b hy).1
      · exact .inr (Nat.le_trans h.size hy)
  · exact h.disA
  · exact hos.trans h.os
  · exact htape.trans h.tape
  · exact hout.trans h.output
  · exact Nat.le_trans h.size hsize
  · intro b hb hbF
    have hno : ∀ r, b ∉ FS r := fun r hbr => by
      rcases (h.inF r b hbr).1 with hx | hx
      · exact hbF hx
      · omega
    rw [hkeep b (Nat.lt_of_lt_of_le hb h.size) (hno r1) (hno r2)]
    exact h.keep b hb hbF
  · exact hlen
  · exact hdef
end
end Go.TI
