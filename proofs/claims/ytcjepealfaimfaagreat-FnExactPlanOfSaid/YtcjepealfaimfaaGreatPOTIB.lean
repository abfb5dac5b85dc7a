/- An interpreter of loaded Go code on trees, for every program: two roots get new contents. No condition; no program is in sight. -/
import Derived.Test.YtcjepealfaimfaaGreatPOTIA
import Derived.Laws.MakeOwn
import Derived.Laws.CopyRow
import Derived.Maps.AppendAt
import Derived.Deep.Upon
import Derived.Lib.AppendStr
import Derived.Laws.IdiomStrings
import Derived.Laws.Tables
import Derived.Great.BuildSlice
namespace Go.TI
open Go Go.RowKit
set_option linter.unusedSimpArgs false
set_option linter.unusedVariables false
def rootOk (w : World) (a : Act) (E : St) (blk : Root → Nat) (r : Root) (F U : List Nat) : Prop :=
  match r with
  | .slot n => svX w a E blk (E.slots n) (a.eval (.tmp n)) F U
  | .hand => True
  | r => (E.boxes r = none ∧ F = [] ∧ U = []) ∨ ∃ cs cur T F0, E.boxes r = some cs ∧ w.heap[blk r]? = some (.cells cur T (0, 0)) ∧ reps w cs cur.toList F0 U ∧ F = blk r :: F0
theorem Steady.trans {w1 w2 w3 : World} {a1 a2 a3 : Act} {E1 E2 E3 : St} {b1 b2 b3 : Root → Nat} {r : Root} (h : Steady w1 w2 a1 a2 E1 E2 b1 b2 r) (k : Steady w2 w3 a2 a3 E2 E3 b2 b3 r) : Steady w1 w3 a1 a3 E1 E3 b1 b3 r := by
  constructor
  · rcases h.views with h | ⟨h1, h2, h3⟩ <;> rcases k.views with k | ⟨k1, k2, k3⟩
    · exact .inl (by omega)
    · exact .inl (by omega)
    · exact .inl (by omega)
    · refine .inr ⟨by omega, fun q j v hv hs => ?_, fun q j ad hn hv hq => ?_⟩
      · obtain ⟨h4, h5⟩ := h2 q j v hv hs
        exact k2 q j v h4 h5
      · obtain ⟨h4, h5⟩ := h3 q j ad hn hv hq
        exact k3 q j ad hn h4 h5
  · rcases h.addrs with h | ⟨h1, h2⟩ <;> rcases k.addrs with k | ⟨k1, k2⟩
    · exact .inl (by omega)
    · exact .inl (by omega)
    · exact .inl (by omega)
    · refine .inr ⟨by omega, fun j ad hv hs => ?_⟩
      obtain ⟨h4, h5⟩ := h2 j ad hv hs
      exact k2 j ad h4 h5
theorem Steady.refl {w : World} {a : Act} {E : St} {blk : Root → Nat} {r : Root} : Steady w w a a E E blk blk r :=
  ⟨.inr ⟨rfl, fun _ _ _ h k => ⟨h, k⟩, fun _ _ _ _ h k => ⟨h, k⟩⟩, .inr ⟨rfl, fun _ _ h k => ⟨h, k⟩⟩⟩
section
variable {w0 : Base} {FA UA : List Nat} {N : Nat} {w : World} {a : Act} {E : St} {blk : Root → Nat} {FS US : Root → List Nat} {P : Program}
theorem Rel.root (h : Rel w0 FA UA N w a E blk FS US) (r : Root) : rootOk w a E blk r (FS r) (US r) := by
  cases r with
  | slot n => exact h.slot n
  | hand => trivial
  | box n => exact h.box (.box n) rfl
  | ext n => exact h.box (.ext n) rfl
theorem rootOk_step {w' : World} {a' : Act} {E' : St} {blk' : Root → Nat} {r : Root} {F U : List Nat} (hs : ∀ s, Steady w w' a a' E E' blk blk' s) (h : rootOk w a E blk r F U)
    (hsl : ∀ n, r = .slot n → E'.slots n = E.slots n ∧ a'.eval (.tmp n) = a.eval (.tmp n)) (hbx : r.mem = true → E'.boxes r = E.boxes r ∧ blk' r = blk r)
    (hF : ∀ b ∈ F, w'.heap[b]? = w.heap[b]?) (hU : ∀ b ∈ U, w'.heap[b]? = w.heap[b]?) : rootOk w' a' E' blk' r F U := by
  have hmem : ∀ r : Root, r.mem = true → (E'.boxes r = E.boxes r ∧ blk' r = blk r) → ((E.boxes r = none ∧ F = [] ∧ U = []) ∨ ∃ cs cur T F0, E.boxes r = some cs ∧ w.heap[blk r]? = some (.cells cur T (0, 0)) ∧ reps w cs cur.toList F0 U ∧ F = blk r :: F0) →
      ((E'.boxes r = none ∧ F = [] ∧ U = []) ∨ ∃ cs cur T F0, E'.boxes r = some cs ∧ w'.heap[blk' r]? = some (.cells cur T (0, 0)) ∧ reps w' cs cur.toList F0 U ∧ F = blk' r :: F0) := by
    intro r hm hb h
    obtain ⟨h1, h2⟩ := hb
    rw [h1, h2]
    rcases h with h | ⟨cs, cur, T, F0, h3, h4, h5, rfl⟩
    · exact .inl h
    · exact .inr ⟨cs, cur, T, F0, h3, (hF _ (by simp)).trans h4, reps_move h5 (fun b hb => hF b (by simp [hb])) hU, rfl⟩
  cases r with
  | slot n =>
    obtain ⟨h1, h2⟩ := hsl n rfl
    simp only [rootOk] at h ⊢
    rw [h1, h2]
    exact svX_step hs h hF hU
  | hand => trivial
  | box n => exact hmem (.box n) rfl (hbx rfl) h
  | ext n => exact hmem (.ext n) rfl (hbx rfl) h
theorem Rel.two (h : Rel w0 FA UA N w a E blk FS US) {w' : World} {a' : Act} {E' : St} {blk' : Root → Nat} {r1 r2 : Root} {L1 L2 V1 V2 : List Nat} (hne : r1 ≠ r2)
    (hnd : (L1 ++ L2).Nodup)
    (hL : ∀ b ∈ L1 ++ L2, (b ∈ FS r1 ∨ b ∈ FS r2 ∨ w.heap.size ≤ b) ∧ b < w'.heap.size)
    (hV : ∀ b ∈ V1 ++ V2, (∃ s, b ∈ US s) ∨ ((b ∈ FS r1 ∨ b ∈ FS r2 ∨ w.heap.size ≤ b) ∧ b ∉ L1 ++ L2 ∧ b < w'.heap.size))
    (hsize : w.heap.size ≤ w'.heap.size) (hos : w'.os = w.os) (htape : w'.tape = w.tape) (hout : w'.output = w.output)
    (hkeep : ∀ b, b < w.heap.size → b ∉ FS r1 → b ∉ FS r2 → w'.heap[b]? = w.heap[b]?)
    (hst : ∀ s, Steady w w' a a' E E' blk blk' s)
    (hslots : ∀ n, Root.slot n ≠ r1 → Root.slot n ≠ r2 → E'.slots n = E.slots n ∧ a'.eval (.tmp n) = a.eval (.tmp n))
    (hboxes : ∀ s, s.mem = true → s ≠ r1 → s ≠ r2 → E'.boxes s = E.boxes s ∧ blk' s = blk s)
    (h1 : rootOk w' a' E' blk' r1 L1 V1) (h2 : rootOk w' a' E' blk' r2 L2 V2)
    (hhand : E'.boxes .hand = none) (hlen : N ≤ a'.tmps.size) (hdef : a'.defers = []) (hx : ∀ i, blk' (.ext i) = blk (.ext i) := by first | (intro i; rfl) | (intro i; simp [upd])) (hfz : ∀ n, E'.fz = some n → a'.eval (.tmp n) = w0.av n := by first | exact h.frz | (intro n hn; (try simp only [bump_fz, setRoot_fz] at hn); exact h.frz n hn) | (intro n hn; (try simp only [bump_fz, setRoot_fz] at hn); obtain ⟨k1, k2⟩ := fzPut_some hn; (try simp only [bump_fz, setRoot_fz] at k1); rw [eval_put_ne k2]; exact h.frz n k1)) (hamb : E'.amb = E.amb := by first | rfl | (simp only [bump_amb, setRoot_amb]; done) | (simp only [put_amb, bump_amb, setRoot_amb]; done)) :
    Rel w0 FA UA N w' a' E' blk' (upd (upd FS r1 L1) r2 L2) (upd (upd US r1 V1) r2 V2) := by
  have eF1 : upd (upd FS r1 L1) r2 L2 r1 = L1 := by rw [upd_ne hne, upd_eq]
  have eF2 : upd (upd FS r1 L1) r2 L2 r2 = L2 := upd_eq _ _ _
  have eF : ∀ s, s ≠ r1 → s ≠ r2 → upd (upd FS r1 L1) r2 L2 s = FS s := fun s h1 h2 => by rw [upd_ne h2, upd_ne h1]
  have eU1 : upd (upd US r1 V1) r2 V2 r1 = V1 := by rw [upd_ne hne, upd_eq]
  have eU2 : upd (upd US r1 V1) r2 V2 r2 = V2 := upd_eq _ _ _
  have eU : ∀ s, s ≠ r1 → s ≠ r2 → upd (upd US r1 V1) r2 V2 s = US s := fun s h1 h2 => by rw [upd_ne h2, upd_ne h1]
  obtain ⟨hnd1, hnd2, hnd3⟩ := List.nodup_append.1 hnd
  have hL1 : ∀ b ∈ L1, b ∈ L1 ++ L2 := fun b hb => List.mem_append_left _ hb
  have hL2 : ∀ b ∈ L2, b ∈ L1 ++ L2 := fun b hb => List.mem_append_right _ hb
  -- a block of L1 ++ L2 is of no third root
  have hthird : ∀ s, s ≠ r1 → s ≠ r2 → ∀ b ∈ FS s, b ∉ L1 ++ L2 := by
    intro s hs1 hs2 b hb hbL
    rcases (hL b hbL).1 with hx | hx | hx
    · exact h.dis s r1 hs1 b hb hx
    · exact h.dis s r2 hs2 b hb hx
    · have := (h.inF s b hb).2
      omega
  have hthirdU : ∀ s, ∀ b ∈ US s, b ∉ L1 ++ L2 := by
    intro s b hb hbL
    rcases (hL b hbL).1 with hx | hx | hx
    · exact h.disU r1 s b hx hb
    · exact h.disU r2 s b hx hb
    · have := (h.inU s b hb).2
      omega
  have hsame : ∀ s, s ≠ r1 → s ≠ r2 → ∀ b ∈ FS s, w'.heap[b]? = w.heap[b]? := fun s hs1 hs2 b hb => hkeep b (h.inF s b hb).2 (fun e => h.dis s r1 hs1 b hb e) (fun e => h.dis s r2 hs2 b hb e)
  have hsameU : ∀ s, ∀ b ∈ US s, w'.heap[b]? = w.heap[b]? := fun s b hb => hkeep b (h.inU s b hb).2 (fun e => h.disU r1 s b e hb) (fun e => h.disU r2 s b e hb)
  have hall : ∀ r, rootOk w' a' E' blk' r (upd (upd FS r1 L1) r2 L2 r) (upd (upd US r1 V1) r2 V2 r) := by
    intro r
    by_cases hr1 : r = r1
    · subst hr1; rw [eF1, eU1]; exact h1
    · by_cases hr2 : r = r2
      · subst hr2; rw [eF2, eU2]; exact h2
      · rw [eF r hr1 hr2, eU r hr1 hr2]
        exact rootOk_step hst (h.root r) (fun n hn => hslots n (hn ▸ hr1) (hn ▸ hr2)) (fun hm => hboxes r hm hr1 hr2) (hsame r hr1 hr2) (hsameU r)
  -- where the blocks of the new account come from
  have hFin : ∀ s, ∀ b ∈ upd (upd FS r1 L1) r2 L2 s, b ∈ L1 ++ L2 ∨ (s ≠ r1 ∧ s ≠ r2 ∧ b ∈ FS s) := by
    intro s b hb
    by_cases hs2 : s = r2
    · subst hs2; rw [eF2] at hb; exact .inl (hL2 b hb)
    · by_cases hs1 : s = r1
      · subst hs1; rw [eF1] at hb; exact .inl (hL1 b hb)
      · rw [eF s hs1 hs2] at hb; exact .inr ⟨hs1, hs2, hb⟩
  have hUin : ∀ s, ∀ b ∈ upd (upd US r1 V1) r2 V2 s, (∃ t, b ∈ US t) ∨ ((b ∈ FS r1 ∨ b ∈ FS r2 ∨ w.heap.size ≤ b) ∧ b ∉ L1 ++ L2 ∧ b < w'.heap.size) := by
    intro s b hb
    by_cases hs2 : s = r2
    · subst hs2; rw [eU2] at hb; exact hV b (List.mem_append_right _ hb)
    · by_cases hs1 : s = r1
      · subst hs1; rw [eU1] at hb; exact hV b (List.mem_append_left _ hb)
      · rw [eU s hs1 hs2] at hb; exact .inl ⟨s, hb⟩
  constructor
  · intro n; exact hall (.slot n)
  · intro r hr
    have := hall r
    cases r <;> first | exact this | cases hr
  · exact hhand
  · intro s
    by_cases hs2 : s = r2
    · subst hs2; rw [eF2]; exact hnd2
    · by_cases hs1 : s = r1
      · subst hs1; rw [eF1]; exact hnd1
      · rw [eF s hs1 hs2]; exact h.nodup s
  · intro s s' hss b hb hb'
    by_cases hs2 : s = r2
    · subst hs2
      rw [eF2] at hb
      by_cases hs1' : s' = r1
      · subst hs1'
        rw [eF1] at hb'
        exact hnd3 b hb' b hb rfl
      · rw [eF s' hs1' (Ne.symm hss)] at hb'
        exact hthird s' hs1' (Ne.symm hss) b hb' (hL2 b hb)
    · by_cases hs1 : s = r1
      · subst hs1
        rw [eF1] at hb
        by_cases hs2' : s' = r2
        · subst hs2'
          rw [eF2] at hb'
          exact hnd3 b hb b hb' rfl
        · rw [eF s' (Ne.symm hss) hs2'] at hb'
          exact hthird s' (Ne.symm hss) hs2' b hb' (hL1 b hb)
      · rw [eF s hs1 hs2] at hb
        rcases hFin s' b hb' with hx | ⟨_, _, hx⟩
        · exact hthird s hs1 hs2 b hb hx
        · exact h.dis s s' hss b hb hx
  · intro s s' b hb hb'
    rcases hFin s b hb with hx | ⟨hs1, hs2, hx⟩
    · rcases hUin s' b hb' with ⟨t, hy⟩ | ⟨_, hy, _⟩
      · exact hthirdU t b hy hx
      · exact hy hx
    · rcases hUin s' b hb' with ⟨t, hy⟩ | ⟨hy | hy | hy, _, _⟩
      · exact h.disU s t b hx hy
      · exact h.dis s r1 hs1 b hx hy
      · exact h.dis s r2 hs2 b hx hy
      · have := (h.inF s b hx).2
        omega
  · intro s b hb
    rcases hFin s b hb with hx | ⟨hs1, hs2, hx⟩
    · obtain ⟨hy, hlt⟩ := hL b hx
      refine ⟨?_, hlt⟩
      rcases hy with hy | hy | hy
      · exact (h.inF r1 b hy).1
      · exact (h.inF r2 b hy).1
      · exact .inr (Nat.le_trans h.size hy)
    · exact ⟨(h.inF s b hx).1, Nat.lt_of_lt_of_le (h.inF s b hx).2 hsize⟩
  · intro s b hb
    rcases hUin s b hb with ⟨t, hy⟩ | ⟨hy, _, hlt⟩
    · exact ⟨(h.inU t b hy).1, Nat.lt_of_lt_of_le (h.inU t b hy).2 hsize⟩
    · refine ⟨.inr ?_, hlt⟩
      rcases hy with hy | hy | hy
      · exact (h.inF r1 b hy).1
      · exact (h.inF r2 b hy).1
      · exact .inr (Nat.le_trans h.size hy)
  · exact h.disA
  · exact hos.trans h.os
  · exact htape.trans h.tape
  · exact hout.trans h.output
  · exact Nat.le_trans h.size hsize
  · intro b hb hbF hbB
    have hno : ∀ r, b ∉ FS r := fun r hbr => by
      rcases (h.inF r b hbr).1 with hx | hx
      · exact hbF hx
      · omega
    rw [hkeep b (Nat.lt_of_lt_of_le hb h.size) (hno r1) (hno r2)]
    exact h.keep b hb hbF hbB
  · exact hlen
  · exact hdef
  · exact fun i => (hx i).trans (h.xblk i)
  · rw [hamb]; exact h.ambB
  · rw [hamb]
    refine E.amb.st w w' h.ambI fun b hb => ?_
    rw [← h.ambB] at hb
    obtain ⟨hb1, hb2, _⟩ := h.ambF b hb
    have hno : ∀ r, b ∉ FS r := fun r hbr => by
      rcases (h.inF r b hbr).1 with hx | hx
      · exact hb2 hx
      · omega
    exact hkeep b (Nat.lt_of_lt_of_le hb1 h.size) (hno r1) (hno r2)
  · exact hfz
  · exact h.ambF
end
end Go.TI
namespace Go.TI
open Go Go.RowKit
set_option linter.unusedSimpArgs false
set_option linter.unusedVariables false
section
variable {w0 : Base} {FA UA : List Nat} {N : Nat} {w : World} {a : Act} {blk : Root → Nat} {P : Program}
theorem takeCell_rel {E E' : St} {FS US : Root → List Nat} (h : Rel w0 FA UA N w a E blk FS US) {t x : TV} {v : Value} {U : List Nat} (hc : cellX w a E blk t v [] U) (hU : ∀ b ∈ U, ∃ r, b ∈ US r) (ht : takeCell E t = some (x, E')) :
    ∃ FS' US' F1 U1, rep w x v F1 U1 ∧ Rel w0 FA UA N w a E' blk FS' US' ∧ FS' .hand = FS .hand ++ F1 ∧ US' .hand = US .hand ++ U1 ∧ (∀ s, Steady w w a a E E' blk blk s) ∧ (∀ s b, b ∈ US s → ∃ s', b ∈ US' s') := by
  have hsh : ∀ (s : Root) (b : Nat) (U1 : List Nat), b ∈ US s → ∃ s', b ∈ upd US .hand (US .hand ++ U1) s' := by
    intro s b U1 hb
    by_cases hs : s = .hand
    · subst hs; exact ⟨.hand, by rw [upd_eq]; simp [hb]⟩
    · exact ⟨s, by rw [upd_ne hs]; exact hb⟩
  have copy : ∀ {x : TV} {U1 : List Nat}, rep w x v [] U1 → (∀ b ∈ U1, ∃ r, b ∈ US r) → E' = E →
      ∃ FS' US' F1 U1, rep w x v F1 U1 ∧ Rel w0 FA UA N w a E' blk FS' US' ∧ FS' .hand = FS .hand ++ F1 ∧ US' .hand = US .hand ++ U1 ∧ (∀ s, Steady w w a a E E' blk blk s) ∧ (∀ s b, b ∈ US s → ∃ s', b ∈ US' s') := by
    rintro x U1 hr hU1 rfl
    exact ⟨FS, _, [], U1, hr, h.handU hU1, by simp, by rw [upd_eq], fun s => Steady.refl, fun s b hb => hsh s b U1 hb⟩
  cases t with
  | int k n =>
    simp only [takeCell, Option.some.injEq, Prod.mk.injEq] at ht
    obtain ⟨rfl, rfl⟩ := ht
    exact copy hc hU rfl
  | bool b =>
    simp only [takeCell, Option.some.injEq, Prod.mk.injEq] at ht
    obtain ⟨rfl, rfl⟩ := ht
    exact copy hc hU rfl
  | str s =>
    simp only [takeCell, Option.some.injEq, Prod.mk.injEq] at ht
    obtain ⟨rfl, rfl⟩ := ht
    exact copy hc hU rfl
  | fn f ta cap =>
    simp only [takeCell, Option.some.injEq, Prod.mk.injEq] at ht
    obtain ⟨rfl, rfl⟩ := ht
    exact copy hc hU rfl
  | adr _ =>
    simp only [takeCell, Option.some.injEq, Prod.mk.injEq] at ht
    obtain ⟨rfl, rfl⟩ := ht
    exact copy hc hU rfl
  | hdr _ _ _ =>
    simp only [takeCell, Option.some.injEq, Prod.mk.injEq] at ht
    obtain ⟨rfl, rfl⟩ := ht
    exact copy hc hU rfl
  | ptr r ver q j => simp [takeCell] at ht
  | junk => simp [takeCell] at ht
  | sl o e sz cells =>
    simp only [takeCell] at ht
    simp only [Option.some.injEq, Prod.mk.injEq] at ht
    obtain ⟨rfl, rfl⟩ := ht
    exact copy hc hU rfl
  | view r ver q j =>
    obtain ⟨_, _, _, hvw⟩ := hc
    simp only [takeCell, takeAt] at ht
    split at ht
    · rename_i hver
      obtain ⟨hpv, _⟩ := hvw hver
      split at ht
      · rename_i e sz cells hpl
        split at ht
        · rename_i hown
          split at ht
          · rename_i cs hroot
            simp only [Option.some.injEq, Prod.mk.injEq] at ht
            obtain ⟨rfl, rfl⟩ := ht
            have hop : ownP cs q = true := by simpa [St.ownAt, hroot] using hown
            have hrh : r ≠ .hand := by
              rintro rfl
              simp [St.root, h.nohand] at hroot
            obtain ⟨F1, U1, G, V, hr, hVU, hrel⟩ := take_own h hpl hop hroot hpv
            have hsteady : ∀ s, Steady w w a a E ((E.setRoot r (updC cs q fun row => row.set j .junk)).bump r) blk blk s := fun s => steady_out (fun _ cs0 h0 => by
              rw [hroot] at h0
              injection h0 with h0
              subst h0
              cases q with
              | nil => simp [updC]
              | cons c q =>
                simp only [updC]
                split <;> simp) s
            refine ⟨_, _, F1, U1, hr, hrel, by rw [upd_eq], by rw [upd_eq], hsteady, fun s b hb => ?_⟩
            by_cases hs : s = .hand
            · subst hs; exact ⟨.hand, by rw [upd_eq]; simp [hb]⟩
            · by_cases hs2 : s = r
              · subst hs2
                rcases hVU b hb with hx | hx
                · exact ⟨s, by rw [upd_ne hs, upd_eq]; exact hx⟩
                · exact ⟨.hand, by rw [upd_eq]; simp [hx]⟩
              · exact ⟨s, by rw [upd_ne hs, upd_ne hs2]; exact hb⟩
          · cases ht
        · cases ht
      · rename_i e sz cells hpl
        simp only [Option.some.injEq, Prod.mk.injEq] at ht
        obtain ⟨rfl, rfl⟩ := ht
        obtain ⟨F, U2, hr, _, hU2⟩ := place_sl h hpl hpv
        have hF := rep_scalar_F hr (by simp)
        subst hF
        exact copy hr (fun b hb => ⟨r, hU2 b hb⟩) rfl
      · cases ht
    · cases ht
theorem rst_place {E E1 : St} {r : Root} {ver j j' : Nat} {x : TV} (h : takeCell E (.view r ver [] j) = some (x, E1)) (hj : j' ≠ j) : E1.place r [] j' = E.place r [] j' := by
  simp only [takeCell, takeAt] at h
  split at h
  · split at h
    · rename_i e sz cells hpl
      split at h
      · split at h
        · rename_i cs hroot
          simp only [Option.some.injEq, Prod.mk.injEq] at h
          obtain ⟨rfl, rfl⟩ := h
          have hr2 : ((E.setRoot r (cs.set j .junk)).bump r).root r = some (cs.set j .junk) := by
            rw [bump_root]
            cases r with
            | slot n =>
              simp only [St.root, Option.some.injEq] at hroot
              simp only [St.setRoot, St.root, upd, if_true, Option.some.injEq]
              cases hsl : E.slots n with
              | one t =>
                rw [hsl] at hroot
                simp only [SV.cells] at hroot
                subst hroot
                cases j <;> rfl
              | agg ts => rfl
              | tup ss =>
                rw [hsl] at hroot
                simp only [SV.cells] at hroot
                subst hroot
                rfl
            | box n => exact setRoot_mem rfl
            | ext n => exact setRoot_mem rfl
            | hand => simp [St.setRoot, St.root, upd]
          simp only [updC, St.place, hr2, hroot, Option.bind_some, cont, List.getElem?_set]
          rw [if_neg (Ne.symm hj)]
        · cases h
      · cases h
    · simp only [Option.some.injEq, Prod.mk.injEq] at h
      rw [← h.2]
    · cases h
  · cases h
theorem rst_rel {E E1 : St} {t x u : TV} {v : Value} {F U : List Nat} (ht : takeCell E t = some (x, E1)) (hs : ∀ r, Steady w w a a E E1 blk blk r) (h : cellX w a E blk u v F U) : cellX w a E1 blk (rst E E1 t u) v F U := by
  have h0 := cellX_step hs h (fun _ _ => rfl) (fun _ _ => rfl)
  cases t with
  | view r ver q j =>
    cases q with
    | cons c q => exact h0
    | nil =>
      cases u with
      | view r' v' q' j' =>
        cases q' with
        | cons c q' => exact h0
        | nil =>
          simp only [rst]
          split
          · rename_i hc
            obtain ⟨rfl, h1, h2⟩ := hc
            obtain ⟨rfl, rfl, h3, h4⟩ := h
            obtain ⟨h5, h6⟩ := h4 h1
            exact ⟨rfl, rfl, Nat.le_refl _, fun _ => ⟨h5, by rw [rst_place ht h2]; exact h6⟩⟩
          · exact h0
      | _ => exact h0
  | _ => exact h0
theorem rsts_rel {E E1 : St} {t x : TV} (ht : takeCell E t = some (x, E1)) (hs : ∀ r, Steady w w a a E E1 blk blk r) : ∀ {us : List TV} {vs : List Value} {F U : List Nat}, cellsX w a E blk us vs F U → cellsX w a E1 blk (us.map (rst E E1 t)) vs F U
  | [], _, _, _, h => h
  | u :: us, vs, F, U, h => by
    obtain ⟨v, vs', F1, F2, U1, U2, h1, h2, h3, h4, h5⟩ := h
    exact ⟨v, vs', F1, F2, U1, U2, h1, h2, h3, rst_rel ht hs h4, rsts_rel ht hs h5⟩
theorem takeCells_rel : ∀ (n : Nat) {ts xs : List TV} {vs : List Value} {U : List Nat} {E E' : St} {FS US : Root → List Nat}, ts.length = n → Rel w0 FA UA N w a E blk FS US → cellsX w a E blk ts vs [] U → (∀ b ∈ U, ∃ r, b ∈ US r) → takeCells E ts = some (xs, E') →
    ∃ FS' US' F1 U1, reps w xs vs F1 U1 ∧ Rel w0 FA UA N w a E' blk FS' US' ∧ FS' .hand = FS .hand ++ F1 ∧ US' .hand = US .hand ++ U1 ∧ (∀ s, Steady w w a a E E' blk blk s) ∧ (∀ s b, b ∈ US s → ∃ s', b ∈ US' s')
  | _, [], xs, vs, U, E, E', FS, US, hn, h, hc, hU, ht => by
    simp only [takeCells_nil, Option.some.injEq, Prod.mk.injEq] at ht
    obtain ⟨rfl, rfl⟩ := ht
    obtain ⟨rfl, _, rfl⟩ := hc
    exact ⟨FS, US, [], [], by simp [reps], h, by simp, by simp, fun s => Steady.refl, fun s b hb => ⟨s, hb⟩⟩
  | 0, t :: ts, xs, vs, U, E, E', FS, US, hn, h, hc, hU, ht => by cases hn
  | n + 1, t :: ts, xs, vs, U, E, E', FS, US, hn, h, hc, hU, ht => by
    rw [takeCells_cons] at ht
    obtain ⟨v, vs', F1, F2, U1, U2, rfl, hF, rfl, h1, h2⟩ := hc
    have hF' := List.append_eq_nil_iff.1 hF.symm
    obtain ⟨rfl, rfl⟩ := hF'
    split at ht
    · rename_i x E1 hx
      split at ht
      · rename_i xs' E2 hxs
        simp only [Option.some.injEq, Prod.mk.injEq] at ht
        obtain ⟨rfl, rfl⟩ := ht
        obtain ⟨FSa, USa, Fa, Ua, a1, a2, a3, a4, a5, a6⟩ := takeCell_rel h h1 (fun b hb => hU b (by simp [hb])) hx
        obtain ⟨FSb, USb, Fb, Ub, b1, b2, b3, b4, b5, b6⟩ := takeCells_rel n (by simpa using hn) a2 (rsts_rel hx a5 h2) (fun b hb => by
          obtain ⟨r, hr⟩ := hU b (by simp [hb])
          exact a6 r b hr) hxs
        refine ⟨FSb, USb, Fa ++ Fb, Ua ++ Ub, ?_, b2, by rw [b3, a3, List.append_assoc], by rw [b4, a4, List.append_assoc], fun s => (a5 s).trans (b5 s), fun s b hb => ?_⟩
        · simp only [reps]
          exact ⟨v, vs', Fa, Fb, Ua, Ub, rfl, rfl, rfl, a1, b1⟩
        · obtain ⟨s', hs'⟩ := a6 s b hb
          exact b6 s' b hs'
      · cases ht
    · cases ht
end
end Go.TI
namespace Go.TI
open Go Go.RowKit
set_option linter.unusedSimpArgs false
set_option linter.unusedVariables false
section
variable {w0 : Base} {FA UA : List Nat} {N : Nat} {w : World} {a : Act} {E : St} {blk : Root → Nat} {FS US : Root → List Nat} {P : Program}
theorem steady_world (h : Rel w0 FA UA N w a E blk FS US) {w' : World} {a' : Act} {E' : St} {blk' : Root → Nat} {s : Root} (hver : E'.ver s = E.ver s) (hgen : E'.gen s = E.gen s) (hroot : E'.root s = E.root s)
    (hcell : ∀ c u, rootCell w a blk s c = some u → rootCell w' a' blk' s c = some u) (hblk : s.mem = true → blk' s = blk s)
    (hF : ∀ b ∈ FS s, w'.heap[b]? = w.heap[b]?) (hU : ∀ b ∈ US s, w'.heap[b]? = w.heap[b]?) : Steady w w' a a' E E' blk blk' s := by
  have hpl : ∀ q j, E'.place s q j = E.place s q j := fun q j => by simp only [St.place, hroot]
  have hpa : ∀ q j ad, pa w a blk s q j = some ad → (E.place s q j).isSome = true → pa w' a' blk' s q j = some ad := ?_
  refine ⟨.inr ⟨hver, fun q j v hv hs => ⟨?_, by rw [hpl]; exact hs⟩, fun q j ad _ hv hs => ⟨hpa q j ad hv hs, by rw [hpl]; exact hs⟩⟩, .inr ⟨hgen, fun j ad hv hs => ⟨hpa [] j ad hv hs, by rw [hpl]; exact hs⟩⟩⟩
  · cases q with
    | nil => exact hcell j v hv
    | cons c q =>
      unfold St.place at hs
      cases hr : E.root s with
      | none => simp [hr, isSlO] at hs
      | some cs =>
        rw [hr] at hs
        simp only [Option.bind_some] at hs
        cases hc : cont cs (c :: q) with
        | none => simp [hc, isSlO] at hs
        | some row =>
          rw [hc] at hs
          simp only [Option.bind_some] at hs
          obtain ⟨rvs, F1, U1, h1, h2, h3, hv0, h4, h5⟩ := place_path h hr hc
          cases hj : row[j]? with
          | none => simp [hj, isSlO] at hs
          | some t =>
            have hl := reps_len h1
            have hjl := (List.getElem?_eq_some_iff.1 hj).1
            obtain ⟨ad, hk⟩ := h5 j _ (List.getElem?_eq_getElem (by omega))
            obtain ⟨k1, k2⟩ := hk w (fun _ _ => rfl) (fun _ _ => rfl)
            obtain ⟨k3, k4⟩ := hk w' hF hU
            simp only [pv, h4, Option.bind_some, k1, k2] at hv
            simp only [pv, hcell c hv0 h4, Option.bind_some, k3, k4]
            exact hv
  · intro q j ad hv hs
    cases q with
    | nil =>
      simp only [pa] at hv ⊢
      cases s with
      | slot n => cases hv
      | box n => simp only [hblk rfl]; exact hv
      | ext n => simp only [hblk rfl]; exact hv
      | hand => cases hv
    | cons c q =>
      unfold St.place at hs
      cases hr : E.root s with
      | none => simp [hr] at hs
      | some cs =>
        rw [hr] at hs
        simp only [Option.bind_some] at hs
        cases hc : cont cs (c :: q) with
        | none => simp [hc] at hs
        | some row =>
          rw [hc] at hs
          simp only [Option.bind_some] at hs
          obtain ⟨rvs, F1, U1, h1, h2, h3, hv0, h4, h5⟩ := place_path h hr hc
          cases hj : row[j]? with
          | none => simp [hj] at hs
          | some t =>
            have hl := reps_len h1
            have hjl := (List.getElem?_eq_some_iff.1 hj).1
            obtain ⟨ad', hk⟩ := h5 j _ (List.getElem?_eq_getElem (by omega))
            obtain ⟨k1, k2⟩ := hk w (fun _ _ => rfl) (fun _ _ => rfl)
            obtain ⟨k3, k4⟩ := hk w' hF hU
            simp only [pa, h4, Option.bind_some, k1] at hv
            simp only [pa, hcell c hv0 h4, Option.bind_some, k3]
            exact hv
theorem rootCell_world {w' : World} {a' : Act} {blk' : Root → Nat} {s : Root} (hsl : ∀ n, s = .slot n → a'.eval (.tmp n) = a.eval (.tmp n)) (hblk : s.mem = true → blk' s = blk s ∧ w'.heap[blk s]? = w.heap[blk s]?) (hh : s ≠ .hand) (c : Nat) (u : Value) :
    rootCell w a blk s c = some u → rootCell w' a' blk' s c = some u := by
  cases s with
  | slot n => simp only [rootCell, hsl n rfl]; exact id
  | box n =>
    obtain ⟨h1, h2⟩ := hblk rfl
    simp only [rootCell, h1]
    intro h
    rw [← h]
    exact World.cell?_of_block (by rw [add_block]; exact h2)
  | ext n =>
    obtain ⟨h1, h2⟩ := hblk rfl
    simp only [rootCell, h1]
    intro h
    rw [← h]
    exact World.cell?_of_block (by rw [add_block]; exact h2)
  | hand => exact absurd rfl hh
theorem steady_none {w w' : World} {a a' : Act} {E E' : St} {blk blk' : Root → Nat} {s : Root} (hver : E'.ver s = E.ver s) (hgen : E'.gen s = E.gen s) (hr : E.root s = none) : Steady w w' a a' E E' blk blk' s := by
  refine ⟨.inr ⟨hver, fun q j v hv hs => ?_, fun q j ad _ hv hs => ?_⟩, .inr ⟨hgen, fun j ad hv hs => ?_⟩⟩
  · simp [St.place, hr, isSlO] at hs
  · simp [St.place, hr] at hs
  · simp [St.place, hr] at hs
theorem steady_other (h : Rel w0 FA UA N w a E blk FS US) {w' : World} {a' : Act} {E' : St} {blk' : Root → Nat} {s : Root} (hver : E'.ver s = E.ver s) (hgen : E'.gen s = E.gen s) (hroot : E'.root s = E.root s)
    (hsl : ∀ n, s = .slot n → a'.eval (.tmp n) = a.eval (.tmp n)) (hblk : s.mem = true → blk' s = blk s)
    (hF : ∀ b ∈ FS s, w'.heap[b]? = w.heap[b]?) (hU : ∀ b ∈ US s, w'.heap[b]? = w.heap[b]?) : Steady w w' a a' E E' blk blk' s := by
  by_cases hh : s = .hand
  · subst hh; exact steady_none hver hgen (by simp [St.root, h.nohand])
  · by_cases hm : s.mem = true
    · cases hb : E.boxes s with
      | none =>
        have hr : E.root s = none := by cases s <;> simp_all [St.root, Root.mem]
        exact steady_none hver hgen hr
      | some cs =>
        refine steady_world h hver hgen hroot (rootCell_world hsl (fun _ => ⟨hblk hm, ?_⟩) hh) hblk hF hU
        rcases h.box s hm with ⟨h1, _⟩ | ⟨cs', cur, T, F, _, _, _, h4⟩
        · rw [h1] at hb; cases hb
        · exact hF _ (by rw [h4]; exact List.mem_cons_self)
    · exact steady_world h hver hgen hroot (rootCell_world hsl (fun e => absurd e hm) hh) (fun e => absurd e hm) hF hU
def St.newBox (E : St) (d : Nat) (xs : List TV) : St :=
  let E1 : St := { E with boxes := upd E.boxes (.box d) (some xs), ver := upd E.ver (.box d) (E.ver (.box d) + 1), gen := upd E.gen (.box d) (E.gen (.box d) + 1) }
  E1.put (some d) (.one (.ptr (.box d) (E1.gen (.box d)) [] 0))
theorem Rel.newBox (h : Rel w0 FA UA N w a E blk FS US) {d : Nat} {xs : List TV} {vs : List Value} {T : TypeId} (hd : d < N) (hxs : xs ≠ []) (hr : reps w xs vs (FS .hand) (US .hand)) :
    ∃ blk' FS' US', Rel w0 FA UA N (w.alloc (.cells vs.toArray T)) (a.put (some d) (.pointer (some ⟨w.heap.size, 0, none⟩))) (E.newBox d xs) blk' FS' US' ∧ FS' .hand = [] ∧ US' .hand = [] := by
  let E1 : St := { E with boxes := upd E.boxes (.box d) (some xs), ver := upd E.ver (.box d) (E.ver (.box d) + 1), gen := upd E.gen (.box d) (E.gen (.box d) + 1) }
  let blk1 := upd blk (.box d) w.heap.size
  let w1 := w.alloc (.cells vs.toArray T)
  have hsz : w1.heap.size = w.heap.size + 1 := by simp [w1]
  have hnew : w1.heap[w.heap.size]? = some (.cells vs.toArray T (0, 0)) := by
    show (w.heap.push _)[w.heap.size]? = _
    simp
  have hold : ∀ b, b < w.heap.size → w1.heap[b]? = w.heap[b]? := fun b hb => Below.heap_alloc _ _ _ hb
  have hne : Root.box d ≠ Root.hand := by simp
  have hst : ∀ s, Steady w w1 a a E E1 blk blk1 s := by
    intro s
    by_cases hs : s = .box d
    · subst hs
      exact ⟨.inl (by simp [E1, upd]), .inl (by simp [E1, upd])⟩
    · have hv : E1.ver s = E.ver s := by simp [E1, upd, hs]
      have hg : E1.gen s = E.gen s := by simp [E1, upd, hs]
      refine steady_other h hv hg ?_ (fun _ _ => rfl) (fun _ => by simp [blk1, upd, hs]) (fun b hb => hold b (h.inF s b hb).2) (fun b hb => hold b (h.inU s b hb).2)
      cases s <;> simp_all [E1, St.root, upd]
  have hlt : ∀ b ∈ FS .hand, b < w.heap.size := fun b hb => (h.inF .hand b hb).2
  have hltU : ∀ b ∈ US .hand, b < w.heap.size := fun b hb => (h.inU .hand b hb).2
  have h1 := h.two (w' := w1) (a' := a) (E' := E1) (blk' := blk1) (r1 := .box d) (r2 := .hand) (L1 := w.heap.size :: FS .hand) (L2 := []) (V1 := US .hand) (V2 := []) hne
    (by
      simp only [List.append_nil, List.nodup_cons]
      exact ⟨fun e => Nat.lt_irrefl _ (hlt _ e), h.nodup _⟩)
    (by
      intro b hb
      simp only [List.append_nil, List.mem_cons] at hb
      rcases hb with rfl | hb
      · exact ⟨.inr (.inr (Nat.le_refl _)), by omega⟩
      · exact ⟨.inr (.inl hb), by have := hlt b hb; omega⟩)
    (by
      intro b hb
      simp only [List.append_nil] at hb
      exact .inl ⟨_, hb⟩)
    (by omega) rfl rfl rfl (fun b hb _ _ => hold b hb) hst
    (fun n _ _ => ⟨rfl, rfl⟩)
    (fun s _ hs _ => ⟨by simp [E1, upd, hs], by simp [blk1, upd, hs]⟩)
    (by
      refine .inr ⟨xs, vs.toArray, T, FS .hand, by simp [E1, upd], by simp [blk1, upd, hnew], ?_, by simp [blk1, upd]⟩
      simpa using reps_move hr (fun b hb => hold b (hlt b hb)) (fun b hb => hold b (hltU b hb)))
    trivial (by simp [E1, upd, h.nohand]) h.len h.nodef
  have hs2 : svX w1 a E1 blk1 (.one (.ptr (.box d) (E1.gen (.box d)) [] 0)) (.pointer (some ⟨w.heap.size, 0, none⟩)) [] [] := by
    have hstp : E1.stamp (.box d) [] = E1.gen (.box d) := rfl
    rw [← hstp]
    refine one_ptr ?_ ?_
    · cases xs with
      | nil => exact absurd rfl hxs
      | cons x xs => simp [St.place, St.root, E1, upd, cont]
    · simp [pa, blk1, upd, Addr.add]
  have h2 := h1.put (d := d) hd hs2 Fits.none
  refine ⟨blk1, _, _, h2, ?_, ?_⟩
  · rw [upd_ne (by simp), upd_eq]
  · rw [upd_ne (by simp), upd_eq]
end
end Go.TI
namespace Go.TI
open Go Go.RowKit
set_option linter.unusedSimpArgs false
set_option linter.unusedVariables false
def SV.plain : SV → Bool
  | .one .junk => false
  | .tup _ => false
  | _ => true
def takeSV (E : St) (s : SV) : Option (List TV × St) := if s.plain = true then takeCells E s.cells else none
section
variable {w0 : Base} {FA UA : List Nat} {N : Nat} {w : World} {a : Act} {E : St} {blk : Root → Nat} {FS US : Root → List Nat} {P : Program}
theorem sv_cells {s : SV} {v : Value} {U : List Nat} (h : svX w a E blk s v [] U) (hp : s.plain = true) : cellsX w a E blk s.cells v.cells.toList [] U := by
  cases s with
  | one t =>
    simp only [svX] at h
    have hj : t.isJunk = false := by cases t <;> first | rfl | cases hp
    rw [h.2 hj]
    exact ⟨v, [], [], [], U, [], rfl, rfl, by simp, h.1, rfl, rfl, rfl⟩
  | agg cs =>
    simp only [svX] at h
    obtain ⟨vs, rfl, hc⟩ := h
    simpa [Value.cells, SV.cells] using hc
  | tup ss => cases hp
theorem takeSV_rel (h : Rel w0 FA UA N w a E blk FS US) {s : SV} {v : Value} {U : List Nat} {xs : List TV} {E' : St} (hs : svX w a E blk s v [] U) (hU : ∀ b ∈ U, ∃ r, b ∈ US r) (ht : takeSV E s = some (xs, E')) :
    ∃ FS' US' F1 U1, reps w xs v.cells.toList F1 U1 ∧ Rel w0 FA UA N w a E' blk FS' US' ∧ FS' .hand = FS .hand ++ F1 ∧ US' .hand = US .hand ++ U1 ∧ (∀ s, Steady w w a a E E' blk blk s) ∧ (∀ s b, b ∈ US s → ∃ s', b ∈ US' s') := by
  unfold takeSV at ht
  split at ht
  · rename_i hp
    exact takeCells_rel _ rfl h (sv_cells hs hp) hU ht
  · cases ht
theorem steady_putw (h : Rel w0 FA UA N w a E blk FS US) {w' : World} {d : Nat} {s : SV} {v : Value} (hk : ∀ r, r ≠ .slot d → (∀ b ∈ FS r, w'.heap[b]? = w.heap[b]?) ∧ ∀ b ∈ US r, w'.heap[b]? = w.heap[b]?) (r : Root) :
    Steady w w' a (a.put (some d) v) E (E.put (some d) s) blk blk r := by
  by_cases hr : r = .slot d
  · subst hr
    exact ⟨.inl (by rw [put_ver_eq]; omega), .inr ⟨by rw [put_gen], fun j ad h1 _ => by simp [pa] at h1⟩⟩
  · exact steady_other h (put_ver hr) (by rw [put_gen]) (put_root hr) (fun n hn => eval_put_ne (fun e => hr (by rw [hn, e]))) (fun _ => rfl) (hk r hr).1 (hk r hr).2
theorem Rel.newRow (h : Rel w0 FA UA N w a E blk FS US) {d : Nat} {xs : List TV} {vs : List Value} {e sz n : Nat} (hd : d < N) (hr : reps w xs vs (FS .hand) (US .hand)) (hn : xs.length = n * sz) (hm : n ≤ maxLen) :
    ∃ FS' US', Rel w0 FA UA N (w.alloc (.cells vs.toArray e)) (a.put (some d) (.slice (some ⟨w.heap.size, 0, none⟩) n n)) (E.put (some d) (.one (.sl true e sz xs))) blk FS' US' ∧ FS' .hand = [] ∧ US' .hand = [] := by
  let w1 := w.alloc (.cells vs.toArray e)
  have hsz : w1.heap.size = w.heap.size + 1 := by simp [w1]
  have hnew : w1.heap[w.heap.size]? = some (.cells vs.toArray e (0, 0)) := by
    show (w.heap.push _)[w.heap.size]? = _
    simp
  have hold : ∀ b, b < w.heap.size → w1.heap[b]? = w.heap[b]? := fun b hb => Below.heap_alloc _ _ _ hb
  have hlt : ∀ b ∈ FS .hand, b < w.heap.size := fun b hb => (h.inF .hand b hb).2
  have hltU : ∀ b ∈ US .hand, b < w.heap.size := fun b hb => (h.inU .hand b hb).2
  have hl := reps_len hr
  have hst := steady_putw (w' := w1) h (d := d) (s := .one (.sl true e sz xs)) (v := .slice (some ⟨w.heap.size, 0, none⟩) n n) (fun r _ => ⟨fun b hb => hold b (h.inF r b hb).2, fun b hb => hold b (h.inU r b hb).2⟩)
  have h1 := h.two (w' := w1) (a' := a.put (some d) (.slice (some ⟨w.heap.size, 0, none⟩) n n)) (E' := E.put (some d) (.one (.sl true e sz xs))) (blk' := blk) (r1 := .slot d) (r2 := .hand) (L1 := w.heap.size :: FS .hand) (L2 := []) (V1 := US .hand) (V2 := []) (by simp)
    (by
      simp only [List.append_nil, List.nodup_cons]
      exact ⟨fun e => Nat.lt_irrefl _ (hlt _ e), h.nodup _⟩)
    (by
      intro b hb
      simp only [List.append_nil, List.mem_cons] at hb
      rcases hb with rfl | hb
      · exact ⟨.inr (.inr (Nat.le_refl _)), by omega⟩
      · exact ⟨.inr (.inl hb), by have := hlt b hb; omega⟩)
    (by
      intro b hb
      simp only [List.append_nil] at hb
      exact .inl ⟨_, hb⟩)
    (by omega) rfl rfl rfl (fun b hb _ _ => hold b hb) hst
    (fun m hm1 _ => by
      have hmd : m ≠ d := fun e => hm1 (by rw [e])
      exact ⟨by simp [St.put, upd, hmd], eval_put_ne hmd⟩)
    (fun s hm hs _ => ⟨rfl, rfl⟩)
    (by
      have hev : (a.put (some d) (.slice (some ⟨w.heap.size, 0, none⟩) n n)).eval (.tmp d) = .slice (some ⟨w.heap.size, 0, none⟩) n n := eval_put_eq (Nat.lt_of_lt_of_le hd h.len)
      have hsl : (E.put (some d) (.one (.sl true e sz xs))).slots d = .one (.sl true e sz xs) := by simp [St.put, upd]
      simp only [rootOk, hev, hsl, svX, cellX, rep]
      refine ⟨⟨n, vs, FS .hand, ⟨by omega, .inr ⟨w.heap.size, n, vs.toArray, rfl, Nat.zero_le _, hnew, Nat.le_refl _, hm, by simp; omega, ?_⟩⟩, reps_move hr (fun b hb => hold b (hlt b hb)) (fun b hb => hold b (hltU b hb)), by simp [blkOf, Value.ownBlock]⟩, fun _ => rfl⟩
      rw [List.take_of_length_le (by simp; omega)])
    trivial h.nohand (by rw [put_size]; exact h.len) (by rw [put_defers]; exact h.nodef)
  refine ⟨_, _, h1, ?_, ?_⟩
  · rw [upd_eq]
  · rw [upd_eq]
def KeptW (w w' : World) : Prop := w.heap.size ≤ w'.heap.size ∧ ∀ b, b < w.heap.size → w'.heap[b]? = w.heap[b]?
theorem KeptW.refl {w : World} : KeptW w w := ⟨Nat.le_refl _, fun _ _ => rfl⟩
theorem KeptW.trans {w1 w2 w3 : World} (h : KeptW w1 w2) (k : KeptW w2 w3) : KeptW w1 w3 := ⟨Nat.le_trans h.1 k.1, fun b hb => (k.2 b (Nat.lt_of_lt_of_le hb h.1)).trans (h.2 b hb)⟩
theorem KeptW.alloc {w : World} {o : Obj} : KeptW w (w.alloc o) := ⟨by simp, fun b hb => Below.heap_alloc _ _ _ hb⟩
def kp (o : Oper) : Bool := match o.op with
  | .store .. => false
  | .call c => match c.callee with
    | .builtin .append => match c.args.toList with
      | .const _ :: _ => true
      | _ => false
    | .builtin _ => true
    | _ => false
  | _ => true
def Done (P : Program) (w0 : Base) (FA UA : List Nat) (N : Nat) (w : World) (a : Act) (o : Oper) (E' : St) : Prop :=
  ∃ nx w' v blk' FS' US', (execOp a.eval o).run P w = .ok nx w' ∧ (nx = .value v ∨ nx = .skip ∧ v = undef) ∧ Rel w0 FA UA N w' (a.put o.dst v) E' blk' FS' US' ∧ FS' .hand = [] ∧ US' .hand = [] ∧ (kp o = true → KeptW w w')
end
end Go.TI
namespace Go.TI
open Go Go.RowKit
set_option linter.unusedSimpArgs false
set_option linter.unusedVariables false
section
variable (P : Program)
def zipConst : List TypeId → List Value → Option (List TV)
  | [], [] => some []
  | t :: ts, v :: vs => match constTV P t v, zipConst ts vs with
    | some x, some xs => some (x :: xs)
    | _, _ => none
  | _, _ => none
def zeroTVs (t : TypeId) : Option (List TV) := match P.info? t with
  | some i => match i.zero, P.cellTypes P.depth t with
    | some z, some ts => if z.cells.size = P.cellsOf t then zipConst P ts z.cells.toList else none
    | _, _ => none
  | none => none
def effBox (E : St) (d : Nat) (t : TypeId) (x : Operand) : Option St := match E.val P t x with
  | some s => match takeSV E s with
    | some (xs, E1) => if xs.isEmpty = true then none else some (E1.newBox d xs)
    | none => none
  | none => none
def effAlloc (E : St) (d : Nat) (t : TypeId) : Option St := match zeroTVs P t with
  | some xs => if xs.isEmpty = true then none else some (E.newBox d xs)
  | none => none
def effMake (E : St) (d : Nat) (t : TypeId) (l c : Operand) : Option St := match P.underlying t, E.cell1 P 0 l, E.cell1 P 0 c with
  | some (.slice e), some (.int _ n), some (.int _ m) => match zeroTVs P e with
    | some zs => if n = m ∧ 0 ≤ n ∧ (P.bytesOf e : Int) * n ≤ 281474976710656 ∧ n ≤ 9223372036854775807 then some (E.put (some d) (.one (.sl true e (P.cellsOf e) (List.replicate n.toNat zs).flatten))) else none
    | none => none
  | _, _, _ => none
end
section
variable {w0 : Base} {FA UA : List Nat} {N : Nat} {w : World} {a : Act} {E : St} {blk : Root → Nat} {FS US : Root → List Nat} {P : Program}
theorem zipConst_rep {w : World} : ∀ {ts : List TypeId} {vs : List Value} {xs : List TV}, zipConst P ts vs = some xs → reps w xs vs [] []
  | [], [], xs, h => by
    simp only [zipConst, Option.some.injEq] at h
    subst h
    simp [reps]
  | t :: ts, v :: vs, xs, h => by
    simp only [zipConst] at h
    split at h
    · rename_i x xs' hx hxs
      injection h with h
      subst h
      simp only [reps]
      exact ⟨v, vs, [], [], [], [], rfl, rfl, rfl, (const_rep hx).1, zipConst_rep hxs⟩
    · cases h
  | [], v :: vs, xs, h => by simp [zipConst] at h
  | t :: ts, [], xs, h => by simp [zipConst] at h
theorem zeroTVs_rep {w : World} {t : TypeId} {xs : List TV} (h : zeroTVs P t = some xs) : ∃ i z, P.info? t = some i ∧ i.zero = some z ∧ z.cells.size = P.cellsOf t ∧ reps w xs z.cells.toList [] [] := by
  unfold zeroTVs at h
  split at h
  · rename_i i hi
    split at h
    · rename_i z ts hz hts
      split at h
      · rename_i hs
        exact ⟨i, z, hi, hz, hs, zipConst_rep h⟩
      · cases h
    · cases h
  · cases h
theorem reps_append {w : World} : ∀ {xs ys : List TV} {vs us : List Value} {F G U V : List Nat}, reps w xs vs F U → reps w ys us G V → reps w (xs ++ ys) (vs ++ us) (F ++ G) (U ++ V)
  | [], ys, vs, us, F, G, U, V, h, k => by
    simp only [reps] at h
    obtain ⟨rfl, rfl, rfl⟩ := h
    simpa using k
  | x :: xs, ys, vs, us, F, G, U, V, h, k => by
    simp only [reps] at h
    obtain ⟨v, vs', F1, F2, U1, U2, rfl, rfl, rfl, h1, h2⟩ := h
    simp only [List.cons_append, reps]
    exact ⟨v, vs' ++ us, F1, F2 ++ G, U1, U2 ++ V, rfl, by simp, by simp, h1, reps_append h2 k⟩
theorem reps_replicate {w : World} {xs : List TV} {vs : List Value} (h : reps w xs vs [] []) : ∀ n, reps w (List.replicate n xs).flatten (List.replicate n vs).flatten [] []
  | 0 => by simp [reps]
  | n + 1 => by
    simp only [List.replicate_succ, List.flatten_cons]
    exact reps_append h (reps_replicate h n)
theorem Done.box (h : Rel w0 FA UA N w a E blk FS US) (hF : FS .hand = []) (hU : US .hand = []) {o : Oper} {d : Nat} {t : TypeId} {x : Operand} (ho : o.op = .box t x) (hd : o.dst = some d) (hN : d < N) {E' : St} (he : effBox P E d t x = some E') : Done P w0 FA UA N w a o E' := by
  unfold effBox at he
  split at he
  · rename_i s hs
    split at he
    · rename_i xs E1 hx
      split at he
      · cases he
      · rename_i hne
        injection he with he
        subst he
        obtain ⟨U, h1, h2⟩ := val_rel h hs
        obtain ⟨FS1, US1, F1, U1, h3, h4, h5, h6, _, _⟩ := takeSV_rel h h1 h2 hx
        rw [hF, List.nil_append] at h5
        rw [hU, List.nil_append] at h6
        subst h5 h6
        obtain ⟨blk', FS', US', h7, h8, h9⟩ := h4.newBox (T := t) hN (by intro e; subst e; simp at hne) h3
        refine ⟨.value (.pointer (some ⟨w.heap.size, 0, none⟩)), _, _, blk', FS', US', ?_, .inl rfl, by rw [hd]; exact h7, h8, h9, fun _ => KeptW.alloc⟩
        simp [execOp, ho, Instr.box, newVar, newRow]
    · cases he
  · cases he
theorem Done.alloc (h : Rel w0 FA UA N w a E blk FS US) (hF : FS .hand = []) (hU : US .hand = []) {o : Oper} {d : Nat} {t : TypeId} (ho : o.op = .alloc t) (hd : o.dst = some d) (hN : d < N) {E' : St} (he : effAlloc P E d t = some E') : Done P w0 FA UA N w a o E' := by
  unfold effAlloc at he
  split at he
  · rename_i xs hx
    split at he
    · cases he
    · rename_i hne
      injection he with he
      subst he
      obtain ⟨i, z, hi, hz, hs, hr⟩ := zeroTVs_rep (w := w) hx
      obtain ⟨blk', FS', US', h7, h8, h9⟩ := h.newBox (T := t) (xs := xs) hN (by intro e; subst e; simp at hne) (by rw [hF, hU]; exact hr)
      refine ⟨.value (.pointer (some ⟨w.heap.size, 0, none⟩)), _, _, blk', FS', US', ?_, .inl rfl, by rw [hd]; exact h7, h8, h9, fun _ => KeptW.alloc⟩
      simp [execOp, ho, Instr.alloc, zeroValue, run_typeInfo w hi, hz, newVar, newRow]
  · cases he
end
end Go.TI
namespace Go.TI
open Go Go.RowKit
set_option linter.unusedSimpArgs false
set_option linter.unusedVariables false
theorem reps_split {w : World} : ∀ (j : Nat) {ts : List TV} {vs : List Value} {F U : List Nat}, reps w ts vs F U →
    ∃ F1 F2 U1 U2, F = F1 ++ F2 ∧ U = U1 ++ U2 ∧ reps w (ts.take j) (vs.take j) F1 U1 ∧ reps w (ts.drop j) (vs.drop j) F2 U2
  | 0, ts, vs, F, U, h => ⟨[], F, [], U, rfl, rfl, by simp [reps], by simpa using h⟩
  | j + 1, [], vs, F, U, h => by
    simp only [reps] at h
    obtain ⟨rfl, rfl, rfl⟩ := h
    exact ⟨[], [], [], [], rfl, rfl, by simp [reps], by simp [reps]⟩
  | j + 1, t :: ts, vs, F, U, h => by
    simp only [reps] at h
    obtain ⟨v, vs', F1, F2, U1, U2, rfl, rfl, rfl, h1, h2⟩ := h
    obtain ⟨F3, F4, U3, U4, rfl, rfl, h3, h4⟩ := reps_split j h2
    refine ⟨F1 ++ F3, F4, U1 ++ U3, U4, by simp, by simp, ?_, by simpa using h4⟩
    simp only [List.take_succ_cons, reps]
    exact ⟨v, _, F1, F3, U1, U3, rfl, rfl, rfl, h1, h3⟩
theorem setRow_length {α : Type} {cs xs : List α} {j : Nat} (h : j + xs.length ≤ cs.length) : (setRow cs j xs).length = cs.length := by
  simp only [setRow, List.length_append, List.length_take, List.length_drop]
  omega
theorem reps_setRow {w : World} {ts xs : List TV} {vs us : List Value} {F U G V : List Nat} {j : Nat} (h : reps w ts vs F U) (k : reps w xs us G V) :
    ∃ Fa Fm Fb Ua Um Ub, F = Fa ++ Fm ++ Fb ∧ U = Ua ++ Um ++ Ub ∧ reps w (setRow ts j xs) (setRow vs j us) (Fa ++ G ++ Fb) (Ua ++ V ++ Ub) := by
  obtain ⟨Fa, F2, Ua, U2, rfl, rfl, h1, h2⟩ := reps_split j h
  obtain ⟨Fm, Fb, Um, Ub, rfl, rfl, h3, h4⟩ := reps_split xs.length h2
  refine ⟨Fa, Fm, Fb, Ua, Um, Ub, by simp, by simp, ?_⟩
  have hl := reps_len k
  rw [List.drop_drop, List.drop_drop] at h4
  have := reps_append (reps_append h1 k) h4
  simp only [setRow]
  rw [hl]
  exact this
section
variable (P : Program)
def effStore (E : St) (t : TypeId) (ad x : Operand) : Option St := match E.val P t x with
  | some s => match takeSV E s with
    | some (xs, E1) => match E1.ptr? ad with
      | some (r, q, j) => match E1.root r with
        | some cs => match cont cs q with
          | some row => if ownP cs q = true ∧ xs.length = P.cellsOf t ∧ 0 < xs.length ∧ j + xs.length ≤ row.length then
              (let E2 := E1.setRoot r (updC cs q fun row => setRow row j xs)
              if q.isEmpty = true ∧ ((row.drop j).take xs.length).any TV.isSl = false then some E2 else some (E2.bump r))
            else none
          | none => none
        | none => none
      | none => none
    | none => none
  | none => none
end
section
variable {w0 : Base} {FA UA : List Nat} {N : Nat} {w : World} {a : Act} {E : St} {blk : Root → Nat} {FS US : Root → List Nat} {P : Program}
theorem setRow_other_cell {α : Type} {cs xs : List α} {j c : Nat} (h : c < j ∨ j + xs.length ≤ c) (hj : j + xs.length ≤ cs.length) : (setRow cs j xs)[c]? = cs[c]? := by
  have hl : (cs.take j).length = j := by rw [List.length_take]; omega
  simp only [setRow]
  rcases h with h | h
  · rw [List.append_assoc, List.getElem?_append_left (by omega), List.getElem?_take]
    simp [h]
  · rw [List.getElem?_append_right (by rw [List.length_append, hl]; omega), List.getElem?_drop, List.length_append, hl]
    congr 1
    omega
theorem run_storeVar {t : TypeId} {g j : Nat} {T : TypeId} {cur : Array Value} {v : Value} (hg : w.heap[g]? = some (.cells cur T (0, 0))) (hv : v.cells.size = P.cellsOf t) (hp : 0 < v.cells.size) (hfit : j + v.cells.size ≤ cur.size) (h1 : ∀ u ∈ v.cells.toList, u.oneCell' = true) :
    (storeVar t ⟨g, j, none⟩ v).run P w = .ok () (w.setRow g (setRow cur.toList j v.cells.toList).toArray) := by
  obtain ⟨i, hi, _⟩ := info_of_cells (P := P) (t := t) (by omega)
  have hs := run_storeCells_at P g j T v.cells.toList 0 cur w hg (by simpa using hfit) h1
  simp only [storeVar, Sem.run_bind, run_sizeOf w hi, Result.andThen_ok]
  rw [if_neg (by simp [hv])]
  rw [hs]
  simp [setRow]
theorem cellsX_upd_step : ∀ {ts : List TV} {vs : List Value} {F U : List Nat} (c : Nat) {t : TV}, cellsX w a E blk ts vs F U → ts[c]? = some t →
    ∃ v A B C D F1 U1, vs[c]? = some v ∧ cellX w a E blk t v F1 U1 ∧ F = A ++ F1 ++ B ∧ U = C ++ U1 ++ D ∧
      ∀ (w' : World) (a' : Act) (E' : St) (blk' : Root → Nat), (∀ r, Steady w w' a a' E E' blk blk' r) → ∀ t' F1' U1', cellX w' a' E' blk' t' v F1' U1' → (∀ b ∈ A ++ B, w'.heap[b]? = w.heap[b]?) → (∀ b ∈ C ++ D, w'.heap[b]? = w.heap[b]?) → cellsX w' a' E' blk' (ts.set c t') vs (A ++ F1' ++ B) (C ++ U1' ++ D)
  | [], _, _, _, c, t, _, hc => by simp at hc
  | t0 :: ts, vs, F, U, 0, t, h, hc => by
    obtain ⟨v, vs', F1, F2, U1, U2, rfl, rfl, rfl, h1, h2⟩ := h
    simp at hc
    subst hc
    refine ⟨v, [], F2, [], U2, F1, U1, rfl, h1, rfl, rfl, fun w' a' E' blk' hs t' F1' U1' hx hA hC => ?_⟩
    exact ⟨v, vs', F1', F2, U1', U2, rfl, rfl, rfl, hx, cellsX_step hs h2 (by simpa using hA) (by simpa using hC)⟩
  | t0 :: ts, vs, F, U, c + 1, t, h, hc => by
    obtain ⟨v, vs', F1, F2, U1, U2, rfl, rfl, rfl, h1, h2⟩ := h
    simp at hc
    obtain ⟨u, A, B, C, D, G, V, h3, h4, rfl, rfl, hk⟩ := cellsX_upd_step c h2 hc
    refine ⟨u, F1 ++ A, B, U1 ++ C, D, G, V, by simpa using h3, h4, by simp, by simp, fun w' a' E' blk' hs t' F1' U1' hx hA hC => ?_⟩
    refine ⟨v, vs', F1, A ++ F1' ++ B, U1, C ++ U1' ++ D, rfl, by simp, by simp, cellX_step hs h1 (fun b hb => hA b (by simp [hb])) (fun b hb => hC b (by simp [hb])), hk w' a' E' blk' hs t' F1' U1' hx (fun b hb => hA b ?_) (fun b hb => hC b ?_)⟩
    · simp at hb ⊢; rcases hb with hb | hb <;> simp [hb]
    · simp at hb ⊢; rcases hb with hb | hb <;> simp [hb]
theorem nodup_mid {A F B : List Nat} (h : (A ++ F ++ B).Nodup) : F.Nodup ∧ (∀ b ∈ F, b ∉ A ∧ b ∉ B) ∧ (A ++ B).Nodup := by
  rw [List.append_assoc, List.nodup_append, List.nodup_append] at h
  obtain ⟨h1, ⟨h2, h3, h4⟩, h5⟩ := h
  refine ⟨h2, fun b hb => ⟨fun e => h5 b e b (List.mem_append_left _ hb) rfl, fun e => h4 b hb b e rfl⟩, ?_⟩
  rw [List.nodup_append]
  exact ⟨h1, h3, fun x hx y hy => h5 x hx y (List.mem_append_right _ hy)⟩
theorem nodup_swap {A F B G : List Nat} (h : (A ++ F ++ B).Nodup) (hG : G.Nodup) (hd : ∀ b ∈ G, b ∉ A ∧ b ∉ B) : (A ++ G ++ B).Nodup := by
  obtain ⟨_, _, h1⟩ := nodup_mid h
  rw [List.nodup_append] at h1
  rw [List.append_assoc, List.nodup_append, List.nodup_append]
  refine ⟨h1.1, ⟨hG, h1.2.1, fun x hx y hy e => (hd x hx).2 (e ▸ hy)⟩, fun x hx y hy e => ?_⟩
  subst e
  rcases List.mem_append.1 hy with hy | hy
  · exact (hd x hy).1 hx
  · exact h1.2.2 x hx x hy rfl
theorem take_setRow {α : Type} {l vs : List α} {j m : Nat} (h1 : j + vs.length ≤ m) (h2 : m ≤ l.length) : (setRow l j vs).take m = setRow (l.take m) j vs := by
  apply List.ext_getElem?
  intro i
  have hl : (l.take j).length = j := by rw [List.length_take]; omega
  have hl2 : ((l.take m).take j).length = j := by rw [List.length_take, List.length_take]; omega
  rw [List.getElem?_take]
  simp only [setRow]
  rcases Nat.lt_or_ge i j with hi | hi
  · rw [if_pos (by omega), List.append_assoc, List.getElem?_append_left (by omega), List.append_assoc, List.getElem?_append_left (by omega)]
    simp only [List.getElem?_take, if_pos hi, if_pos (show i < m by omega)]
  · rcases Nat.lt_or_ge i (j + vs.length) with hi2 | hi2
    · rw [if_pos (by omega), List.append_assoc, List.getElem?_append_right (by omega), List.getElem?_append_left (by omega), List.append_assoc, List.getElem?_append_right (by omega), List.getElem?_append_left (by omega), hl, hl2]
    · split
      · rw [List.getElem?_append_right (by rw [List.length_append]; omega), List.getElem?_append_right (by rw [List.length_append]; omega)]
        simp only [List.length_append, hl, hl2, List.getElem?_drop, List.getElem?_take]
        rw [if_pos (by omega)]
      · rw [List.getElem?_append_right (by rw [List.length_append]; omega)]
        simp only [List.length_append, hl2, List.getElem?_drop, List.getElem?_take]
        rw [if_neg (by omega)]
theorem store_path {w : World} {o : Bool} {e sz : Nat} {cells row xs : List TV} {hv : Value} {F1 U1 Fh Uh : List Nat} {q : List Nat} {j : Nat} {ad0 : Addr} {vs : List Value} (hn : rep w (.sl o e sz cells) hv F1 U1) (ho : (o && ownP cells q) = true) (hc : cont cells q = some row)
    (hb : baseV w hv q = some ad0) (hx : reps w xs vs Fh Uh) (hpos : 0 < xs.length) (hfit : j + xs.length ≤ row.length) (hnd : F1.Nodup) (hFh : ∀ b ∈ Fh, b ∉ F1) (hUU : ∀ b, b ∈ U1 ∨ b ∈ Uh → b ∉ F1) :
    ∃ g T cur X Fm Y Xu Um Yu, ad0.add j = ⟨g, j, none⟩ ∧ w.heap[g]? = some (.cells cur T (0, 0)) ∧ j + xs.length ≤ cur.size ∧ F1 = X ++ Fm ++ Y ∧ U1 = Xu ++ Um ++ Yu ∧ g ∈ X ∧
      rep (w.setRow g (setRow cur.toList j vs).toArray) (.sl o e sz (updC cells q fun row => setRow row j xs)) hv (X ++ Fh ++ Y) (Xu ++ Uh ++ Yu) := by
  have h1 : reps w [.sl o e sz cells] [hv] F1 U1 := by simp only [reps]; exact ⟨hv, [], F1, [], U1, [], rfl, by simp, by simp, hn, rfl, rfl, rfl⟩
  have h2 : ownP [.sl o e sz cells] (0 :: q) = true := by simpa [ownP] using ho
  have h3 : cont [.sl o e sz cells] (0 :: q) = some row := by simpa [cont] using hc
  obtain ⟨v0, hv', n, e0, sz0, rvs, A, B, C, D, F2, U2, k1, k2, k3, rfl, rfl, k4, k5⟩ := upd_rep q 0 h1 h2 h3
  simp at k1
  subst k1
  have hl := reps_len k3
  have hvl := reps_len hx
  rcases k2.2 with ⟨_, hn0⟩ | ⟨g, cap, cur, rfl, _, hg, hnc, hcm, hcs, htk⟩
  · have := k2.1
    rw [hn0] at this
    omega
  · have hba := k4 _ _ _ rfl
    rw [hb] at hba
    injection hba with hba
    subst hba
    have hrl := k2.1
    have hle : n * sz0 ≤ cur.size := by rw [hcs]; exact Nat.mul_le_mul_right _ hnc
    obtain ⟨Fa, Fm, Fb, Ua, Um, Ub, rfl, rfl, k6⟩ := reps_setRow (j := j) k3 hx
    simp only [blkOf, Value.ownBlock, Option.toList_some] at hnd hFh hUU k5 ⊢
    have hgA : g ∉ A ++ (Fa ++ Fm ++ Fb) ++ B := by
      intro hb
      have := (nodup_mid (A := A) (F := g :: (Fa ++ Fm ++ Fb)) (B := B) (by simpa using hnd))
      simp only [List.nodup_cons] at this
      obtain ⟨⟨n1, n2⟩, n3, n4⟩ := this
      have n5 := n3 g (by simp)
      simp only [List.mem_append] at hb n1
      rcases hb with (hb | hb) | hb
      · exact n5.1 hb
      · exact n1 hb
      · exact n5.2 hb
    have hgF : g ∈ A ++ ([g] ++ (Fa ++ Fm ++ Fb)) ++ B := by simp
    have hkeep : ∀ b, b ≠ g → (w.setRow g (setRow cur.toList j vs).toArray).heap[b]? = w.heap[b]? := fun b hb => setRow_other w g b _ hb
    have k7 := reps_move (w' := w.setRow g (setRow cur.toList j vs).toArray) k6 (fun b hm => hkeep b (by
      intro hbg
      rw [hbg] at hm
      rcases List.mem_append.1 hm with hm | hm
      · rcases List.mem_append.1 hm with hm | hm
        · exact hgA (by simp [hm])
        · exact hFh g hm hgF
      · exact hgA (by simp [hm]))) (fun b hm => hkeep b (by
      intro hbg
      rw [hbg] at hm
      rcases List.mem_append.1 hm with hm | hm
      · rcases List.mem_append.1 hm with hm | hm
        · exact hUU g (.inl (by simp [hm])) hgF
        · exact hUU g (.inr hm) hgF
      · exact hUU g (.inl (by simp [hm])) hgF))
    have k8 : (w.setRow g (setRow cur.toList j vs).toArray).ownsRow 0 e0 sz0 (.slice (some ⟨g, 0, none⟩) n cap) n (setRow rvs j vs) := by
      refine ⟨by rw [setRow_length (by omega)]; exact hrl, .inr ⟨g, cap, _, rfl, Nat.zero_le _, setRow_heap w g cur _ e0 _ hg, hnc, hcm, ?_, ?_⟩⟩
      · simp only [List.size_toArray]
        rw [setRow_length (by simp; omega)]
        simpa using hcs
      · simp only []
        rw [take_setRow (by omega) (by simpa using hle), htk]
    have k9 := k5 _ _ _ _ _ k8 k7 (fun b hm => hkeep b (by intro hbg; rw [hbg] at hm; exact hgA (by simp at hm ⊢; rcases hm with hm | hm <;> simp [hm]))) (fun b hm => hkeep b (by intro hbg; rw [hbg] at hm; exact hUU g (.inl (by simp at hm ⊢; rcases hm with hm | hm <;> simp [hm])) hgF)) (fun row => setRow row j xs) rfl
    simp only [updC, List.getElem?_cons_zero, List.set_cons_zero, reps] at k9
    obtain ⟨v2, vs2, G1, G2, V1, V2, hh, hF, hU, k10, rfl, rfl, rfl⟩ := k9
    injection hh with hh _
    subst hh
    simp only [List.append_nil] at hF hU
    refine ⟨g, e0, cur, A ++ g :: Fa, Fm, Fb ++ B, C ++ Ua, Um, Ub ++ D, ?_, hg, by omega, by simp, by simp, by simp, ?_⟩
    · unfold Addr.add
      split <;> simp_all
    · have e1 : A ++ g :: Fa ++ Fh ++ (Fb ++ B) = G1 := by rw [← hF]; simp
      have e2 : C ++ Ua ++ Uh ++ (Ub ++ D) = V1 := by rw [← hU]; simp
      rw [e1, e2]
      exact k10
set_option maxHeartbeats 4000000 in
theorem store_core (h : Rel w0 FA UA N w a E blk FS US) {r : Root} {q : List Nat} {j : Nat} {ad : Addr} {cs row xs : List TV} {v : Value} {t : TypeId} (hr : E.root r = some cs) (hc : cont cs q = some row) (ho : ownP cs q = true) (hpa : pa w a blk r q j = some ad)
    (hx : reps w xs v.cells.toList (FS .hand) (US .hand)) (hpos : 0 < xs.length) (hfit : j + xs.length ≤ row.length) (ht : xs.length = P.cellsOf t) {E' : St} (hE : E' = (E.setRoot r (updC cs q fun row => setRow row j xs)).bump r ∨ (q = [] ∧ ((row.drop j).take xs.length).any TV.isSl = false ∧ E' = E.setRoot r (updC cs q fun row => setRow row j xs))) :
    ∃ w' FS' US', (storeVar t ad v).run P w = .ok () w' ∧ Rel w0 FA UA N w' a E' blk FS' US' ∧ FS' .hand = [] ∧ US' .hand = [] := by
  have hrh : r ≠ .hand := by
    rintro rfl
    simp [St.root, h.nohand] at hr
  have hxl := reps_len hx
  have hvl : v.cells.size = xs.length := by simpa using hxl
  have hone := reps_one hx
  have hFh := h.nodup .hand
  have hver : E'.ver r = E.ver r + 1 ∨ (E'.ver r = E.ver r ∧ q = [] ∧ ((row.drop j).take xs.length).any TV.isSl = false) := by
    rcases hE with rfl | ⟨h1, h2, rfl⟩
    · exact .inl (by rw [bump_ver_eq, setRoot_ver])
    · exact .inr ⟨by rw [setRoot_ver], h1, h2⟩
  have hverne : ∀ s, s ≠ r → E'.ver s = E.ver s := by
    intro s hs
    rcases hE with rfl | ⟨_, _, rfl⟩
    · rw [bump_ver_ne hs, setRoot_ver]
    · rw [setRoot_ver]
  have hgen : E'.gen = E.gen := by
    rcases hE with rfl | ⟨_, _, rfl⟩
    · rw [bump_gen, setRoot_gen]
    · rw [setRoot_gen]
  have hrootne : ∀ s, s ≠ r → E'.root s = E.root s := by
    intro s hs
    rcases hE with rfl | ⟨_, _, rfl⟩
    · rw [bump_root, setRoot_root_ne hs]
    · rw [setRoot_root_ne hs]
  have hslots : E'.slots = (E.setRoot r (updC cs q fun row => setRow row j xs)).slots := by rcases hE with rfl | ⟨_, _, rfl⟩ <;> rfl
  have hboxes : E'.boxes = (E.setRoot r (updC cs q fun row => setRow row j xs)).boxes := by rcases hE with rfl | ⟨_, _, rfl⟩ <;> rfl
  have hrootm : r.mem = true → E'.root r = some (updC cs q fun row => setRow row j xs) := by
    intro hm
    rcases hE with rfl | ⟨_, _, rfl⟩
    · rw [bump_root, setRoot_mem hm]
    · rw [setRoot_mem hm]
  have hlenU : (updC cs q fun row => setRow row j xs).length = cs.length := by
    cases q with
    | nil =>
      simp only [cont, Option.some.injEq] at hc
      subst hc
      simp only [updC]
      exact setRow_length hfit
    | cons c q =>
      simp only [updC]
      split <;> simp
  -- the step of the account, once the block and the content are known
  have fin : ∀ (g : Nat) (T : TypeId) (cur : Array Value) (L V : List Nat), ad = ⟨g, j, none⟩ → w.heap[g]? = some (.cells cur T (0, 0)) → j + xs.length ≤ cur.size → g ∈ FS r → L.Nodup → (∀ b ∈ L, b ∈ FS r ∨ b ∈ FS .hand) → (∀ b ∈ V, ∃ s, b ∈ US s) →
      (∀ s, Steady w (w.setRow g (setRow cur.toList j v.cells.toList).toArray) a a E E' blk blk s) →
      rootOk (w.setRow g (setRow cur.toList j v.cells.toList).toArray) a E' blk r L V →
      ∃ w' FS' US', (storeVar t ad v).run P w = .ok () w' ∧ Rel w0 FA UA N w' a E' blk FS' US' ∧ FS' .hand = [] ∧ US' .hand = [] := by
    intro g T cur L V had hg hsz hgr hL hLi hVi hst hok
    subst had
    refine ⟨_, _, _, run_storeVar hg (by omega) (by omega) (by omega) hone, h.two (r1 := r) (r2 := .hand) (L1 := L) (L2 := []) (V1 := V) (V2 := []) hrh (by simpa using hL) ?_ ?_ ?_ rfl rfl rfl ?_ hst ?_ ?_ hok trivial ?_ h.len h.nodef (hfz := by
      have e : E'.fz = E.fz := by rcases hE with rfl | ⟨_, _, rfl⟩ <;> simp only [bump_fz, setRoot_fz]
      intro n hn
      rw [e] at hn
      exact h.frz n hn) (hamb := by rcases hE with rfl | ⟨_, _, rfl⟩ <;> simp only [bump_amb, setRoot_amb]), ?_, ?_⟩
    · intro b hb
      simp only [List.append_nil] at hb
      refine ⟨(hLi b hb).elim .inl (fun e => .inr (.inl e)), ?_⟩
      simp only [setRow_size]
      rcases hLi b hb with e | e
      · exact (h.inF r b e).2
      · exact (h.inF .hand b e).2
    · intro b hb
      simp only [List.append_nil] at hb
      exact .inl (hVi b hb)
    · simp
    · intro b _ hb1 _
      exact setRow_other w g b _ (fun e => hb1 (e ▸ hgr))
    · intro n hn _
      refine ⟨?_, rfl⟩
      rw [hslots]
      cases r with
      | slot m =>
        have : n ≠ m := fun e => hn (by rw [e])
        simp [St.setRoot, upd, this]
      | _ => rfl
    · intro s _ hs _
      refine ⟨?_, rfl⟩
      rw [hboxes]
      cases r <;> simp [St.setRoot, upd, hs]
    · rw [hboxes]
      cases r <;> simp [St.setRoot, upd, h.nohand] <;> exact absurd rfl hrh
    · rw [upd_eq]
    · rw [upd_eq]
  -- roots other than r stand
  have hothers : ∀ (g : Nat) (c : Array Value), g ∈ FS r → ∀ s, s ≠ r → Steady w (w.setRow g c) a a E E' blk blk s := by
    intro g c hg s hs
    refine steady_other h (hverne s hs) (by rw [hgen]) (hrootne s hs) (fun _ _ => rfl) (fun _ => rfl) (fun b hb => setRow_other w g b c ?_) (fun b hb => setRow_other w g b c ?_)
    · rintro rfl
      exact h.dis s r hs b hb hg
    · rintro rfl
      exact h.disU r s b hg hb
  cases q with
  | nil =>
    simp only [cont, Option.some.injEq] at hc
    subst hc
    have hm : r.mem = true := by cases r <;> simp_all [pa, Root.mem]
    have had : ad = ⟨blk r, j, none⟩ := by
      cases r <;> simp only [pa, reduceCtorEq, Option.some.injEq] at hpa <;> subst hpa <;> (unfold Addr.add; split <;> simp_all)
    have hbr : E.boxes r = some cs := by cases r <;> simp_all [St.root, Root.mem]
    rcases h.box r hm with ⟨h1, _⟩ | ⟨cs', cur, T, F, h1, h2, h3, h4⟩
    · rw [h1] at hbr; cases hbr
    · rw [h1] at hbr
      injection hbr with hbr
      subst hbr
      have hl := reps_len h3
      have hcs : cur.size = cs'.length := by simpa using hl
      obtain ⟨Fa, Fm, Fb, Ua, Um, Ub, rfl, hU, h5⟩ := reps_setRow (j := j) h3 hx
      have hnd := h.nodup r
      rw [h4, List.nodup_cons] at hnd
      have hgin : blk r ∈ FS r := by rw [h4]; exact List.mem_cons_self
      have hsubF : ∀ b, b ∈ Fa ++ FS .hand ++ Fb → b ∈ FS r ∨ b ∈ FS .hand := by
        intro b hb
        rw [h4]
        simp at hb ⊢
        rcases hb with hb | hb | hb <;> simp [hb]
      have hgnot : blk r ∉ Fa ++ FS .hand ++ Fb := by
        intro hb
        simp only [List.mem_append] at hb
        rcases hb with (hb | hb) | hb
        · exact hnd.1 (by simp [hb])
        · exact h.dis r .hand hrh _ hgin hb
        · exact hnd.1 (by simp [hb])
      have hsubU : ∀ b, b ∈ Ua ++ US .hand ++ Ub → ∃ s, b ∈ US s := by
        intro b hb
        simp only [List.mem_append] at hb
        rcases hb with (hb | hb) | hb
        · exact ⟨r, by rw [hU]; simp [hb]⟩
        · exact ⟨_, hb⟩
        · exact ⟨r, by rw [hU]; simp [hb]⟩
      have hst : ∀ s, Steady w (w.setRow (blk r) (setRow cur.toList j v.cells.toList).toArray) a a E E' blk blk s := by
        intro s
        by_cases hs : s = r
        · subst hs
          have hrc : ∀ (w : World) c, rootCell w a blk s c = w.cell? ((⟨blk s, 0, none⟩ : Addr).add c) := by intro w c; cases s <;> simp_all [rootCell, Root.mem]
          have hcellw : ∀ c, w.cell? ((⟨blk s, 0, none⟩ : Addr).add c) = cur[c]? := by
            intro c
            unfold World.cell?
            rw [add_block]
            simp only [h2]
            unfold Addr.add
            split
            · rename_i h0; subst h0; rfl
            · simp
          have hcellw' : ∀ c, (w.setRow (blk s) (setRow cur.toList j v.cells.toList).toArray).cell? ((⟨blk s, 0, none⟩ : Addr).add c) = (setRow cur.toList j v.cells.toList)[c]? := by
            intro c
            unfold World.cell?
            rw [add_block]
            simp only [setRow_heap w (blk s) cur _ T (0, 0) h2]
            unfold Addr.add
            split
            · rename_i h0; subst h0; simp
            · simp
          constructor
          · rcases hver with hv | ⟨hv, _, hns⟩
            · exact .inl (by omega)
            · -- no header is turned
              have hcs' : ∀ (c : Nat) (o : Bool) (e sz : Nat) (cells : List TV), cs'[c]? = some (TV.sl o e sz cells) → (setRow cs' j xs)[c]? = some (TV.sl o e sz cells) ∧ (setRow cur.toList j v.cells.toList)[c]? = cur[c]? := by
                intro c o e sz cells hcc
                have hout : c < j ∨ j + xs.length ≤ c := by
                  rcases Nat.lt_or_ge c j with hlt | hge
                  · exact .inl hlt
                  · rcases Nat.lt_or_ge c (j + xs.length) with hlt | hge2
                    · exfalso
                      rw [List.any_eq_false] at hns
                      have hmem : TV.sl o e sz cells ∈ (cs'.drop j).take xs.length := by
                        rw [List.mem_iff_getElem?]
                        refine ⟨c - j, ?_⟩
                        rw [List.getElem?_take, if_pos (by omega), List.getElem?_drop]
                        rw [show j + (c - j) = c from by omega]
                        exact hcc
                      have := hns _ hmem
                      simp [TV.isSl] at this
                    · exact .inr hge2
                refine ⟨by rw [setRow_other_cell hout hfit]; exact hcc, ?_⟩
                rw [setRow_other_cell (by rw [hxl]; exact hout) (by rw [hxl]; simpa [hcs] using hfit)]
                simp
              have hroot' : E'.root s = some (setRow cs' j xs) := by rw [hrootm hm]; rfl
              have hwalk : ∀ (c : Nat) (q' : List Nat) (o : Bool) (e sz : Nat) (cells : List TV), cs'[c]? = some (TV.sl o e sz cells) → ∀ row2 : List TV, cont cells q' = some row2 → ∀ (j2 : Nat) (t2 : TV), row2[j2]? = some t2 →
                  ∃ hv ad2, cur[c]? = some hv ∧ baseV w hv q' = some ad2 ∧ baseV (w.setRow (blk s) (setRow cur.toList j v.cells.toList).toArray) hv q' = some ad2 ∧ (w.setRow (blk s) (setRow cur.toList j v.cells.toList).toArray).cell? (ad2.add j2) = w.cell? (ad2.add j2) := by
                intro c q' o e sz cells hcc row2 hrow2 j2 t2 hj2
                obtain ⟨hv, A, B, C, D, F1, U1, k1, k2, k3, k4, _⟩ := reps_get c h3 hcc
                have k5 : reps w [.sl o e sz cells] [hv] F1 U1 := by simp only [reps]; exact ⟨hv, [], F1, [], U1, [], rfl, by simp, by simp, k2, rfl, rfl, rfl⟩
                have k6 : cont [.sl o e sz cells] (0 :: q') = some row2 := by simpa [cont] using hrow2
                obtain ⟨rvs, F2, U2, k7, k8, k9, hv', k10, k11⟩ := cont_rep (0 :: q') k5 k6
                simp at k10
                subst k10
                have hlr := reps_len k7
                have hjl := (List.getElem?_eq_some_iff.1 hj2).1
                obtain ⟨ad2, k12⟩ := k11 j2 _ (List.getElem?_eq_getElem (by omega))
                obtain ⟨k13, k14⟩ := k12 w (fun _ _ => rfl) (fun _ _ => rfl)
                obtain ⟨k15, k16⟩ := k12 (w.setRow (blk s) (setRow cur.toList j v.cells.toList).toArray) (fun b hb => setRow_other w _ b _ (fun e => hnd.1 (by rw [k3, ← e]; simp [hb]))) (fun b hb => setRow_other w _ b _ (fun e => h.disU s s b (by rw [e]; exact hgin) (by rw [k4]; simp [hb])))
                exact ⟨hv, ad2, by simpa using k1, k13, k15, by rw [k14, k16]⟩
              refine .inr ⟨hv, fun q' j' u hpv hsl => ?_, fun q' j' u hq' hpv hsl => ?_⟩
              · cases q' with
                | nil =>
                  simp only [St.place, hr, Option.bind_some, cont] at hsl
                  cases hcc : cs'[j']? with
                  | none => simp [hcc, isSlO] at hsl
                  | some t0 =>
                    cases t0 <;> simp [hcc, isSlO, TV.isSl] at hsl
                    obtain ⟨e1, e2⟩ := hcs' j' _ _ _ _ hcc
                    refine ⟨?_, by simp [St.place, hroot', cont, e1, isSlO, TV.isSl]⟩
                    simp only [pv, hrc, hcellw] at hpv
                    simp only [pv, hrc, hcellw', e2]
                    exact hpv
                | cons c q' =>
                  simp only [St.place, hr, Option.bind_some, cont] at hsl
                  cases hcc : cs'[c]? with
                  | none => simp [hcc, isSlO] at hsl
                  | some t0 =>
                    cases t0 <;> simp [hcc, isSlO] at hsl
                    rename_i o e sz cells
                    obtain ⟨e1, e2⟩ := hcs' c _ _ _ _ hcc
                    cases hrow2 : cont cells q' with
                    | none => simp [hrow2] at hsl
                    | some row2 =>
                      simp only [hrow2, Option.bind_some] at hsl
                      cases hj2 : row2[j']? with
                      | none => simp [hj2] at hsl
                      | some t2 =>
                        obtain ⟨hv2, ad2, k1, k2, k3, k4⟩ := hwalk c q' _ _ _ _ hcc row2 hrow2 j' t2 hj2
                        refine ⟨?_, ?_⟩
                        · simp only [pv, hrc, hcellw, k1, Option.bind_some, k2] at hpv
                          simp only [pv, hrc, hcellw', e2, k1, Option.bind_some, k3, k4]
                          exact hpv
                        · simp only [St.place, hroot', Option.bind_some, cont, e1, hrow2]
                          rw [hj2] at hsl ⊢
                          exact hsl
              · cases q' with
                | nil => exact absurd rfl hq'
                | cons c q' =>
                  simp only [St.place, hr, Option.bind_some, cont] at hsl
                  cases hcc : cs'[c]? with
                  | none => simp [hcc] at hsl
                  | some t0 =>
                    cases t0 <;> simp [hcc] at hsl
                    rename_i o e sz cells
                    obtain ⟨e1, e2⟩ := hcs' c _ _ _ _ hcc
                    cases hrow2 : cont cells q' with
                    | none => simp [hrow2] at hsl
                    | some row2 =>
                      simp only [hrow2, Option.bind_some] at hsl
                      cases hj2 : row2[j']? with
                      | none => simp [hj2] at hsl
                      | some t2 =>
                        obtain ⟨hv2, ad2, k1, k2, k3, k4⟩ := hwalk c q' _ _ _ _ hcc row2 hrow2 j' t2 hj2
                        refine ⟨?_, ?_⟩
                        · simp only [pa, hrc, hcellw, k1, Option.bind_some, k2, Option.map_some] at hpv
                          simp only [pa, hrc, hcellw', e2, k1, Option.bind_some, k3, Option.map_some]
                          exact hpv
                        · simp [St.place, hroot', cont, e1, hrow2, hj2]
          · refine .inr ⟨by rw [hgen], fun j' ad' h5 h6 => ⟨h5, ?_⟩⟩
            simp only [St.place, hr, Option.bind_some, cont] at h6
            simp only [St.place, hrootm hm, Option.bind_some, cont]
            obtain ⟨x, hxx⟩ := Option.isSome_iff_exists.1 h6
            have := (List.getElem?_eq_some_iff.1 hxx).1
            rw [List.getElem?_eq_getElem (by rw [hlenU]; exact this)]
            rfl
        · exact hothers _ _ hgin s hs
      refine fin (blk r) T cur (blk r :: (Fa ++ FS .hand ++ Fb)) (Ua ++ US .hand ++ Ub) had h2 (by omega) hgin ?_ ?_ hsubU hst ?_
      · rw [List.nodup_cons]
        refine ⟨hgnot, nodup_swap hnd.2 hFh (fun b hb => ?_)⟩
        refine ⟨fun e => h.dis r .hand hrh b (by rw [h4]; simp [e]) hb, fun e => h.dis r .hand hrh b (by rw [h4]; simp [e]) hb⟩
      · intro b hb
        rcases List.mem_cons.1 hb with rfl | hb
        · exact .inl hgin
        · exact hsubF b hb
      · have hE' : E'.boxes r = some (setRow cs' j xs) := by
          rw [hboxes]
          cases r <;> simp_all [St.setRoot, upd, updC, Root.mem]
        have hrep := reps_move (w' := w.setRow (blk r) (setRow cur.toList j v.cells.toList).toArray) h5 (fun b hb => setRow_other w _ b _ (fun e => hgnot (e ▸ hb))) (fun b hb => setRow_other w _ b _ (fun e => by
          obtain ⟨s, hs⟩ := hsubU b hb
          exact h.disU r s b (e ▸ hgin) hs))
        have hfinal : (E'.boxes r = none ∧ blk r :: (Fa ++ FS .hand ++ Fb) = [] ∧ Ua ++ US .hand ++ Ub = []) ∨ ∃ cs cur2 T F0, E'.boxes r = some cs ∧ (w.setRow (blk r) (setRow cur.toList j v.cells.toList).toArray).heap[blk r]? = some (.cells cur2 T (0, 0)) ∧ reps (w.setRow (blk r) (setRow cur.toList j v.cells.toList).toArray) cs cur2.toList F0 (Ua ++ US .hand ++ Ub) ∧ blk r :: (Fa ++ FS .hand ++ Fb) = blk r :: F0 :=
          .inr ⟨_, _, T, _, hE', setRow_heap w (blk r) cur _ T (0, 0) h2, by simpa using hrep, rfl⟩
        cases r <;> first | exact hfinal | cases hm
  | cons c q =>
    have hbump : E' = (E.setRoot r (updC cs (c :: q) fun row => setRow row j xs)).bump r := by
      rcases hE with hE | ⟨h1, _, _⟩
      · exact hE
      · cases h1
    have hnode : ∃ o e sz cells, cs[c]? = some (TV.sl o e sz cells) ∧ cont cells q = some row ∧ (o && ownP cells q) = true := by
      simp only [cont] at hc
      split at hc
      · rename_i o e sz cells hcs
        simp only [ownP, hcs] at ho
        exact ⟨o, e, sz, cells, hcs, hc, ho⟩
      · cases hc
    obtain ⟨o, e, sz, cells, hcs, hcq, hoq⟩ := hnode
    have hupd : (updC cs (c :: q) fun row => setRow row j xs) = cs.set c (.sl o e sz (updC cells q fun row => setRow row j xs)) := by simp only [updC, hcs]
    -- what the store does to the node, its blocks at hand
    have core : ∀ (hv : Value) (F1 U1 : List Nat), rep w (.sl o e sz cells) hv F1 U1 → rootCell w a blk r c = some hv → (∀ b ∈ F1, b ∈ FS r) → (∀ b ∈ U1, b ∈ US r) → F1.Nodup →
        ∃ g T cur X Fm Y Xu Um Yu, ad = ⟨g, j, none⟩ ∧ w.heap[g]? = some (.cells cur T (0, 0)) ∧ j + xs.length ≤ cur.size ∧ F1 = X ++ Fm ++ Y ∧ U1 = Xu ++ Um ++ Yu ∧ g ∈ X ∧
          rep (w.setRow g (setRow cur.toList j v.cells.toList).toArray) (.sl o e sz (updC cells q fun row => setRow row j xs)) hv (X ++ FS .hand ++ Y) (Xu ++ US .hand ++ Yu) := by
      intro hv F1 U1 hn hrc hF1 hU1 hnd1
      simp only [pa, hrc, Option.bind_some] at hpa
      obtain ⟨ad0, hb0, rfl⟩ := Option.map_eq_some_iff.1 hpa
      exact store_path hn hoq hcq hb0 hx hpos hfit hnd1 (fun b hb e => h.dis r .hand hrh b (hF1 b e) hb) (fun b hb e => hb.elim (fun hb => h.disU r r b (hF1 b e) (hU1 b hb)) (fun hb => h.disU r .hand b (hF1 b e) hb))
    have hst : ∀ (g : Nat) (cu : Array Value), g ∈ FS r → ∀ s, Steady w (w.setRow g cu) a a E E' blk blk s := by
      intro g cu hg s
      by_cases hs : s = r
      · subst hs
        refine ⟨.inl ?_, .inr ⟨by rw [hgen], fun j' ad' h5 h6 => ⟨?_, ?_⟩⟩⟩
        · rw [hbump, bump_ver_eq, setRoot_ver]; omega
        · cases s <;> first | exact h5 | (simp [pa] at h5; done)
        · by_cases hm : s.mem = true
          · simp only [St.place, hr, Option.bind_some, cont] at h6
            simp only [St.place, hrootm hm, Option.bind_some, cont]
            obtain ⟨x, hxx⟩ := Option.isSome_iff_exists.1 h6
            have := (List.getElem?_eq_some_iff.1 hxx).1
            rw [List.getElem?_eq_getElem (by rw [hlenU]; exact this)]
            rfl
          · cases s <;> first | (simp [pa] at h5; done) | exact absurd rfl hm
      · exact hothers g cu hg s hs
    have hndr := h.nodup r
    -- the account of the new footprint
    have acc : ∀ (P0 Q0 X Fm Y : List Nat) (g : Nat), FS r = P0 ++ (X ++ Fm ++ Y) ++ Q0 → (P0 ++ (X ++ FS .hand ++ Y) ++ Q0).Nodup ∧ ∀ b ∈ P0 ++ (X ++ FS .hand ++ Y) ++ Q0, b ∈ FS r ∨ b ∈ FS .hand := by
      intro P0 Q0 X Fm Y g hFr
      have h1 : ((P0 ++ X) ++ Fm ++ (Y ++ Q0)).Nodup := by
        have : (P0 ++ X) ++ Fm ++ (Y ++ Q0) = FS r := by rw [hFr]; simp
        rw [this]; exact hndr
      have h2 := nodup_swap h1 hFh (fun b hb => ⟨fun e => h.dis r .hand hrh b (by rw [hFr]; simp at e ⊢; rcases e with e | e <;> simp [e]) hb, fun e => h.dis r .hand hrh b (by rw [hFr]; simp at e ⊢; rcases e with e | e <;> simp [e]) hb⟩)
      refine ⟨by simpa using h2, fun b hb => ?_⟩
      rw [hFr]
      simp at hb ⊢
      rcases hb with hb | hb | hb | hb | hb <;> simp [hb]
    by_cases hm : r.mem = true
    · have hbr : E.boxes r = some cs := by cases r <;> simp_all [St.root, Root.mem]
      rcases h.box r hm with ⟨h1, _⟩ | ⟨cs', cur0, T0, F, h1, h2, h3, h4⟩
      · rw [h1] at hbr; cases hbr
      · rw [h1] at hbr
        injection hbr with hbr
        subst hbr
        obtain ⟨hv, A, B, C, D, F1, U1, k1, k2, rfl, kU, k3⟩ := reps_get c h3 hcs
        have hrc : rootCell w a blk r c = some hv := by
          have : rootCell w a blk r c = w.cell? ((⟨blk r, 0, none⟩ : Addr).add c) := by cases r <;> simp_all [rootCell, Root.mem]
          rw [this]
          unfold World.cell?
          rw [add_block]
          simp only [h2]
          have k1' : cur0[c]? = some hv := by simpa using k1
          unfold Addr.add
          split
          · rename_i h0; subst h0; simpa using k1'
          · simpa using k1'
        have hF1 : ∀ b ∈ F1, b ∈ FS r := fun b hb => by rw [h4]; simp [hb]
        have hnd1 : F1.Nodup := by
          rw [h4, List.nodup_cons] at hndr
          exact (nodup_mid hndr.2).1
        obtain ⟨g, T, cur, X, Fm, Y, Xu, Um, Yu, had, hg, hsz, rfl, rfl, hgX, hrep⟩ := core hv F1 U1 k2 hrc hF1 (fun b hb => by rw [kU]; simp [hb]) hnd1
        have hgr : g ∈ FS r := hF1 g (by simp [hgX])
        have hgb : g ≠ blk r := by
          rintro rfl
          rw [h4, List.nodup_cons] at hndr
          exact hndr.1 (by simp [hgX])
        obtain ⟨a1, a2⟩ := acc (blk r :: A) B X Fm Y g (by rw [h4]; simp)
        have hgAB : g ∉ A ++ B := by
          rw [h4, List.nodup_cons] at hndr
          intro e
          have := ((nodup_mid hndr.2).2.1 g (by simp [hgX]))
          rcases List.mem_append.1 e with e | e
          · exact this.1 e
          · exact this.2 e
        refine fin g T cur (blk r :: A ++ (X ++ FS .hand ++ Y) ++ B) (C ++ (Xu ++ US .hand ++ Yu) ++ D) had hg hsz hgr a1 a2 ?_ (hst g _ hgr) ?_
        · intro b hb
          simp only [List.mem_append] at hb
          rcases hb with (hb | ((hb | hb) | hb)) | hb
          · exact ⟨r, by rw [kU]; simp [hb]⟩
          · exact ⟨r, by rw [kU]; simp [hb]⟩
          · exact ⟨_, hb⟩
          · exact ⟨r, by rw [kU]; simp [hb]⟩
          · exact ⟨r, by rw [kU]; simp [hb]⟩
        · have hE' : E'.boxes r = some (cs'.set c (.sl o e sz (updC cells q fun row => setRow row j xs))) := by
            rw [hboxes, hupd]
            cases r <;> simp_all [St.setRoot, upd, Root.mem]
          have k4 := k3 _ _ hv _ _ hrep (fun b hb => setRow_other w g b _ (fun e => hgAB (e ▸ hb))) (fun b hb => setRow_other w g b _ (fun e => h.disU r r b (e ▸ hgr) (by rw [kU]; simp at hb ⊢; rcases hb with hb | hb <;> simp [hb])))
          rw [set_self k1] at k4
          have hfinal : (E'.boxes r = none ∧ blk r :: A ++ (X ++ FS .hand ++ Y) ++ B = [] ∧ C ++ (Xu ++ US .hand ++ Yu) ++ D = []) ∨ ∃ cs cur2 T F0, E'.boxes r = some cs ∧ (w.setRow g (setRow cur.toList j v.cells.toList).toArray).heap[blk r]? = some (.cells cur2 T (0, 0)) ∧ reps (w.setRow g (setRow cur.toList j v.cells.toList).toArray) cs cur2.toList F0 (C ++ (Xu ++ US .hand ++ Yu) ++ D) ∧ blk r :: A ++ (X ++ FS .hand ++ Y) ++ B = blk r :: F0 :=
            .inr ⟨_, cur0, T0, _, hE', (setRow_other w g _ _ (Ne.symm hgb)).trans h2, k4, by simp⟩
          cases r <;> first | exact hfinal | cases hm
    · cases r with
      | box n => exact absurd rfl hm
      | ext n => exact absurd rfl hm
      | hand => exact absurd rfl hrh
      | slot n =>
        have hs := h.slot n
        simp only [St.root, Option.some.injEq] at hr
        -- the cells, as a list
        have key : ∀ (vs : List Value), cellsX w a E blk cs vs (FS (.slot n)) (US (.slot n)) → (∀ c : Nat, (a.eval (.tmp n)).cells[c]? = vs[c]?) →
            (∀ (w' : World) (L V : List Nat), cellsX w' a E' blk (cs.set c (.sl o e sz (updC cells q fun row => setRow row j xs))) vs L V → rootOk w' a E' blk (.slot n) L V) →
            ∃ w' FS' US', (storeVar t ad v).run P w = .ok () w' ∧ Rel w0 FA UA N w' a E' blk FS' US' ∧ FS' .hand = [] ∧ US' .hand = [] := by
          intro vs hxs hvs hback
          obtain ⟨hv2, A, B, C, D, F1', U1', k5, k6, k7, k8, k9⟩ := cellsX_upd_step c hxs hcs
          have hrc : rootCell w a blk (.slot n) c = some hv2 := by simp only [rootCell, hvs, k5]
          have hF1 : ∀ b ∈ F1', b ∈ FS (.slot n) := fun b hb => by rw [k7]; simp [hb]
          have hnd1 : F1'.Nodup := by rw [k7] at hndr; exact (nodup_mid hndr).1
          obtain ⟨g, T, cur, X, Fm, Y, Xu, Um, Yu, had, hg, hsz, rfl, rfl, hgX, hrep⟩ := core hv2 F1' U1' k6 hrc hF1 (fun b hb => by rw [k8]; simp [hb]) hnd1
          have hgr : g ∈ FS (.slot n) := hF1 g (by simp [hgX])
          have hgAB : g ∉ A ++ B := by
            rw [k7] at hndr
            intro e
            have := ((nodup_mid hndr).2.1 g (by simp [hgX]))
            rcases List.mem_append.1 e with e | e
            · exact this.1 e
            · exact this.2 e
          obtain ⟨a1, a2⟩ := acc A B X Fm Y g k7
          refine fin g T cur (A ++ (X ++ FS .hand ++ Y) ++ B) (C ++ (Xu ++ US .hand ++ Yu) ++ D) had hg hsz hgr a1 a2 ?_ (hst g _ hgr) (hback _ _ _ (k9 _ a E' blk (hst g _ hgr) _ _ _ hrep (fun b hb => setRow_other w g b _ (fun e => hgAB (e ▸ hb))) (fun b hb => setRow_other w g b _ (fun e => h.disU _ _ b (e ▸ hgr) (by rw [k8]; simp at hb ⊢; rcases hb with hb | hb <;> simp [hb])))))
          intro b hb
          simp only [List.mem_append] at hb
          rcases hb with (hb | ((hb | hb) | hb)) | hb
          · exact ⟨.slot n, by rw [k8]; simp [hb]⟩
          · exact ⟨.slot n, by rw [k8]; simp [hb]⟩
          · exact ⟨_, hb⟩
          · exact ⟨.slot n, by rw [k8]; simp [hb]⟩
          · exact ⟨.slot n, by rw [k8]; simp [hb]⟩
        have hslot' : E'.slots n = (E.slots n).withCells (cs.set c (.sl o e sz (updC cells q fun row => setRow row j xs))) := by
          rw [hslots, hupd]
          simp [St.setRoot, upd]
        cases hsl : E.slots n with
        | one t =>
          rw [hsl] at hs hr
          simp only [SV.cells] at hr
          subst hr
          simp only [svX] at hs
          obtain ⟨hx1, hjk⟩ := hs
          have hc0 : c = 0 ∧ t = .sl o e sz cells := by
            cases c with
            | zero => simpa using hcs
            | succ c => simp at hcs
          obtain ⟨rfl, rfl⟩ := hc0
          refine key [a.eval (.tmp n)] ⟨_, [], _, [], _, [], rfl, by simp, by simp, hx1, rfl, rfl, rfl⟩ (fun c => by rw [hjk rfl]; simp) (fun w' L V hxx => ?_)
          simp only [rootOk, hslot', hsl, SV.withCells, List.set_cons_zero, svX]
          obtain ⟨v2, vs2, G1, G2, V1, V2, hh, rfl, rfl, h15, rfl, rfl, rfl⟩ := hxx
          injection hh with hh _
          subst hh
          simp only [List.append_nil]
          exact ⟨h15, fun _ => hjk rfl⟩
        | agg ts =>
          rw [hsl] at hs hr
          simp only [SV.cells] at hr
          subst hr
          simp only [svX] at hs
          obtain ⟨vs, hvs, hx1⟩ := hs
          refine key vs hx1 (fun c => by rw [hvs]; simp [Value.cells]) (fun w' L V hxx => ?_)
          simp only [rootOk, hslot', hsl, SV.withCells, svX]
          exact ⟨vs, hvs, hxx⟩
        | tup ss =>
          rw [hsl] at hr
          simp only [SV.cells] at hr
          subst hr
          simp at hcs
end
end Go.TI
namespace Go.TI
open Go Go.RowKit
set_option linter.unusedSimpArgs false
set_option linter.unusedVariables false
section
variable {w0 : Base} {FA UA : List Nat} {N : Nat} {w : World} {a : Act} {E : St} {blk : Root → Nat} {FS US : Root → List Nat} {P : Program}
theorem Done.store (h : Rel w0 FA UA N w a E blk FS US) (hF : FS .hand = []) (hU : US .hand = []) {o : Oper} {t : TypeId} {ad x : Operand} (ho : o.op = .store t ad x) (hd : o.dst = none) {E' : St} (he : effStore P E t ad x = some E') : Done P w0 FA UA N w a o E' := by
  unfold effStore at he
  split at he
  · rename_i s hs
    split at he
    · rename_i xs E1 hx
      split at he
      · rename_i r q j hp
        split at he
        · rename_i cs hr
          split at he
          · rename_i row hc
            split at he
            · rename_i hcond
              obtain ⟨hown, hlen, hpos, hfit⟩ := hcond
              obtain ⟨U, h1, h2⟩ := val_rel h hs
              obtain ⟨FS1, US1, F1, U1, h3, h4, h5, h6, _, _⟩ := takeSV_rel h h1 h2 hx
              rw [hF, List.nil_append] at h5
              rw [hU, List.nil_append] at h6
              subst h5 h6
              obtain ⟨_, adr, h7, h8⟩ := ptr_rel h4 hp
              have hE : E' = (E1.setRoot r (updC cs q fun row => setRow row j xs)).bump r ∨ (q = [] ∧ ((row.drop j).take xs.length).any TV.isSl = false ∧ E' = E1.setRoot r (updC cs q fun row => setRow row j xs)) := by
                split at he
                · rename_i hq
                  injection he with he
                  exact .inr ⟨by cases q <;> simp_all, hq.2, he.symm⟩
                · injection he with he
                  exact .inl he.symm
              obtain ⟨w', FS', US', h9, h10, h11, h12⟩ := store_core (P := P) h4 hr hc hown h7 h3 hpos hfit hlen hE
              refine ⟨.skip, w', undef, blk, FS', US', ?_, .inr ⟨rfl, rfl⟩, by rw [hd]; exact h10, h11, h12, fun hk => by simp [kp, ho] at hk⟩
              simp [execOp, ho, Instr.storeAt, h8, Instr.sureAddr, h9]
            · cases he
          · cases he
        · cases he
      · cases he
    · cases he
  · cases he
theorem Rel.land (h : Rel w0 FA UA N w a E blk FS US) {w' : World} {d : Nat} {s : SV} {v : Value} {F U : List Nat} (hd : d < N)
    (hs : svX w' (a.put (some d) v) (E.put (some d) s) blk s v F U) (hnd : F.Nodup)
    (hF : ∀ b ∈ F, (b ∈ FS .hand ∨ w.heap.size ≤ b) ∧ b < w'.heap.size)
    (hU : ∀ b ∈ U, (∃ s, b ∈ US s) ∨ ((b ∈ FS .hand ∨ w.heap.size ≤ b) ∧ b ∉ F ∧ b < w'.heap.size))
    (hsize : w.heap.size ≤ w'.heap.size) (hos : w'.os = w.os) (htape : w'.tape = w.tape) (hout : w'.output = w.output)
    (hkeep : ∀ b, b < w.heap.size → b ∉ FS .hand → w'.heap[b]? = w.heap[b]?) :
    ∃ FS' US', Rel w0 FA UA N w' (a.put (some d) v) (E.put (some d) s) blk FS' US' ∧ FS' .hand = [] ∧ US' .hand = [] := by
  have hst : ∀ r, Steady w w' a (a.put (some d) v) E (E.put (some d) s) blk blk r := by
    intro r
    by_cases hr : r = .slot d
    · subst hr
      exact ⟨.inl (by rw [put_ver_eq]; omega), .inr ⟨by rw [put_gen], fun j ad h1 _ => by simp [pa] at h1⟩⟩
    · by_cases hh : r = .hand
      · subst hh
        exact steady_none (put_ver hr) (by rw [put_gen]) (by simp [St.root, h.nohand])
      · exact steady_other h (put_ver hr) (by rw [put_gen]) (put_root hr) (fun n hn => eval_put_ne (fun e => hr (by rw [hn, e]))) (fun _ => rfl)
          (fun b hb => hkeep b (h.inF r b hb).2 (h.dis r .hand hh b hb)) (fun b hb => hkeep b (h.inU r b hb).2 (fun e => h.disU .hand r b e hb))
  have h1 := h.two (w' := w') (a' := a.put (some d) v) (E' := E.put (some d) s) (blk' := blk) (r1 := .slot d) (r2 := .hand) (L1 := F) (L2 := []) (V1 := U) (V2 := []) (by simp)
    (by simpa using hnd)
    (by
      intro b hb
      simp only [List.append_nil] at hb
      exact ⟨.inr (hF b hb).1, (hF b hb).2⟩)
    (by
      intro b hb
      simp only [List.append_nil] at hb ⊢
      rcases hU b hb with hx | ⟨hx, hy, hz⟩
      · exact .inl hx
      · exact .inr ⟨.inr hx, hy, hz⟩)
    hsize hos htape hout (fun b hb _ hb2 => hkeep b hb hb2) hst
    (fun m hm1 _ => by
      have hmd : m ≠ d := fun e => hm1 (by rw [e])
      exact ⟨by simp [St.put, upd, hmd], eval_put_ne hmd⟩)
    (fun s hm hs _ => ⟨rfl, rfl⟩)
    (by
      have hev : (a.put (some d) v).eval (.tmp d) = v := eval_put_eq (Nat.lt_of_lt_of_le hd h.len)
      have hsl : (E.put (some d) s).slots d = s := by simp [St.put, upd]
      simp only [rootOk, hev, hsl]
      exact hs)
    trivial h.nohand (by rw [put_size]; exact h.len) (by rw [put_defers]; exact h.nodef)
  exact ⟨_, _, h1, by rw [upd_eq], by rw [upd_eq]⟩
theorem madeCells_flat (z : Array Value) (sz : Nat) (hz : z.size = sz) : ∀ n, (madeCells z (n * sz)).toList = (List.replicate n z.toList).flatten := by
  intro n
  subst hz
  have hrow : ∀ k, (List.range z.size).map (fun j => z[(k * z.size + j) % z.size]!) = z.toList := by
    intro k
    apply List.ext_getElem
    · simp
    · intro i h1 h2
      simp at h1
      simp [Nat.mod_eq_of_lt h1, h1]
  have main : ∀ n, (List.range (n * z.size)).map (fun i => z[i % z.size]!) = (List.replicate n z.toList).flatten := by
    intro n
    induction n with
    | zero => simp
    | succ n ih =>
      rw [Nat.succ_mul, List.range_add, List.map_append, ih, List.map_map]
      have := hrow n
      rw [List.replicate_succ', List.flatten_append]
      simp only [List.flatten_cons, List.flatten_nil, List.append_nil]
      congr 1
  simp only [madeCells, Array.toList_map, Array.toList_range]
  exact main n
theorem Done.make (h : Rel w0 FA UA N w a E blk FS US) (hF : FS .hand = []) (hU : US .hand = []) {o : Oper} {d : Nat} {t : TypeId} {l c : Operand} (ho : o.op = .makeSlice t l c) (hd : o.dst = some d) (hN : d < N) {E' : St} (he : effMake P E d t l c = some E') : Done P w0 FA UA N w a o E' := by
  unfold effMake at he
  split at he
  · rename_i e kl n kc m ht hl hc
    split at he
    · rename_i zs hz
      split at he
      · rename_i hcond
        obtain ⟨rfl, h0, hb, h63⟩ := hcond
        injection he with he
        subst he
        obtain ⟨i, z, hi, hzz, hzs, hr⟩ := zeroTVs_rep (w := w) hz
        have hsz : i.size = P.cellsOf e := by simp [Program.cellsOf, hi]
        have hby : i.bytes = P.bytesOf e := by simp [Program.bytesOf, hi]
        have hrun := run_make (P := P) w t e i z ht hi hzz kl kc n n h0 (Int.le_refl _) (by rw [hby]; exact hb) h63
        have hzl := reps_len hr
        have hm : (madeCells z.cells (n.toNat * i.size)).toList = (List.replicate n.toNat z.cells.toList).flatten := madeCells_flat _ _ (by rw [hzs, hsz]) _
        have hreps : reps w (List.replicate n.toNat zs).flatten (madeCells z.cells (n.toNat * i.size)).toList (FS .hand) (US .hand) := by
          rw [hm, hF, hU]
          exact reps_replicate hr _
        have hml := reps_len hreps
        obtain ⟨FS', US', h1, h2, h3⟩ := h.newRow (d := d) (e := e) (sz := P.cellsOf e) (n := n.toNat) hN hreps (by
          rw [← hml]
          simp [madeCells, hsz]) (by simp only [maxLen]; omega)
        refine ⟨.value _, _, _, blk, FS', US', ?_, .inl rfl, by rw [hd]; exact h1, h2, h3, fun _ => KeptW.alloc⟩
        simp [execOp, ho, cell1_int h hl, cell1_int h hc, hrun]
      · cases he
    · cases he
  · cases he
end
end Go.TI
namespace Go.TI
open Go Go.RowKit
set_option linter.unusedSimpArgs false
set_option linter.unusedVariables false
section
variable {w0 : Base} {FA UA : List Nat} {N : Nat} {w : World} {a : Act} {E : St} {blk : Root → Nat} {FS US : Root → List Nat} {P : Program}
theorem pv_of_pa {q : List Nat} {r : Root} {j : Nat} {ad : Addr} {u : Value} (hq : q ≠ []) (h : pa w a blk r q j = some ad) (hc : w.cell? ad = some u) : pv w a blk r q j = some u := by
  cases q with
  | nil => exact absurd rfl hq
  | cons c q =>
    simp only [pa] at h
    obtain ⟨v, h1, h⟩ := Option.bind_eq_some_iff.1 h
    obtain ⟨ad1, h2, rfl⟩ := Option.map_eq_some_iff.1 h
    simp only [pv, h1, Option.bind_some, h2, hc]
theorem elems_rel (h : Rel w0 FA UA N w a E blk FS US) {x : Operand} {r : Root} {q : List Nat} {j : Nat} {o : Bool} {e sz : Nat} {cells : List TV} (hr : E.ref x = some (r, q, j)) (hp : E.place r q j = some (.sl o e sz cells)) :
    ∃ A m c vs U, a.eval x = .slice A m c ∧ m ≤ c ∧ m * sz = cells.length ∧ vs.length = cells.length ∧ Reads w (a.eval x) vs ∧ cellsX w a E blk (sees E r (q ++ [j]) 0 cells) vs [] U ∧ (∀ b ∈ U, ∃ r, b ∈ US r) ∧ ∀ u ∈ vs, u.oneCell' = true := by
  have hpv := ref_rel h hr
  obtain ⟨F, U, h1, hF, hU⟩ := place_sl h hp hpv
  have key : ∀ (A : Option Addr) (m c : Nat) (vs : List Value) (F' U' : List Nat), a.eval x = .slice A m c → m ≤ c → vs.length = m * sz → Reads w (a.eval x) vs → reps w cells vs F' U' → (∀ b ∈ U', b ∈ U) →
      ∃ A m c vs U, a.eval x = .slice A m c ∧ m ≤ c ∧ m * sz = cells.length ∧ vs.length = cells.length ∧ Reads w (a.eval x) vs ∧ cellsX w a E blk (sees E r (q ++ [j]) 0 cells) vs [] U ∧ (∀ b ∈ U, ∃ r, b ∈ US r) ∧ ∀ u ∈ vs, u.oneCell' = true := by
    intro A m c vs F' U' hv hmc hl hrd hrs hU'
    have hlen := reps_len hrs
    obtain ⟨U4, h13, h14⟩ := sees_rel (a := a) (E := E) (blk := blk) (r := r) (q := q ++ [j]) 0 (cellsX_of_reps hrs) (fun i t' v' hi hv' e sz cells he => by
      obtain ⟨ad, n2, c2, h5, h6⟩ := hrd i v' hv'
      rw [Nat.zero_add]
      refine ⟨pv_of_pa (by simp) (pa_snoc (i := i) (by rw [hpv, h5])) h6, ?_⟩
      unfold St.place at hp
      obtain ⟨cs, h7, hp⟩ := Option.bind_eq_some_iff.1 hp
      obtain ⟨row, h8, h9⟩ := Option.bind_eq_some_iff.1 hp
      simp [St.place, h7, cont_snoc h8 h9, hi])
    exact ⟨A, m, c, vs, U4, hv, hmc, by omega, hlen, hrd, h13, fun b hb => ⟨r, hU b (hU' b (h14 b hb))⟩, reps_one hrs⟩
  cases o with
  | true =>
    simp only [rep] at h1
    obtain ⟨n, vs, F', h2, h3, rfl⟩ := h1
    have hs : ∃ A c, a.eval x = .slice A n c ∧ n ≤ c := by
      rcases h2.2 with ⟨h4, rfl⟩ | ⟨g, cap, cur, h4, _, _, hc, _⟩
      · exact ⟨none, 0, h4, Nat.le_refl _⟩
      · exact ⟨_, _, h4, hc⟩
    obtain ⟨A, c, h4, h5⟩ := hs
    exact key A n c vs F' U h4 h5 h2.1 (own_Reads h2) h3 (fun _ hb => hb)
  | false =>
    simp only [rep] at h1
    obtain ⟨A, n, c, vs, U', B, h2, h3, h4, h5, h6, rfl, _, rfl⟩ := h1
    exact key A n c vs [] U' h2 h3 h4 h5 h6 (fun b hb => List.mem_append_right _ hb)
variable (P) in
def effAppend (E : St) (d : Nat) (t : TypeId) (s x : Operand) : Option St := match P.underlying t, E.cell1 P t s with
  | some (.slice e), some sv => match takeCell E sv with
    | some (.sl true e1 sz cells, E1) => match E1.ref x with
      | some (r, q, j) => match E1.place r q j with
        | some (.sl _ _ sz2 cells2) => match takeCells E1 (sees E1 r (q ++ [j]) 0 cells2) with
          | some (news, E2) => if e1 = e ∧ sz = P.cellsOf e ∧ sz2 = sz ∧ 0 < sz ∧ (zeroTVs P e).isSome = true ∧ cells.length / sz + cells2.length / sz ≤ 9223372036854775807 ∧ (cells.length / sz + cells2.length / sz) * P.bytesOf e ≤ 140737488355328 then
              some (E2.put (some d) (.one (.sl true e sz (cells ++ news))))
            else none
          | none => none
        | _ => none
      | none => none
    | _ => none
  | _, _ => none
theorem const_block {E : St} {t : TypeId} {v : Value} {x : TV} (h : E.cell1 P t (.const v) = some x) : v.ownBlock = none := by
  unfold St.cell1 at h
  split at h
  · rename_i y hy
    simp only [St.val] at hy
    obtain ⟨z, hz, _⟩ := Option.map_eq_some_iff.1 hy
    cases v <;> first | rfl | (simp [constTV] at hz; done) | skip
    rename_i A n c
    cases A with
    | none => rfl
    | some ad => simp [constTV] at hz
  · cases h
theorem Done.append (h : Rel w0 FA UA N w a E blk FS US) (hF : FS .hand = []) (hU : US .hand = []) {o : Oper} {d : Nat} {t : TypeId} {s x : Operand} (ho : o.op = .call { callee := .builtin .append, args := #[s, x], argTypes := #[t, t] }) (hd : o.dst = some d) (hN : d < N) {E' : St} (he : effAppend P E d t s x = some E') : Done P w0 FA UA N w a o E' := by
  unfold effAppend at he
  split at he
  · rename_i e sv ht hsv
    split at he
    · rename_i e1 sz cells E1 hx
      split at he
      · rename_i r q j hr
        split at he
        · rename_i o2 e2 sz2 cells2 hpl
          split at he
          · rename_i news E2 hnews
            split at he
            · rename_i hcond
              obtain ⟨rfl, rfl, rfl, hpos, hz, h63, hby⟩ := hcond
              injection he with he
              subst he
              obtain ⟨zs, hz⟩ := Option.isSome_iff_exists.1 hz
              obtain ⟨i, z, hi, hzz, hzs, _⟩ := zeroTVs_rep (w := w) hz
              have hsz : i.size = P.cellsOf e1 := by simp [Program.cellsOf, hi]
              have hbyt : i.bytes = P.bytesOf e1 := by simp [Program.bytesOf, hi]
              obtain ⟨U0, c1, c2, _⟩ := cell1_rel h hsv
              obtain ⟨FS1, US1, F1, U1, a1, a2, a3, a4, a5, a6⟩ := takeCell_rel h c1 c2 hx
              obtain ⟨A, m, c, vs, U, b1, b2, b3, b4, b5, b6, b7, b8⟩ := elems_rel a2 hr hpl
              obtain ⟨FS2, US2, F2, U2, d1, d2, d3, d4, d5, d6⟩ := takeCells_rel _ rfl a2 b6 b7 hnews
              rw [hF, List.nil_append] at a3
              rw [hU, List.nil_append] at a4
              rw [a3] at d3
              rw [a4] at d4
              simp only [rep] at a1
              obtain ⟨n, ws, F1', hown, hrs, rfl⟩ := a1
              have hwl := reps_len hrs
              have hdl := reps_len d1
              have hn : cells.length / P.cellsOf e1 = n := by
                rw [← hwl, hown.1]
                exact Nat.mul_div_cancel _ hpos
              have hm : cells2.length / P.cellsOf e1 = m := by
                rw [← b3]
                exact Nat.mul_div_cancel _ hpos
              rw [hn, hm] at h63 hby
              -- the machine's step
              have hstep : ∃ v' w', (Builtin.append_ #[t, t] o.type #[a.eval s, a.eval x]).run P w = .ok v' w' ∧ w'.ownsRow 0 e1 (P.cellsOf e1) v' (n + m) (ws ++ vs) ∧ w.grownBy w' (a.eval s).ownBlock ∧ (v'.ownBlock = (a.eval s).ownBlock ∨ v'.ownBlock = some w.heap.size) := by
                rw [b1]
                cases A with
                | some ad =>
                  obtain ⟨v', w', e1', e2', e3', _, e5'⟩ := run_append_own_at (P := P) w 0 t o.type e1 i z (P.cellsOf e1) (P.bytesOf e1) ht hi hzz hsz hbyt hzs hpos (a.eval s) n ws hown ad m c vs (by omega) (fun j u hu => by
                    obtain ⟨ad', n', c', e1', e2'⟩ := b5 j u hu
                    rw [b1] at e1'
                    injection e1' with e1'
                    injection e1' with e1'
                    subst e1'
                    exact e2') b8 (by simp only [maxLen]; omega) hby (Nat.zero_le _)
                  exact ⟨v', w', e1', e2', e3', e5'⟩
                | none =>
                  have hv0 : vs = [] := by
                    cases vs with
                    | nil => rfl
                    | cons u us =>
                      obtain ⟨ad', n', c', e1', _⟩ := b5 0 u rfl
                      rw [b1] at e1'
                      cases e1'
                  subst hv0
                  have hm0 : m = 0 := by
                    rcases Nat.eq_zero_or_pos m with h0 | h0
                    · exact h0
                    · have := Nat.mul_pos h0 hpos
                      simp at b4
                      omega
                  subst hm0
                  have hs : ∃ B c', a.eval s = .slice B n c' ∧ n ≤ c' := by
                    rcases hown.2 with ⟨h4, rfl⟩ | ⟨g, cap, cur, h4, _, _, hc, _⟩
                    · exact ⟨none, 0, h4, Nat.le_refl _⟩
                    · exact ⟨_, _, h4, hc⟩
                  obtain ⟨B, c', hs1, hs2⟩ := hs
                  have := run_append_nothing (P := P) w t t o.type e1 i ht hi B n c' hs2 (.slice none 0 c) ⟨.inl ⟨e1, ht⟩, fun w' => by simp [Builtin.lenOf], by simp [Builtin.firstCells, loadCells], by simp [Builtin.firstCells, loadCells], by simp, by simp⟩
                  rw [hs1]
                  refine ⟨_, w, this, ?_, ⟨rfl, rfl, rfl, Nat.le_refl _, fun _ _ _ => rfl⟩, .inl rfl⟩
                  rw [← hs1]
                  simpa using hown
              obtain ⟨v', w', e1', e2', e3', e4'⟩ := hstep
              have hnd : FS2 .hand = blkOf (a.eval s) ++ F1' ++ F2 := d3
              have hndd := d2.nodup .hand
              rw [hnd] at hndd
              obtain ⟨n1, n2, n3⟩ := List.nodup_append.1 hndd
              obtain ⟨n4, n5, n6⟩ := List.nodup_append.1 n1
              have hlt : ∀ b ∈ FS2 .hand, b < w.heap.size := fun b hb => (d2.inF .hand b hb).2
              have hkeepF : ∀ b ∈ F1' ++ F2, w'.heap[b]? = w.heap[b]? := by
                intro b hb
                refine e3'.block b (hlt b (by rw [hnd]; simp at hb ⊢; rcases hb with hb | hb <;> simp [hb])) (fun hbs => ?_)
                have hbb : b ∈ blkOf (a.eval s) := by simp [blkOf, ← hbs]
                rcases List.mem_append.1 hb with hb | hb
                · exact n6 b hbb b hb rfl
                · exact n3 b (List.mem_append_left _ hbb) b hb rfl
              have hUin : ∀ b ∈ U1 ++ U2, b ∈ US2 .hand := fun b hb => by rw [d4]; exact hb
              have hkeepU : ∀ b ∈ U1 ++ U2, w'.heap[b]? = w.heap[b]? := by
                intro b hb
                refine e3'.block b (d2.inU .hand b (hUin b hb)).2 (fun hbs => ?_)
                have hbb : b ∈ blkOf (a.eval s) := by simp [blkOf, ← hbs]
                exact d2.disU .hand .hand b (by rw [hnd]; simp [hbb]) (hUin b hb)
              have hreps := reps_move (w' := w') (reps_append hrs d1) hkeepF hkeepU
              have hblk : ∀ b ∈ blkOf v', (b ∈ blkOf (a.eval s) ∨ w.heap.size ≤ b) ∧ b < w'.heap.size := by
                intro b hb
                have hb' : v'.ownBlock = some b := by simpa [blkOf] using hb
                refine ⟨?_, ?_⟩
                · rcases e4' with e4' | e4'
                  · left; simp [blkOf, ← e4', hb']
                  · right; rw [hb'] at e4'; injection e4' with e4'; omega
                · rcases e2'.2 with ⟨k1, _⟩ | ⟨g, cap, cur, rfl, _, k2, _⟩
                  · rw [k1] at hb'; cases hb'
                  · simp [Value.ownBlock] at hb'
                    subst hb'
                    exact (Array.getElem?_eq_some_iff.1 k2).1
              obtain ⟨FS', US', g1, g2, g3⟩ := d2.land (w' := w') (d := d) (s := .one (.sl true e1 (P.cellsOf e1) (cells ++ news))) (v := v') (F := blkOf v' ++ (F1' ++ F2)) (U := U1 ++ U2) hN
                (by
                  simp only [svX, cellX, rep]
                  refine ⟨⟨n + m, _, _, e2', hreps, rfl⟩, fun _ => ?_⟩
                  rcases e2'.2 with ⟨k1, _⟩ | ⟨g, cap, cur, rfl, _⟩
                  · rw [k1]; rfl
                  · rfl)
                (by
                  rw [List.nodup_append]
                  refine ⟨?_, ?_, ?_⟩
                  · unfold blkOf
                    cases v'.ownBlock <;> simp
                  · rw [List.nodup_append]
                    exact ⟨n5, n2, fun x hx y hy => n3 x (List.mem_append_right _ hx) y hy⟩
                  · intro x hx y hy hxy
                    subst hxy
                    rcases (hblk x hx).1 with k | k
                    · rcases List.mem_append.1 hy with hy | hy
                      · exact n6 x k x hy rfl
                      · exact n3 x (List.mem_append_left _ k) x hy rfl
                    · have := hlt x (by rw [hnd]; simp at hy ⊢; rcases hy with hy | hy <;> simp [hy])
                      omega)
                (by
                  intro b hb
                  rcases List.mem_append.1 hb with hb | hb
                  · obtain ⟨k1, k2⟩ := hblk b hb
                    refine ⟨k1.imp (fun k => ?_) id, k2⟩
                    rw [hnd]; simp [k]
                  · have hm : b ∈ FS2 .hand := by rw [hnd]; simp at hb ⊢; rcases hb with hb | hb <;> simp [hb]
                    exact ⟨.inl hm, Nat.lt_of_lt_of_le (hlt b hm) e3'.size⟩)
                (fun b hb => .inl ⟨_, hUin b hb⟩)
                e3'.size e3'.os e3'.tape e3'.output
                (fun b hb hbF => e3'.block b hb (fun hbs => hbF (by rw [hnd]; simp [blkOf, ← hbs])))
              have hkept : kp o = true → KeptW w w' := by
                intro hk
                refine ⟨e3'.size, fun b hb => e3'.block b hb (fun hbs => ?_)⟩
                simp only [kp, ho] at hk
                split at hk
                · rename_i v0 _ hargs
                  simp only [List.cons.injEq] at hargs
                  obtain ⟨rfl, _⟩ := hargs
                  have := const_block hsv
                  simp only [Act.eval] at hbs
                  rw [this] at hbs
                  cases hbs
                · cases hk
              refine ⟨.value v', w', v', blk, FS', US', ?_, .inl rfl, by rw [hd]; exact g1, g2, g3, hkept⟩
              simp [execOp, ho, resolve, invoke, builtin, e1']
            · cases he
          · cases he
        · cases he
      · cases he
    · cases he
  · cases he
end
end Go.TI
namespace Go.TI
open Go Go.RowKit Go.Lib
set_option linter.unusedSimpArgs false
set_option linter.unusedVariables false
def strTVs (b : ByteArray) : List TV := b.data.toList.map fun c => .int .u8 c.toNat
theorem strTVs_rep {w : World} : ∀ l : List UInt8, reps w (l.map fun c => TV.int .u8 c.toNat) (l.map fun c => Value.int .u8 c.toNat) [] []
  | [] => by simp [reps]
  | c :: l => by
    simp only [List.map_cons, reps]
    exact ⟨_, _, [], [], [], [], rfl, rfl, rfl, by simp [rep], strTVs_rep l⟩
def isU8 (P : Program) (e : TypeId) : Bool := match P.info? e with
  | some i => match i.zero with
    | some (.int .u8 n) => n == 0 && i.size == 1 && i.bytes == 1
    | _ => false
  | none => false
def isU8u (P : Program) (e : TypeId) : Bool := match P.underlying e with
  | some (.int .u8) => true
  | _ => false
theorem isU8_info {P : Program} {e : TypeId} (h : isU8 P e = true) : ∃ i, P.info? e = some i ∧ i.zero = some (.int .u8 0) ∧ i.size = 1 ∧ i.bytes = 1 := by
  unfold isU8 at h
  split at h
  · rename_i i hi
    split at h
    · rename_i n hz
      simp only [Bool.and_eq_true, beq_iff_eq] at h
      obtain ⟨⟨rfl, h2⟩, h3⟩ := h
      exact ⟨i, hi, hz, h2, h3⟩
    · cases h
  · cases h
theorem isU8u_und {P : Program} {e : TypeId} (h : isU8u P e = true) : P.underlying e = some (.int .u8) := by
  unfold isU8u at h
  split at h
  · assumption
  · cases h
theorem run_append_text {P : Program} {w : World} (t u ty e : TypeId) (i : TypeInfo) (ht : P.underlying t = some (.slice e)) (hu : P.underlying u = some .string) (hi : P.info? e = some i) (hz : i.zero = some (.int .u8 0))
    (hsize : i.size = 1) (hby : i.bytes = 1) (v : Value) (n : Nat) (xs : List Value) (hown : w.ownsRow 0 e 1 v n xs) (s : ByteArray) (hb : n + s.size ≤ 140737488355328) :
    ∃ v' w', (Builtin.append_ #[t, u] ty #[v, .string s]).run P w = .ok v' w' ∧ w'.ownsRow 0 e 1 v' (n + s.size) (xs ++ strCells s) ∧ w.grownBy w' v.ownBlock ∧ (v'.ownBlock = v.ownBlock ∨ v'.ownBlock = some w.heap.size) := by
  obtain ⟨v', w', h1, h2, h3, h4⟩ := run_append_own_string (P := P) w 0 t u ty e i ht hu hi hz hsize hby v n xs hown s (by simp only [maxLen]; omega) hb (Nat.zero_le _)
  refine ⟨v', w', h1, h2, h3, ?_⟩
  have hxl : xs.length = n := by simpa using hown.1
  rcases hown.2 with ⟨rfl, rfl⟩ | ⟨g, cap, cur, rfl, hbg, hg, hnc, hcm, hcs, htake⟩
  · by_cases hm : s.size = 0
    · have := h4.2 ⟨rfl, hm⟩
      subst this
      exact .inl rfl
    · have hr := run_append_nil_string (P := P) w t u ty e i (.int .u8 0) ht hu hi hz s (by omega) (by omega) (by rw [hby]; omega)
      rw [hr] at h1
      injection h1 with h1 _
      subst h1
      exact .inr rfl
  · have hcs' : cur.size = cap := by simpa using hcs
    by_cases hroom : n + s.size ≤ cap
    · have hr := run_append_room_string (P := P) w t u ty e i ht hu hi hsize g n cap cur hg s hroom (by omega)
      rw [hr] at h1
      injection h1 with h1 _
      subst h1
      exact .inl rfl
    · have holds : ∀ j u, xs[j]? = some u → w.cell? ((⟨g, 0, none⟩ : Addr).add j) = some u := hown.cells (g := g) rfl
      have hr := run_append_grow_string (P := P) w t u ty e i (.int .u8 0) ht hu hi hz ⟨g, 0, none⟩ n cap xs (by rw [hsize]; simpa using hxl) holds s (by omega) (by omega) (by rw [hby]; exact growslice_fits (by omega) (by omega))
      rw [hr] at h1
      injection h1 with h1 _
      subst h1
      exact .inr rfl
section
variable {w0 : Base} {FA UA : List Nat} {N : Nat} {w : World} {a : Act} {E : St} {blk : Root → Nat} {FS US : Root → List Nat} {P : Program}
variable (P) in
def effAppendS (E : St) (d : Nat) (t u : TypeId) (s x : Operand) : Option St := match P.underlying t, P.underlying u, E.cell1 P t s, E.cell1 P u x with
  | some (.slice e), some .string, some sv, some (.str b) => match takeCell E sv with
    | some (.sl true e1 sz cells, E1) => if e1 = e ∧ sz = 1 ∧ isU8 P e = true ∧ cells.length + b.size ≤ 140737488355328 then
        some (E1.put (some d) (.one (.sl true e sz (cells ++ strTVs b)))) else none
    | _ => none
  | _, _, _, _ => none
theorem Done.appendS (h : Rel w0 FA UA N w a E blk FS US) (hF : FS .hand = []) (hU : US .hand = []) {o : Oper} {d : Nat} {t u : TypeId} {s x : Operand} (ho : o.op = .call { callee := .builtin .append, args := #[s, x], argTypes := #[t, u] }) (hd : o.dst = some d) (hN : d < N) {E' : St} (he : effAppendS P E d t u s x = some E') : Done P w0 FA UA N w a o E' := by
  unfold effAppendS at he
  split at he
  · rename_i e sv b ht hu hsv hb
    split at he
    · rename_i e1 sz cells E1 hx
      split at he
      · rename_i hcond
        obtain ⟨rfl, rfl, hu8, h63⟩ := hcond
        injection he with he
        subst he
        obtain ⟨i, hi, hzz, hsz, hby⟩ := isU8_info hu8
        obtain ⟨U0, c1, c2, _⟩ := cell1_rel h hsv
        obtain ⟨U9, c3, _, _⟩ := cell1_rel h hb
        have hxv : a.eval x = .string b := by simp only [cellX, rep] at c3; exact c3.1
        obtain ⟨FS1, US1, F1, U1, a1, a2, a3, a4, a5, a6⟩ := takeCell_rel h c1 c2 hx
        rw [hF, List.nil_append] at a3
        rw [hU, List.nil_append] at a4
        simp only [rep] at a1
        obtain ⟨n, ws, F1', hown, hrs, rfl⟩ := a1
        have hwl := reps_len hrs
        have hn : n = cells.length := by have := hown.1; omega
        subst hn
        obtain ⟨v', w', e1', e2', e3', e4'⟩ := run_append_text (P := P) t u o.type e1 i ht hu hi hzz hsz hby (a.eval s) cells.length ws hown b h63
        have hndd := a2.nodup .hand
        rw [a3] at hndd
        obtain ⟨n4, n5, n6⟩ := List.nodup_append.1 hndd
        have hlt : ∀ k ∈ FS1 .hand, k < w.heap.size := fun k hk => (a2.inF .hand k hk).2
        have hkeepF : ∀ k ∈ F1', w'.heap[k]? = w.heap[k]? := by
          intro k hk
          refine e3'.block k (hlt k (by rw [a3]; simp [hk])) (fun hbs => ?_)
          exact n6 k (by simp [blkOf, ← hbs]) k hk rfl
        have hkeepU : ∀ k ∈ U1, w'.heap[k]? = w.heap[k]? := by
          intro k hk
          have hku : k ∈ US1 .hand := by rw [a4]; exact hk
          refine e3'.block k (a2.inU .hand k hku).2 (fun hbs => ?_)
          exact a2.disU .hand .hand k (by rw [a3]; simp [blkOf, ← hbs]) hku
        have hreps := reps_append (reps_move (w' := w') hrs hkeepF hkeepU) (strTVs_rep (w := w') b.data.toList)
        rw [List.append_nil, List.append_nil] at hreps
        have hblk : ∀ k ∈ blkOf v', (k ∈ blkOf (a.eval s) ∨ w.heap.size ≤ k) ∧ k < w'.heap.size := by
          intro k hk
          have hk' : v'.ownBlock = some k := by simpa [blkOf] using hk
          refine ⟨?_, ?_⟩
          · rcases e4' with e4' | e4'
            · left; simp [blkOf, ← e4', hk']
            · right; rw [hk'] at e4'; injection e4' with e4'; omega
          · rcases e2'.2 with ⟨k1, _⟩ | ⟨g, cap, cur, rfl, _, k2, _⟩
            · rw [k1] at hk'; cases hk'
            · simp [Value.ownBlock] at hk'
              subst hk'
              exact (Array.getElem?_eq_some_iff.1 k2).1
        obtain ⟨FS', US', g1, g2, g3⟩ := a2.land (w' := w') (d := d) (s := .one (.sl true e1 1 (cells ++ strTVs b))) (v := v') (F := blkOf v' ++ F1') (U := U1) hN
          (by
            simp only [svX, cellX, rep]
            refine ⟨⟨cells.length + b.size, _, _, e2', hreps, rfl⟩, fun _ => ?_⟩
            rcases e2'.2 with ⟨k1, _⟩ | ⟨g, cap, cur, rfl, _⟩
            · rw [k1]; rfl
            · rfl)
          (by
            rw [List.nodup_append]
            refine ⟨by unfold blkOf; cases v'.ownBlock <;> simp, n5, ?_⟩
            intro p hp q hq hpq
            subst hpq
            rcases (hblk p hp).1 with k | k
            · exact n6 p k p hq rfl
            · have := hlt p (by rw [a3]; simp [hq])
              omega)
          (by
            intro k hk
            rcases List.mem_append.1 hk with hk | hk
            · obtain ⟨k1, k2⟩ := hblk k hk
              exact ⟨k1.imp (fun k => by rw [a3]; simp [k]) id, k2⟩
            · have hm : k ∈ FS1 .hand := by rw [a3]; simp [hk]
              exact ⟨.inl hm, Nat.lt_of_lt_of_le (hlt k hm) e3'.size⟩)
          (fun k hk => .inl ⟨.hand, by rw [a4]; exact hk⟩)
          e3'.size e3'.os e3'.tape e3'.output
          (fun k hk hkF => e3'.block k hk (fun hbs => hkF (by rw [a3]; simp [blkOf, ← hbs])))
        have hkept : kp o = true → KeptW w w' := by
          intro hk
          refine ⟨e3'.size, fun k hk2 => e3'.block k hk2 (fun hbs => ?_)⟩
          simp only [kp, ho] at hk
          split at hk
          · rename_i v0 _ hargs
            simp only [List.cons.injEq] at hargs
            obtain ⟨rfl, _⟩ := hargs
            have := const_block hsv
            simp only [Act.eval] at hbs
            rw [this] at hbs
            cases hbs
          · cases hk
        refine ⟨.value v', w', v', blk, FS', US', ?_, .inl rfl, by rw [hd]; exact g1, g2, g3, hkept⟩
        simp [execOp, ho, resolve, invoke, builtin, hxv, e1']
      · cases he
    · cases he
  · cases he
variable (P) in
def effConv (E : St) (d : Nat) (src dst : TypeId) (x : Operand) : Option St := match P.underlying dst with
  | some (.slice e) => match P.underlying src, E.cell1 P src x with
    | some .string, some (.str b) => if isU8u P e = true then some (E.put (some d) (.one (.sl false e 1 (strTVs b)))) else none
    | _, _ => none
  | _ => none
theorem Done.conv (h : Rel w0 FA UA N w a E blk FS US) (hF : FS .hand = []) (hU : US .hand = []) {o : Oper} {d : Nat} {src dst : TypeId} {x : Operand} (ho : o.op = .convert src dst x) (hd : o.dst = some d) (hN : d < N) {E' : St} (he : effConv P E d src dst x = some E') : Done P w0 FA UA N w a o E' := by
  unfold effConv at he
  split at he
  · rename_i e hds
    split at he
    · rename_i b hs hb
      split at he
      · rename_i hu8
        injection he with he
        subst he
        obtain ⟨U9, c3, _, _⟩ := cell1_rel h hb
        have hxv : a.eval x = .string b := by simp only [cellX, rep] at c3; exact c3.1
        have hr := run_bytes_of_string (P := P) w src dst e b hs hds (isU8u_und hu8)
        have hcap := grownCap_ge w b.size 0 e
        have hW : ∀ (C : Array Value) (fz : Nat × Nat), (w.drew.alloc (.cells C e fz)).heap.size = w.heap.size + 1 ∧ (∀ k, k < w.heap.size → (w.drew.alloc (.cells C e fz)).heap[k]? = w.heap[k]?) ∧ (w.drew.alloc (.cells C e fz)).heap[w.heap.size]? = some (.cells C e fz) := by
          intro C fz
          refine ⟨?_, fun k hk => ?_, ?_⟩
          · show (w.heap.push _).size = _
            simp
          · show (w.heap.push _)[k]? = _
            rw [Array.getElem?_push, if_neg (by omega)]
          · show (w.heap.push _)[w.heap.size]? = _
            simp
        generalize hfz : ((bytesRow b (grownCap w b.size 0 e)).size, (bytesRow b (grownCap w b.size 0 e)).size + 1) = fz at hr
        obtain ⟨hsz, hold, hnew⟩ := hW (bytesRow b (grownCap w b.size 0 e)) fz
        obtain ⟨FS', US', g1, g2, g3⟩ := h.land (d := d) (s := .one (.sl false e 1 (strTVs b))) (v := .slice (some ⟨w.heap.size, 0, none⟩) b.size (grownCap w b.size 0 e)) (F := []) (U := [w.heap.size]) hN
          (w' := w.drew.alloc (.cells (bytesRow b (grownCap w b.size 0 e)) e fz))
          (by
            simp only [svX, cellX, rep]
            refine ⟨⟨_, _, _, b.data.toList.map fun c => Value.int .u8 c.toNat, [], [w.heap.size], rfl, hcap, by simp, ?_, strTVs_rep b.data.toList, by simp, .inl rfl, rfl⟩, fun _ => rfl⟩
            intro k u hk
            refine ⟨_, _, _, rfl, ?_⟩
            have hk2 := (List.getElem?_eq_some_iff.1 hk).1
            simp only [List.length_map, Array.length_toList] at hk2
            have e1 : ((⟨w.heap.size, 0, none⟩ : Addr).add k) = ⟨w.heap.size, k, none⟩ := by
              unfold Addr.add
              split
              · rename_i h0; subst h0; rfl
              · simp
            rw [e1]
            have e3 : (w.drew.alloc (.cells (bytesRow b (grownCap w b.size 0 e)) e fz)).cell? ⟨w.heap.size, k, none⟩ = (bytesRow b (grownCap w b.size 0 e))[k]? := by
              simp only [World.cell?, hnew, Option.isSome_none, Bool.false_eq_true, if_false]
            rw [e3, bytesRow, Array.getElem?_append_left (by simpa using hk2), ← hk]
            simp)
          List.nodup_nil (by simp)
          (fun k hk => .inr (by
            rw [List.mem_singleton] at hk
            subst hk
            exact ⟨.inr (Nat.le_refl _), by simp, by rw [hsz]; omega⟩))
          (by rw [hsz]; omega) rfl rfl rfl (fun k hk _ => hold k hk)
        refine ⟨.value (.slice (some ⟨w.heap.size, 0, none⟩) b.size (grownCap w b.size 0 e)), _, _, blk, FS', US', ?_, .inl rfl, by rw [hd]; exact g1, g2, g3, fun _ => ⟨by rw [hsz]; omega, hold⟩⟩
        simp [execOp, ho, hxv, hr]
      · cases he
    · cases he
  · cases he
end
end Go.TI
namespace Go.TI
open Go Go.RowKit
set_option linter.unusedSimpArgs false
set_option linter.unusedVariables false
section
variable {w0 : Base} {FA UA : List Nat} {N : Nat} {w : World} {a : Act} {E : St} {blk : Root → Nat} {FS US : Root → List Nat} {P : Program}
variable (P) in
def effAssign (E : St) (d : Nat) (t : TypeId) (x : Operand) : Option St := match E.val P t x with
  | some s => match takeSV E s with
    | some (xs, E1) => some (E1.put (some d) (s.withCells xs))
    | none => none
  | none => none
theorem takeN_len : ∀ {n : Nat} {ts xs : List TV} {E E' : St}, takeN n E ts = some (xs, E') → ts.length = n → xs.length = n
  | 0, ts, xs, E, E', h, _ => by
    simp only [takeN, Option.some.injEq, Prod.mk.injEq] at h
    rw [← h.1]
    rfl
  | n + 1, [], xs, E, E', h, hl => by cases hl
  | n + 1, t :: ts, xs, E, E', h, hl => by
    simp only [takeN] at h
    split at h
    · split at h
      · rename_i h1
        simp only [Option.some.injEq, Prod.mk.injEq] at h
        rw [← h.1]
        simp [takeN_len h1 (by simpa using hl)]
      · cases h
    · cases h
theorem takeCells_len {ts xs : List TV} {E E' : St} (h : takeCells E ts = some (xs, E')) : xs.length = ts.length := takeN_len h rfl
theorem Done.assign (h : Rel w0 FA UA N w a E blk FS US) (hF : FS .hand = []) (hU : US .hand = []) {o : Oper} {d : Nat} {x : Operand} (ho : o.op = .assign x ∨ o.op = .move x) (hd : o.dst = some d) (hN : d < N) {E' : St} (he : effAssign P E d o.type x = some E') : Done P w0 FA UA N w a o E' := by
  unfold effAssign at he
  split at he
  · rename_i s hs
    split at he
    · rename_i xs E1 hx
      injection he with he
      subst he
      obtain ⟨U, h1, h2⟩ := val_rel h hs
      obtain ⟨FS1, US1, F1, U1, h3, h4, h5, h6, _, _⟩ := takeSV_rel h h1 h2 hx
      rw [hF, List.nil_append] at h5
      rw [hU, List.nil_append] at h6
      have hrun : (execOp a.eval o).run P w = .ok (.value (a.eval x)) w := by
        rcases ho with ho | ho <;> simp [execOp, ho]
      have hsv : ∀ (a' : Act) (E' : St), svX w a' E' blk (s.withCells xs) (a.eval x) F1 U1 := by
        intro a' E'
        unfold takeSV at hx
        split at hx
        · rename_i hpl
          have hxl := takeCells_len hx
          cases s with
          | one t =>
            simp only [SV.cells, List.length_singleton] at hxl
            simp only [svX] at h1
            have hj : t.isJunk = false := by cases t <;> first | rfl | cases hpl
            have hc := h1.2 hj
            match xs, hxl with
            | [x'], _ =>
              rw [hc] at h3
              simp only [reps] at h3
              obtain ⟨v2, vs2, G1, G2, V1, V2, hh, rfl, rfl, h15, rfl, rfl, rfl⟩ := h3
              injection hh with hh _
              subst hh
              simp only [SV.withCells, svX, List.append_nil]
              exact ⟨cellX_of_rep h15, fun _ => hc⟩
          | agg cs =>
            simp only [svX] at h1
            obtain ⟨vs, hv, _⟩ := h1
            simp only [SV.withCells, svX]
            rw [hv] at h3
            exact ⟨vs, hv, cellsX_of_reps (by simpa [Value.cells] using h3)⟩
          | tup ss => cases hpl
        · cases hx
      obtain ⟨FS', US', g1, g2, g3⟩ := h4.land (w' := w) (d := d) (s := s.withCells xs) (v := a.eval x) (F := F1) (U := U1) hN (hsv _ _)
        (by have := h4.nodup .hand; rwa [h5] at this)
        (fun b hb => ⟨.inl (by rw [h5]; exact hb), (h4.inF .hand b (by rw [h5]; exact hb)).2⟩)
        (fun b hb => .inl ⟨.hand, by rw [h6]; exact hb⟩)
        (Nat.le_refl _) rfl rfl rfl (fun _ _ _ => rfl)
      exact ⟨.value _, w, _, blk, FS', US', hrun, .inl rfl, by rw [hd]; exact g1, g2, g3, fun _ => KeptW.refl⟩
    · cases he
  · cases he
theorem tupX_upd : ∀ {ts : List SV} {vs : List Value} {F U : List Nat} (c : Nat) {t : SV}, tupX w a E blk ts vs F U → ts[c]? = some t →
    ∃ v A B C D F1 U1, vs[c]? = some v ∧ svX w a E blk t v F1 U1 ∧ F = A ++ F1 ++ B ∧ U = C ++ U1 ++ D ∧ tupX w a E blk (ts.set c (.one .junk)) vs (A ++ B) (C ++ D)
  | [], _, _, _, c, t, _, hc => by simp at hc
  | t0 :: ts, vs, F, U, 0, t, h, hc => by
    simp only [tupX] at h
    obtain ⟨v, vs', F1, F2, U1, U2, rfl, rfl, rfl, h1, h2⟩ := h
    simp at hc
    subst hc
    refine ⟨v, [], F2, [], U2, F1, U1, rfl, h1, rfl, rfl, ?_⟩
    simp only [List.set_cons_zero, tupX]
    exact ⟨v, vs', [], F2, [], U2, rfl, rfl, rfl, by simp [svX, cellX, TV.isJunk], h2⟩
  | t0 :: ts, vs, F, U, c + 1, t, h, hc => by
    simp only [tupX] at h
    obtain ⟨v, vs', F1, F2, U1, U2, rfl, rfl, rfl, h1, h2⟩ := h
    simp at hc
    obtain ⟨u, A, B, C, D, G, V, h3, h4, rfl, rfl, hk⟩ := tupX_upd c h2 hc
    refine ⟨u, F1 ++ A, B, U1 ++ C, D, G, V, by simpa using h3, h4, by simp, by simp, ?_⟩
    simp only [List.set_cons_succ, tupX]
    exact ⟨v, vs', F1, A ++ B, U1, C ++ D, rfl, by simp, by simp, h1, hk⟩
def effExtract (E : St) (d : Nat) (t : Operand) (ix : Nat) : Option St := match t with
  | .tmp n => match E.slots n with
    | .tup ss => match ss[ix]? with
      | some s => if n = d then none else some (({ E with slots := upd E.slots n (.tup (ss.set ix (.one .junk))) } : St).put (some d) s)
      | none => none
    | _ => none
  | _ => none
theorem Done.extract (h : Rel w0 FA UA N w a E blk FS US) (hF : FS .hand = []) (hU : US .hand = []) {o : Oper} {d : Nat} {t : Operand} {ix : Nat} (ho : o.op = .extract t ix) (hd : o.dst = some d) (hN : d < N) {E' : St} (he : effExtract E d t ix = some E') : Done P w0 FA UA N w a o E' := by
  unfold effExtract at he
  split at he
  · rename_i n
    split at he
    · rename_i ss hss
      split at he
      · rename_i s hix
        split at he
        · cases he
        · rename_i hnd
          injection he with he
          subst he
          have hs := h.slot n
          rw [hss] at hs
          simp only [svX] at hs
          obtain ⟨vs, hvs, hx⟩ := hs
          obtain ⟨v, A, B, C, D, F1, U1, h1, h2, h3, h4, h5⟩ := tupX_upd ix hx hix
          have hne : Root.slot d ≠ Root.slot n := fun e => hnd (Root.slot.inj e).symm
          have hst : ∀ r, Steady w w a (a.put (some d) v) E (({ E with slots := upd E.slots n (.tup (ss.set ix (.one .junk))) } : St).put (some d) s) blk blk r := by
            intro r
            refine Steady.trans (w2 := w) (a2 := a) (E2 := { E with slots := upd E.slots n (.tup (ss.set ix (.one .junk))) }) (b2 := blk) ?_ (steady_put r)
            have hroot : ∀ s, ({ E with slots := upd E.slots n (.tup (ss.set ix (.one .junk))) } : St).root s = E.root s := by
              intro s
              cases s with
              | slot m =>
                by_cases hm : m = n
                · subst hm; simp [St.root, upd, hss, SV.cells]
                · simp [St.root, upd, hm]
              | _ => rfl
            have hpl : ∀ q j, ({ E with slots := upd E.slots n (.tup (ss.set ix (.one .junk))) } : St).place r q j = E.place r q j := fun q j => by simp only [St.place, hroot]
            refine ⟨.inr ⟨rfl, fun q j u k1 k2 => ?_, fun q j ad _ k1 k2 => ?_⟩, .inr ⟨rfl, fun j ad k1 k2 => ?_⟩⟩ <;> rw [hpl] <;> exact ⟨k1, k2⟩
          have hndn := h.nodup (.slot n)
          rw [h3] at hndn
          obtain ⟨m1, m2, m3⟩ := nodup_mid hndn
          have h6 := h.two (w' := w) (a' := a.put (some d) v) (E' := ({ E with slots := upd E.slots n (.tup (ss.set ix (.one .junk))) } : St).put (some d) s) (blk' := blk) (r1 := .slot d) (r2 := .slot n) (L1 := F1) (L2 := A ++ B) (V1 := U1) (V2 := C ++ D) hne
            (by
              rw [List.nodup_append]
              refine ⟨m1, m3, fun x hx y hy e => ?_⟩
              subst e
              rcases List.mem_append.1 hy with hy | hy
              · exact (m2 x hx).1 hy
              · exact (m2 x hx).2 hy)
            (by
              intro b hb
              have : b ∈ FS (.slot n) := by rw [h3]; simp at hb ⊢; rcases hb with hb | hb | hb <;> simp [hb]
              exact ⟨.inr (.inl this), (h.inF _ b this).2⟩)
            (by
              intro b hb
              exact .inl ⟨.slot n, by rw [h4]; simp at hb ⊢; rcases hb with hb | hb | hb <;> simp [hb]⟩)
            (Nat.le_refl _) rfl rfl rfl (fun _ _ _ _ => rfl) hst
            (fun m k1 k2 => by
              have e1 : m ≠ d := fun e => k1 (by rw [e])
              have e2 : m ≠ n := fun e => k2 (by rw [e])
              exact ⟨by simp [St.put, upd, e1, e2], eval_put_ne e1⟩)
            (fun s _ _ _ => ⟨rfl, rfl⟩)
            (by
              have hev : (a.put (some d) v).eval (.tmp d) = v := eval_put_eq (Nat.lt_of_lt_of_le hN h.len)
              have hsl : (({ E with slots := upd E.slots n (.tup (ss.set ix (.one .junk))) } : St).put (some d) s).slots d = s := by simp [St.put, upd]
              simp only [rootOk, hev, hsl]
              exact svX_step hst h2 (fun _ _ => rfl) (fun _ _ => rfl))
            (by
              have hev : (a.put (some d) v).eval (.tmp n) = a.eval (.tmp n) := eval_put_ne hnd
              have hsl : (({ E with slots := upd E.slots n (.tup (ss.set ix (.one .junk))) } : St).put (some d) s).slots n = .tup (ss.set ix (.one .junk)) := by simp [St.put, upd, hnd]
              simp only [rootOk, hev, hsl, svX]
              exact ⟨vs, hvs, tupX_step hst h5 (fun _ _ => rfl) (fun _ _ => rfl)⟩)
            h.nohand (by rw [put_size]; exact h.len) (by rw [put_defers]; exact h.nodef)
          refine ⟨.value v, w, v, blk, _, _, ?_, .inl rfl, by rw [hd]; exact h6, ?_, ?_, fun _ => KeptW.refl⟩
          · simp [execOp, ho, Instr.extract, hvs, h1]
          · rw [upd_ne (by simp), upd_ne (by simp), hF]
          · rw [upd_ne (by simp), upd_ne (by simp), hU]
      · cases he
    · cases he
  · cases he
def effMoveTup (E : St) (d : Nat) (x : Operand) : Option St := match x with
  | .tmp n => match E.slots n with
    | .tup ss => if n = d then none else some (({ E with slots := upd E.slots n (.one .junk) } : St).put (some d) (.tup ss))
    | _ => none
  | _ => none
theorem Done.moveTup (h : Rel w0 FA UA N w a E blk FS US) (hF : FS .hand = []) (hU : US .hand = []) {o : Oper} {d : Nat} {x : Operand} (ho : o.op = .assign x ∨ o.op = .move x) (hd : o.dst = some d) (hN : d < N) {E' : St} (he : effMoveTup E d x = some E') : Done P w0 FA UA N w a o E' := by
  unfold effMoveTup at he
  split at he
  · rename_i n
    split at he
    · rename_i ss hss
      split at he
      · cases he
      · rename_i hnd
        injection he with he
        subst he
        have hs := h.slot n
        rw [hss] at hs
        have hne : Root.slot d ≠ Root.slot n := fun e => hnd (Root.slot.inj e).symm
        have hst : ∀ r, Steady w w a (a.put (some d) (a.eval (.tmp n))) E (({ E with slots := upd E.slots n (.one .junk) } : St).put (some d) (.tup ss)) blk blk r := by
          intro r
          refine Steady.trans (w2 := w) (a2 := a) (E2 := { E with slots := upd E.slots n (.one .junk) }) (b2 := blk) ?_ (steady_put r)
          have hroot : ∀ s, s ≠ .slot n → ({ E with slots := upd E.slots n (.one .junk) } : St).root s = E.root s := by
            intro s hs
            cases s with
            | slot m =>
              have hm : m ≠ n := fun e => hs (by rw [e])
              simp [St.root, upd, hm]
            | _ => rfl
          by_cases hr : r = .slot n
          · subst hr
            have hno : ∀ q j, E.place (.slot n) q j = none := by
              intro q j
              simp only [St.place, St.root, hss, SV.cells, Option.bind_some]
              cases q with
              | nil => simp [cont]
              | cons c q => simp [cont]
            refine ⟨.inr ⟨rfl, fun q j u k1 k2 => ?_, fun q j ad _ k1 k2 => ?_⟩, .inr ⟨rfl, fun j ad k1 k2 => ?_⟩⟩ <;> rw [hno] at k2 <;> cases k2
          · have hpl : ∀ q j, ({ E with slots := upd E.slots n (.one .junk) } : St).place r q j = E.place r q j := fun q j => by simp only [St.place, hroot r hr]
            refine ⟨.inr ⟨rfl, fun q j u k1 k2 => ?_, fun q j ad _ k1 k2 => ?_⟩, .inr ⟨rfl, fun j ad k1 k2 => ?_⟩⟩ <;> rw [hpl] <;> exact ⟨k1, k2⟩
        have h6 := h.two (w' := w) (a' := a.put (some d) (a.eval (.tmp n))) (E' := ({ E with slots := upd E.slots n (.one .junk) } : St).put (some d) (.tup ss)) (blk' := blk) (r1 := .slot d) (r2 := .slot n) (L1 := FS (.slot n)) (L2 := []) (V1 := US (.slot n)) (V2 := []) hne
          (by simpa using h.nodup (.slot n))
          (by
            intro b hb
            simp only [List.append_nil] at hb
            exact ⟨.inr (.inl hb), (h.inF _ b hb).2⟩)
          (by
            intro b hb
            simp only [List.append_nil] at hb
            exact .inl ⟨.slot n, hb⟩)
          (Nat.le_refl _) rfl rfl rfl (fun _ _ _ _ => rfl) hst
          (fun m k1 k2 => by
            have e1 : m ≠ d := fun e => k1 (by rw [e])
            have e2 : m ≠ n := fun e => k2 (by rw [e])
            exact ⟨by simp [St.put, upd, e1, e2], eval_put_ne e1⟩)
          (fun s _ _ _ => ⟨rfl, rfl⟩)
          (by
            have hev : (a.put (some d) (a.eval (.tmp n))).eval (.tmp d) = a.eval (.tmp n) := eval_put_eq (Nat.lt_of_lt_of_le hN h.len)
            have hsl : (({ E with slots := upd E.slots n (.one .junk) } : St).put (some d) (.tup ss)).slots d = .tup ss := by simp [St.put, upd]
            simp only [rootOk, hev, hsl]
            exact svX_step hst hs (fun _ _ => rfl) (fun _ _ => rfl))
          (by
            have hsl : (({ E with slots := upd E.slots n (.one .junk) } : St).put (some d) (.tup ss)).slots n = .one .junk := by simp [St.put, upd, hnd]
            simp only [rootOk, hsl, svX, cellX, TV.isJunk]
            exact ⟨⟨trivial, trivial⟩, fun e => by cases e⟩)
          h.nohand (by rw [put_size]; exact h.len) (by rw [put_defers]; exact h.nodef)
        refine ⟨.value (a.eval (.tmp n)), w, a.eval (.tmp n), blk, _, _, ?_, .inl rfl, by rw [hd]; exact h6, ?_, ?_, fun _ => KeptW.refl⟩
        · rcases ho with ho | ho <;> simp [execOp, ho]
        · rw [upd_ne (by simp), upd_ne (by simp), hF]
        · rw [upd_ne (by simp), upd_ne (by simp), hU]
    · cases he
  · cases he
end
end Go.TI
namespace Go.TI
open Go Go.RowKit
set_option linter.unusedSimpArgs false
set_option linter.unusedVariables false
theorem setRow_cons {α : Type} (cs : List α) (p : Nat) (u : α) (us : List α) (h : p + us.length < cs.length) : setRow (cs.set p u) (p + 1) us = setRow cs p (u :: us) := by
  have hp : p < cs.length := by omega
  simp only [setRow, List.length_cons]
  rw [List.set_eq_take_append_cons_drop, if_pos hp]
  have hl : (cs.take p).length = p := by rw [List.length_take]; omega
  have e1 : (cs.take p ++ u :: cs.drop (p + 1)).take (p + 1) = cs.take p ++ [u] := by
    rw [List.take_append, hl]
    rw [List.take_of_length_le (by omega), show p + 1 - p = 1 from by omega]
    simp
  have e2 : (cs.take p ++ u :: cs.drop (p + 1)).drop (p + 1 + us.length) = cs.drop (p + (us.length + 1)) := by
    rw [List.drop_append, hl]
    rw [List.drop_eq_nil_of_le (by omega), List.nil_append, show p + 1 + us.length - p = us.length + 1 from by omega, List.drop_succ_cons, List.drop_drop]
    congr 1
    omega
  rw [e1, e2]
  simp
theorem fold_setRow : ∀ (us : List Value) (k off : Nat) (cs : Array Value), off + k + us.length ≤ cs.size →
    ((us.zipIdx k).foldl (fun cs x => cs.setIfInBounds (off + x.2) x.1) cs).toList = setRow cs.toList (off + k) us
  | [], k, off, cs, h => by simp [setRow]
  | u :: us, k, off, cs, h => by
    simp only [List.length_cons] at h
    simp only [List.zipIdx_cons, List.foldl_cons]
    rw [fold_setRow us (k + 1) off _ (by simp; omega)]
    rw [← setRow_cons _ _ _ _ (by simp; omega)]
    simp
    rfl
def fillT (place : Nat → Option (Nat × Nat)) (cells : List TV) : List (Nat × SV) → Option (List TV)
  | [] => some cells
  | (i, s) :: rest => match place i with
    | some (off, size) => if s.plain = true ∧ s.cells.length = size ∧ off + size ≤ cells.length then fillT place (setRow cells off s.cells) rest else none
    | none => none
section
variable {w0 : Base} {FA UA : List Nat} {N : Nat} {w : World} {a : Act} {E : St} {blk : Root → Nat} {FS US : Root → List Nat} {P : Program}
theorem cellsX_append : ∀ {xs ys : List TV} {vs us : List Value} {U V : List Nat}, cellsX w a E blk xs vs [] U → cellsX w a E blk ys us [] V → cellsX w a E blk (xs ++ ys) (vs ++ us) [] (U ++ V)
  | [], ys, vs, us, U, V, h, k => by
    obtain ⟨rfl, _, rfl⟩ := h
    simpa using k
  | x :: xs, ys, vs, us, U, V, h, k => by
    obtain ⟨v, vs', F1, F2, U1, U2, rfl, hF, rfl, h1, h2⟩ := h
    obtain ⟨rfl, rfl⟩ := List.append_eq_nil_iff.1 hF.symm
    exact ⟨v, vs' ++ us, [], [], U1, U2 ++ V, rfl, rfl, by simp, h1, cellsX_append h2 k⟩
theorem cellsX_split : ∀ (j : Nat) {ts : List TV} {vs : List Value} {U : List Nat}, cellsX w a E blk ts vs [] U →
    ∃ U1 U2, (∀ b ∈ U1 ++ U2, b ∈ U) ∧ cellsX w a E blk (ts.take j) (vs.take j) [] U1 ∧ cellsX w a E blk (ts.drop j) (vs.drop j) [] U2
  | 0, ts, vs, U, h => ⟨[], U, by simp, ⟨rfl, rfl, rfl⟩, by simpa using h⟩
  | j + 1, [], vs, U, h => by
    obtain ⟨rfl, _, rfl⟩ := h
    exact ⟨[], [], by simp, ⟨rfl, rfl, rfl⟩, ⟨rfl, rfl, rfl⟩⟩
  | j + 1, t :: ts, vs, U, h => by
    obtain ⟨v, vs', F1, F2, U1, U2, rfl, hF, rfl, h1, h2⟩ := h
    obtain ⟨rfl, rfl⟩ := List.append_eq_nil_iff.1 hF.symm
    obtain ⟨U3, U4, h3, h4, h5⟩ := cellsX_split j h2
    refine ⟨U1 ++ U3, U4, fun b hb => ?_, ⟨v, _, [], [], U1, U3, rfl, rfl, rfl, h1, h4⟩, by simpa using h5⟩
    have := h3 b
    simp at hb this ⊢
    rcases hb with hb | hb | hb
    · exact .inl hb
    · exact .inr (this (.inl hb))
    · exact .inr (this (.inr hb))
theorem cellsX_setRow {ts xs : List TV} {vs us : List Value} {U V : List Nat} (j : Nat) (h : cellsX w a E blk ts vs [] U) (k : cellsX w a E blk xs us [] V) :
    ∃ U', (∀ b ∈ U', b ∈ U ∨ b ∈ V) ∧ cellsX w a E blk (setRow ts j xs) (setRow vs j us) [] U' := by
  obtain ⟨U1, U2, h1, h2, h3⟩ := cellsX_split j h
  obtain ⟨U3, U4, h4, _, h5⟩ := cellsX_split xs.length h3
  have hl : us.length = xs.length := cellsX_len k
  refine ⟨U1 ++ V ++ U4, fun b hb => ?_, ?_⟩
  · simp at hb
    rcases hb with hb | hb | hb
    · exact .inl (h1 b (by simp [hb]))
    · exact .inr hb
    · exact .inl (h1 b (by simp [h4 b (by simp [hb])]))
  · have := cellsX_append (cellsX_append h2 k) h5
    rw [List.drop_drop, List.drop_drop] at this
    simp only [setRow]
    rw [hl]
    exact this
def partsX (w : World) (a : Act) (E : St) (blk : Root → Nat) (US : Root → List Nat) : List (Nat × SV) → List (Nat × Value) → Prop
  | [], ps => ps = []
  | (i, s) :: ss, ps => ∃ v ps' U, ps = (i, v) :: ps' ∧ svX w a E blk s v [] U ∧ (∀ b ∈ U, ∃ r, b ∈ US r) ∧ partsX w a E blk US ss ps'
theorem fill_rel {place : Nat → Option (Nat × Nat)} : ∀ {ss : List (Nat × SV)} {ps : List (Nat × Value)} {cells cells' : List TV} {cs : Array Value} {U : List Nat}, partsX w a E blk US ss ps → cellsX w a E blk cells cs.toList [] U → (∀ b ∈ U, ∃ r, b ∈ US r) → fillT place cells ss = some cells' →
    ∃ cs' U', Instr.fill place cs ps = some cs' ∧ cellsX w a E blk cells' cs'.toList [] U' ∧ (∀ b ∈ U', ∃ r, b ∈ US r) ∧ cs'.size = cs.size
  | [], ps, cells, cells', cs, U, hp, hc, hU, hf => by
    simp only [partsX] at hp
    subst hp
    simp only [fillT, Option.some.injEq] at hf
    subst hf
    exact ⟨cs, U, rfl, hc, hU, rfl⟩
  | (i, s) :: ss, ps, cells, cells', cs, U, hp, hc, hU, hf => by
    simp only [partsX] at hp
    obtain ⟨v, ps', V, rfl, h1, h2, h3⟩ := hp
    simp only [fillT] at hf
    split at hf
    · rename_i off size hpl
      split at hf
      · rename_i hcond
        obtain ⟨c1, c2, c3⟩ := hcond
        have hcv := sv_cells h1 c1
        have hl1 := cellsX_len hcv
        have hl2 := cellsX_len hc
        have hvs : v.cells.size = size := by simpa [c2] using hl1
        have hcs : cs.size = cells.length := by simpa using hl2
        obtain ⟨U', hU', hx⟩ := cellsX_setRow off hc hcv
        have hfold : (v.cells.zipIdx.foldl (fun cs (x : Value × Nat) => cs.setIfInBounds (off + x.2) x.1) cs).toList = setRow cs.toList off v.cells.toList := by
          have := fold_setRow v.cells.toList 0 off cs (by simp; omega)
          rw [Nat.add_zero] at this
          rw [← this, ← Array.foldl_toList, Array.toList_zipIdx]
        rw [← hfold] at hx
        obtain ⟨cs', U2, k1, k2, k3, k4⟩ := fill_rel h3 hx (fun b hb => (hU' b hb).elim (hU b) (h2 b)) hf
        refine ⟨cs', U2, ?_, k2, k3, ?_⟩
        · simp only [Instr.fill, hpl]
          rw [if_neg (by simp; omega)]
          exact k1
        · rw [k4]
          have := congrArg List.length hfold
          rw [setRow_length (by simp; omega)] at this
          simpa using this
      · cases hf
    · cases hf
variable (P) in
def partVals (E : St) (ty : Nat → TypeId) : List (Nat × Operand) → Option (List (Nat × SV))
  | [] => some []
  | (i, x) :: ps => match E.val P (ty i) x, partVals E ty ps with
    | some s, some ss => some ((i, s) :: ss)
    | _, _ => none
theorem partVals_rel (h : Rel w0 FA UA N w a E blk FS US) {ty : Nat → TypeId} : ∀ {ps : List (Nat × Operand)} {ss : List (Nat × SV)}, partVals P E ty ps = some ss → partsX w a E blk US ss (ps.map fun (i, x) => (i, a.eval x))
  | [], ss, hp => by
    simp only [partVals, Option.some.injEq] at hp
    subst hp
    simp [partsX]
  | (i, x) :: ps, ss, hp => by
    simp only [partVals] at hp
    split at hp
    · rename_i s ss' hs hss
      injection hp with hp
      subst hp
      obtain ⟨U, h1, h2⟩ := val_rel h hs
      simp only [partsX, List.map_cons]
      exact ⟨_, _, U, rfl, h1, h2, partVals_rel h hss⟩
    · cases hp
variable (P) in
def buildOp (E : St) (t : TypeId) (parts : List (Nat × Operand)) : Option SV := match zeroTVs P t with
  | some zs => match P.underlying t with
    | some (.struct fields) => match fields.toList.mapM (fun f => (P.info? f.type).map fun i => (f.offset, i.size)), partVals P E (fun i => (fields[i]?.map (·.type)).getD 0) parts with
      | some places, some ss => (fillT (places.toArray[·]?) zs ss).map .agg
      | _, _ => none
    | some (.array _ e) => match P.info? e, partVals P E (fun _ => e) parts with
      | some ie, some ss => (fillT (fun i => some (i * ie.size, ie.size)) zs ss).map .agg
      | _, _ => none
    | _ => none
  | none => none
theorem ok_build (h : Rel w0 FA UA N w a E blk FS US) {o : Oper} {t : TypeId} {parts : Array (Nat × Operand)} (ho : o.op = .build t parts) {s : SV} (hp : buildOp P E t parts.toList = some s) : PureOk P w a E blk FS US o s := by
  unfold buildOp at hp
  split at hp
  · rename_i zs hz
    obtain ⟨i, z, hi, hzz, hzs, hr⟩ := zeroTVs_rep (w := w) hz
    have hcx := cellsX_of_reps (a := a) (E := E) (blk := blk) hr
    have fin : ∀ {place : Nat → Option (Nat × Nat)} {ss : List (Nat × SV)} {ty : Nat → TypeId}, partVals P E ty parts.toList = some ss → (fillT place zs ss).map SV.agg = some s →
        (∀ cs ps, Instr.fill place z.cells ps = some cs → P.built t ps = some cs) → PureOk P w a E blk FS US o s := by
      intro place ss ty hss hf hb
      obtain ⟨cells', hf2, rfl⟩ := Option.map_eq_some_iff.1 hf
      obtain ⟨cs', U', k1, k2, k3, _⟩ := fill_rel (partVals_rel h hss) hcx (by simp) hf2
      have hbuilt := hb _ _ k1
      refine ⟨.agg cs', U', fun w2 _ => ?_, ?_, k3⟩
      · have hparts : (parts.map fun (i, x) => (i, a.eval x)).toList = parts.toList.map fun (i, x) => (i, a.eval x) := by simp
        have := run_build (P := P) w2 t (parts.map fun (i, x) => (i, a.eval x)) cs' (by rw [hparts]; exact hbuilt)
        simp [execOp, ho, this]
      · simp only [svX]
        exact ⟨cs'.toList, by simp, k2⟩
    split at hp
    · rename_i fields hu
      split at hp
      · rename_i places ss hpl hss
        exact fin hss hp (fun cs ps hk => by simp only [Program.built, hi, hu, hzz, hpl, hk])
      · cases hp
    · rename_i n e hu
      split at hp
      · rename_i ie ss hie hss
        exact fin hss hp (fun cs ps hk => by simp only [Program.built, hi, hu, hzz, hie, hk])
      · cases hp
    · cases hp
  · cases hp
variable (P) in
def effBuildSlice (E : St) (d : Nat) (t : TypeId) (len : Nat) (parts : List (Nat × Operand)) : Option St := match P.underlying t with
  | some (.slice e) => match zeroTVs P e, partVals P E (fun _ => e) parts with
    | some zs, some ss => match fillT (fun i => some (i * P.cellsOf e, P.cellsOf e)) (List.replicate len zs).flatten ss with
      | some cells => match takeCells E cells with
        | some (xs, E1) => if len * P.cellsOf e ≤ 16777216 ∧ 0 < P.cellsOf e then some (E1.put (some d) (.one (.sl true e (P.cellsOf e) xs))) else none
        | none => none
      | none => none
    | _, _ => none
  | _ => none
theorem Done.buildSlice (h : Rel w0 FA UA N w a E blk FS US) (hF : FS .hand = []) (hU : US .hand = []) {o : Oper} {d : Nat} {t : TypeId} {len : Nat} {parts : Array (Nat × Operand)} (ho : o.op = .buildSlice t len parts) (hd : o.dst = some d) (hN : d < N) {E' : St} (he : effBuildSlice P E d t len parts.toList = some E') : Done P w0 FA UA N w a o E' := by
  unfold effBuildSlice at he
  split at he
  · rename_i e hu
    split at he
    · rename_i zs ss hz hss
      split at he
      · rename_i cells hf
        split at he
        · rename_i xs E1 hx
          split at he
          · rename_i hcond
            obtain ⟨hsmall, hpos⟩ := hcond
            injection he with he
            subst he
            obtain ⟨i, z, hi, hzz, hzs, hr⟩ := zeroTVs_rep (w := w) hz
            have hsz : i.size = P.cellsOf e := by simp [Program.cellsOf, hi]
            have hm : (madeCells z.cells (len * P.cellsOf e)).toList = (List.replicate len z.cells.toList).flatten := madeCells_flat _ _ hzs _
            have hr2 : reps w (List.replicate len zs).flatten (madeCells z.cells (len * P.cellsOf e)).toList [] [] := by
              rw [hm]
              exact reps_replicate hr _
            obtain ⟨cs', U', k1, k2, k3, k4⟩ := fill_rel (partVals_rel h hss) (cellsX_of_reps (a := a) (E := E) (blk := blk) hr2) (by simp) hf
            obtain ⟨FS1, US1, F1, U1, h3, h4, h5, h6, _, _⟩ := takeCells_rel _ rfl h k2 k3 hx
            rw [hF, List.nil_append] at h5
            rw [hU, List.nil_append] at h6
            subst h5 h6
            have hxl := reps_len h3
            have hcs : cs'.size = len * P.cellsOf e := by rw [k4, size_madeCells]
            have hle : len ≤ len * P.cellsOf e := Nat.le_mul_of_pos_right _ hpos
            obtain ⟨FS', US', g1, g2, g3⟩ := h4.newRow (d := d) (e := e) (sz := P.cellsOf e) (n := len) hN h3 (by rw [← hxl]; simpa using hcs) (by simp only [maxLen]; omega)
            refine ⟨.value _, _, _, blk, FS', US', ?_, .inl rfl, by rw [hd]; exact g1, g2, g3, fun _ => KeptW.alloc⟩
            have hparts : (parts.map fun (i, x) => (i, a.eval x)).toList = parts.toList.map fun (i, x) => (i, a.eval x) := by simp
            have hk1 : Instr.fill (fun i => some (i * P.cellsOf e, P.cellsOf e)) ((Array.range (len * P.cellsOf e)).map (z.cells[· % z.cells.size]!)) (parts.map fun (i, x) => (i, a.eval x)).toList = some cs' := by
              rw [hparts]
              exact k1
            by_cases h0 : len * P.cellsOf e = 0
            · have hl0 : len = 0 := by
                rcases Nat.mul_eq_zero.1 h0 with h0 | h0 <;> omega
              subst hl0
              rw [Nat.zero_mul] at hk1
              have hk1' : Instr.fill (fun i => some (i * P.cellsOf e, P.cellsOf e)) #[] (parts.toList.map fun (i, x) => (i, a.eval x)) = some cs' := by
                have e0 : ((Array.range 0).map (z.cells[· % z.cells.size]!)) = #[] := by simp
                rw [← hparts, ← e0]
                exact hk1
              simp [execOp, ho, Instr.buildSlice, run_underlying hu, sizeOf, typeInfo, hi, hsz, h0, hk1', newRow, Array.range_zero']
            · have := run_buildSlice (P := P) w t e len (parts.map fun (i, x) => (i, a.eval x)) cs' i z hu hi hzz (by rw [hsz]; omega) (by rw [hsz]; exact h0) (by rw [hsz]; exact hk1)
              simp [execOp, ho, this]
          · cases he
        · cases he
      · cases he
    · cases he
  · cases he
end
end Go.TI
namespace Go.TI
open Go Go.RowKit
set_option linter.unusedSimpArgs false
set_option linter.unusedVariables false
mutual
def svR (w : World) : SV → Value → List Nat → List Nat → Prop
  | .one t, v, F, U => rep w t v F U ∧ v.cells = #[v]
  | .agg cs, v, F, U => ∃ vs : List Value, v = .agg vs.toArray ∧ reps w cs vs F U
  | .tup ss, v, F, U => ∃ vs : List Value, v = .tuple vs.toArray ∧ tupR w ss vs F U
def tupR (w : World) : List SV → List Value → List Nat → List Nat → Prop
  | [], vs, F, U => vs = [] ∧ F = [] ∧ U = []
  | s :: ss, vs, F, U => ∃ v vs' F1 F2 U1 U2, vs = v :: vs' ∧ F = F1 ++ F2 ∧ U = U1 ++ U2 ∧ svR w s v F1 U1 ∧ tupR w ss vs' F2 U2
end
inductive AV where
  | sv (s : SV)
  | ext (cells : List TV)
  | gone
def avR (w : World) : AV → Value → List Nat → List Nat → Prop
  | .sv s, v, F, U => svR w s v F U
  | .gone, v, F, U => F = [] ∧ U = []
  | .ext cells, v, F, U => ∃ b cur T F0, v = .pointer (some ⟨b, 0, none⟩) ∧ w.heap[b]? = some (.cells cur T (0, 0)) ∧ reps w cells cur.toList F0 U ∧ F = b :: F0 ∧ cells ≠ []
def argsR (w : World) : List AV → List Value → List Nat → List Nat → Prop
  | [], vs, F, U => vs = [] ∧ F = [] ∧ U = []
  | s :: ss, vs, F, U => ∃ v vs' F1 F2 U1 U2, vs = v :: vs' ∧ F = F1 ++ F2 ∧ U = U1 ++ U2 ∧ avR w s v F1 U1 ∧ argsR w ss vs' F2 U2
structure Left (w w' : World) (FA UA : List Nat) (res : SV) (fin : List AV) (vs : List Value) (v : Value) (F U G V : List Nat) : Prop where
  res : svR w' res v F U
  fin : argsR w' fin vs G V
  nodup : (F ++ G).Nodup
  dis : ∀ b ∈ F ++ G, b ∉ U ++ V
  inF : ∀ b ∈ F ++ G, (b ∈ FA ∨ w.heap.size ≤ b) ∧ b < w'.heap.size
  inU : ∀ b ∈ U ++ V, (b ∈ UA ∨ b ∈ FA ∨ w.heap.size ≤ b) ∧ b < w'.heap.size
  os : w'.os = w.os
  tape : w'.tape = w.tape
  output : w'.output = w.output
  size : w.heap.size ≤ w'.heap.size
  keep : ∀ b, b < w.heap.size → b ∉ FA → w'.heap[b]? = w.heap[b]?
def Gives (P : Program) (f : FuncId) (as : List AV) (res : SV) (fin : List AV) : Prop :=
  ∀ (w : World) (vs : List Value) (FA UA : List Nat), argsR w as vs FA UA → FA.Nodup → (∀ b ∈ FA, b ∉ UA) → (∀ b ∈ FA ++ UA, b < w.heap.size) →
    Calls P f vs.toArray w fun e w' => ∃ v F U G V, e = .returned v ∧ Left w w' FA UA res fin vs v F U G V
def avSlot (i : Nat) : AV → SV
  | .sv s => s
  | .gone => .one .junk
  | .ext _ => .one (.ptr (.ext i) 0 [] 0)
def avBox : Option AV → Option (List TV)
  | some (.ext cells) => some cells
  | _ => none
def St.init (as : List AV) (A : Amb := Amb.none) (fz : Option Nat := Option.none) : St where
  slots := fun n => match as[n]? with
    | some x => avSlot n x
    | none => .one .junk
  boxes := fun r => match r with
    | .ext n => avBox as[n]?
    | _ => none
  ver := fun _ => 0
  gen := fun _ => 0
  amb := A
  fz := fz
section
variable {w : World}
mutual
theorem svX_of_svR {a : Act} {E : St} {blk : Root → Nat} : ∀ {s : SV} {v : Value} {F U : List Nat}, svR w s v F U → svX w a E blk s v F U
  | .one t, v, F, U, h => by
    simp only [svR] at h
    simp only [svX]
    exact ⟨cellX_of_rep h.1, fun _ => h.2⟩
  | .agg cs, v, F, U, h => by
    simp only [svR] at h
    simp only [svX]
    obtain ⟨vs, h1, h2⟩ := h
    exact ⟨vs, h1, cellsX_of_reps h2⟩
  | .tup ss, v, F, U, h => by
    simp only [svR] at h
    simp only [svX]
    obtain ⟨vs, h1, h2⟩ := h
    exact ⟨vs, h1, tupX_of_tupR h2⟩
theorem tupX_of_tupR {a : Act} {E : St} {blk : Root → Nat} : ∀ {ss : List SV} {vs : List Value} {F U : List Nat}, tupR w ss vs F U → tupX w a E blk ss vs F U
  | [], vs, F, U, h => by simpa only [tupR, tupX] using h
  | s :: ss, vs, F, U, h => by
    simp only [tupR] at h
    simp only [tupX]
    obtain ⟨v, vs', F1, F2, U1, U2, h1, h2, h3, h4, h5⟩ := h
    exact ⟨v, vs', F1, F2, U1, U2, h1, h2, h3, svX_of_svR h4, tupX_of_tupR h5⟩
end
theorem argsR_get : ∀ {as : List AV} {vs : List Value} {F U : List Nat}, argsR w as vs F U → ∃ FF UU : Nat → List Nat,
    (∀ i x, as[i]? = some x → ∃ v, vs[i]? = some v ∧ avR w x v (FF i) (UU i)) ∧ (∀ i, as[i]? = none → FF i = [] ∧ UU i = []) ∧ vs.length = as.length ∧
    (∀ i, ∀ b ∈ FF i, b ∈ F) ∧ (∀ i, ∀ b ∈ UU i, b ∈ U) ∧ (F.Nodup → (∀ i, (FF i).Nodup) ∧ ∀ i j, i ≠ j → ∀ b ∈ FF i, b ∉ FF j)
  | [], vs, F, U, h => by
    obtain ⟨rfl, rfl, rfl⟩ := h
    exact ⟨fun _ => [], fun _ => [], by simp, by simp, rfl, by simp, by simp, by simp⟩
  | x :: as, vs, F, U, h => by
    obtain ⟨v, vs', F1, F2, U1, U2, rfl, rfl, rfl, h1, h2⟩ := h
    obtain ⟨FF, UU, h3, h4, h5, h6, h7, h8⟩ := argsR_get h2
    refine ⟨fun i => match i with | 0 => F1 | i + 1 => FF i, fun i => match i with | 0 => U1 | i + 1 => UU i, ?_, ?_, by simp [h5], ?_, ?_, ?_⟩
    · intro i y hy
      cases i with
      | zero => simp at hy; subst hy; exact ⟨v, rfl, h1⟩
      | succ i => simpa using h3 i y (by simpa using hy)
    · intro i hi
      cases i with
      | zero => simp at hi
      | succ i => exact h4 i (by simpa using hi)
    · intro i b hb
      cases i with
      | zero => exact List.mem_append_left _ hb
      | succ i => exact List.mem_append_right _ (h6 i b hb)
    · intro i b hb
      cases i with
      | zero => exact List.mem_append_left _ hb
      | succ i => exact List.mem_append_right _ (h7 i b hb)
    · intro hnd
      obtain ⟨n1, n2, n3⟩ := List.nodup_append.1 hnd
      obtain ⟨n4, n5⟩ := h8 n2
      refine ⟨fun i => ?_, fun i j hij b hb hb' => ?_⟩
      · cases i with
        | zero => exact n1
        | succ i => exact n4 i
      · cases i with
        | zero =>
          cases j with
          | zero => exact hij rfl
          | succ j => exact n3 b hb b (h6 j b hb') rfl
        | succ i =>
          cases j with
          | zero => exact n3 b hb' b (h6 i b hb) rfl
          | succ j => exact n5 i j (fun e => hij (by rw [e])) b hb hb'
def avBlk : Option Value → Nat
  | some (.pointer (some ad)) => ad.block
  | _ => 0
end
theorem Rel.init {w : World} {as : List AV} {vs : List Value} {FA UA : List Nat} {N : Nat} (h : argsR w as vs FA UA) (hnd : FA.Nodup) (hdis : ∀ b ∈ FA, b ∉ UA) (hlt : ∀ b ∈ FA ++ UA, b < w.heap.size) {A : Amb} {fz : Option Nat} (hA : A.I w) (hB : ∀ b ∈ A.B, b < w.heap.size ∧ b ∉ FA ∧ b ∉ UA) :
    ∃ blk FS US, Rel ⟨w, fun i => avBlk vs[i]?, A.B, ({ tmps := vs.toArray ++ Array.replicate (N - vs.toArray.size) undef, defers := [] } : Act).eval ∘ Operand.tmp⟩ FA UA N w { tmps := vs.toArray ++ Array.replicate (N - vs.toArray.size) undef, defers := [] } (St.init as A fz) blk FS US ∧ FS .hand = [] ∧ US .hand = [] := by
  obtain ⟨FF, UU, h1, h2, h3, h4, h5, h6⟩ := argsR_get h
  obtain ⟨h7, h8⟩ := h6 hnd
  let isExt : Nat → Bool := fun i => match as[i]? with | some (.ext _) => true | _ => false
  let FS : Root → List Nat := fun r => match r with
    | .slot n => if isExt n = true then [] else FF n
    | .ext n => if isExt n = true then FF n else []
    | _ => []
  let US : Root → List Nat := fun r => match r with
    | .slot n => if isExt n = true then [] else UU n
    | .ext n => if isExt n = true then UU n else []
    | _ => []
  let blk : Root → Nat := fun r => match r with
    | .ext n => avBlk vs[n]?
    | _ => 0
  -- the one argument that a root has
  let ix : Root → Nat := fun r => match r with | .slot n => n | .ext n => n | _ => 0
  have hFS : ∀ r, (∀ b ∈ FS r, b ∈ FF (ix r)) := by
    intro r b hb
    cases r <;> simp only [FS] at hb
    · split at hb
      · cases hb
      · exact hb
    · cases hb
    · split at hb
      · exact hb
      · cases hb
    · cases hb
  have hUS : ∀ r, (∀ b ∈ US r, b ∈ UU (ix r)) := by
    intro r b hb
    cases r <;> simp only [US] at hb
    · split at hb
      · cases hb
      · exact hb
    · cases hb
    · split at hb
      · exact hb
      · cases hb
    · cases hb
  have heval : ∀ n v, vs[n]? = some v → (({ tmps := vs.toArray ++ Array.replicate (N - vs.toArray.size) undef, defers := [] } : Act)).eval (.tmp n) = v := by
    intro n v hv
    have hn := (List.getElem?_eq_some_iff.1 hv).1
    have : (vs.toArray ++ Array.replicate (N - vs.toArray.size) undef)[n]? = some v := by
      rw [Array.getElem?_append_left (by simpa using hn)]
      simpa using hv
    simp only [Act.eval, Array.getD_eq_getD_getElem?, this, Option.getD_some]
  refine ⟨blk, FS, US, ?_, rfl, rfl⟩
  constructor
  · intro n
    cases hx : as[n]? with
    | none =>
      obtain ⟨e1, e2⟩ := h2 n hx
      have : isExt n = false := by simp [isExt, hx]
      have hs : (St.init as A fz).slots n = .one .junk := by simp [St.init, hx]
      rw [hs]
      simp [svX, cellX, TV.isJunk, FS, US, this, e1, e2]
    | some x =>
      obtain ⟨v, e1, e2⟩ := h1 n x hx
      rw [heval n v e1]
      cases x with
      | sv s =>
        have he : isExt n = false := by simp [isExt, hx]
        have hs : (St.init as A fz).slots n = s := by simp [St.init, hx, avSlot]
        rw [hs]
        simp only [FS, US, he, Bool.false_eq_true, if_false]
        exact svX_of_svR e2
      | gone =>
        have he : isExt n = false := by simp [isExt, hx]
        have hs : (St.init as A fz).slots n = .one .junk := by simp [St.init, hx, avSlot]
        obtain ⟨e3, e4⟩ := e2
        rw [hs]
        simp [svX, cellX, TV.isJunk, FS, US, he, e3, e4]
      | ext cells =>
        have he : isExt n = true := by simp [isExt, hx]
        have hs : (St.init as A fz).slots n = .one (.ptr (.ext n) 0 [] 0) := by simp [St.init, hx, avSlot]
        obtain ⟨b, cur, T, F0, rfl, e3, e4, e5, e6⟩ := e2
        have hblk : blk (.ext n) = b := by simp [blk, e1, avBlk]
        rw [hs]
        simp only [FS, US, he, if_true, svX, cellX]
        refine ⟨⟨trivial, trivial, Nat.zero_le _, fun _ => ⟨?_, ⟨b, 0, none⟩, ?_, rfl⟩⟩, fun _ => rfl⟩
        · cases cells with
          | nil => exact absurd rfl e6
          | cons c cs => simp [St.place, St.root, St.init, hx, avBox, cont]
        · simp [pa, hblk, Addr.add]
  · intro r hr
    cases r with
    | slot n => cases hr
    | hand => cases hr
    | box n => exact .inl ⟨rfl, rfl, rfl⟩
    | ext n =>
      cases hx : as[n]? with
      | none =>
        have : isExt n = false := by simp [isExt, hx]
        exact .inl ⟨by simp [St.init, hx, avBox], by simp [FS, this], by simp [US, this]⟩
      | some x =>
        obtain ⟨v, e1, e2⟩ := h1 n x hx
        cases x with
        | sv s =>
          have : isExt n = false := by simp [isExt, hx]
          exact .inl ⟨by simp [St.init, hx, avBox], by simp [FS, this], by simp [US, this]⟩
        | gone =>
          have : isExt n = false := by simp [isExt, hx]
          exact .inl ⟨by simp [St.init, hx, avBox], by simp [FS, this], by simp [US, this]⟩
        | ext cells =>
          have he : isExt n = true := by simp [isExt, hx]
          obtain ⟨b, cur, T, F0, rfl, e3, e4, e5, e6⟩ := e2
          have hblk : blk (.ext n) = b := by simp [blk, e1, avBlk]
          refine .inr ⟨cells, cur, T, F0, by simp [St.init, hx, avBox], by rw [hblk]; exact e3, by simpa [US, he] using e4, by simp [FS, he, hblk, e5]⟩
  · rfl
  · intro r
    cases r <;> simp only [FS]
    · split
      · exact List.nodup_nil
      · exact h7 _
    · exact List.nodup_nil
    · split
      · exact h7 _
      · exact List.nodup_nil
    · exact List.nodup_nil
  · intro r s hrs b hb hb'
    by_cases hix : ix r = ix s
    · cases r <;> cases s <;> simp only [FS] at hb hb' <;> simp only [ix] at hix <;> subst_vars <;> first | exact hrs rfl | (split at hb <;> split at hb' <;> simp_all) | simp_all
    · exact h8 _ _ hix b (hFS r b hb) (hFS s b hb')
  · intro r s b hb hb'
    exact hdis b (h4 _ b (hFS r b hb)) (h5 _ b (hUS s b hb'))
  · intro r b hb
    have := h4 _ b (hFS r b hb)
    exact ⟨.inl this, hlt b (List.mem_append_left _ this)⟩
  · intro r b hb
    have := h5 _ b (hUS r b hb)
    exact ⟨.inl this, hlt b (List.mem_append_right _ this)⟩
  · exact hdis
  · rfl
  · rfl
  · rfl
  · exact Nat.le_refl _
  · exact fun _ _ _ _ => rfl
  · simp; omega
  · rfl
  · exact fun _ => rfl
  · rfl
  · exact hA
  · intro n hn; rfl
  · exact hB
end Go.TI
