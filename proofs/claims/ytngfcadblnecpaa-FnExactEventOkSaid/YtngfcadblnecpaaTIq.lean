/- An interpreter of loaded Go code on trees, for every program: cells are taken. No condition; no program is in sight. -/
import Derived.Test.YtngfcadblnecpaaTIp
namespace Go.TI
open Go Go.RowKit
set_option linter.unusedSimpArgs false
set_option linter.unusedVariables false

section
variable {w0 : World} {FA UA : List Nat} {N : Nat} {w : World} {a : Act} {blk : Root → Nat} {P : Program}

theorem takeCell_rel {E E' : St} {FS US : Root → List Nat} (h : Rel w0 FA UA N w a E blk FS US) {t x : TV} {v : Value} {U : List Nat} (hc : cellX w a E blk t v [] U) (hU : ∀ b ∈ U, ∃ r, b ∈ US r) (ht : takeCell E t = some (x, E')) :
    ∃ FS' US' F1 U1, rep w x v F1 U1 ∧ Rel w0 FA UA N w a E' blk FS' US' ∧ FS' .hand = FS .hand ++ F1 ∧ US' .hand = US .hand ++ U1 ∧ (∀ s, Steady w w a a E E' blk blk s) ∧ (∀ s b, b ∈ US s → ∃ s', b ∈ US' s') := by
  have hsh : ∀ (s : Root) (b : Nat) (U1 : List Nat), b ∈ US s → ∃ s', b ∈ upd US .hand (US .hand ++ U1) s' := by
    intro s b U1 hb
    by_cases hs : s = .hand
    · subst hs; exact ⟨.hand, by rw [upd_eq]; simp [hb]⟩
    · exact ⟨s, by rw [upd_ne hs]; exact hb⟩
  have copy : ∀ {x : TV} {U1 : List Nat}, rep w x v [] U1 → (∀ b ∈ U1, ∃ r, b ∈ US r) → E' = E →
      ∃ FS' US' F1 U1, rep w x v F1 U1 ∧ Rel w0 FA UA N w a E' blk FS' US' ∧ FS' .hand = FS .hand ++ F1 ∧ US' .hand = US .hand ++ U1 ∧ (∀ s, Steady w w a a E E' blk blk s) ∧ (∀ s b, b ∈ US s → ∃ s', b ∈ US' s') := by
    rintro x U1 hr hU1 rfl
    exact ⟨FS, _, [], U1, hr, h.handU hU1, by simp, by rw [upd_eq], fun s => Steady.refl, fun s b hb => hsh s b U1 hb⟩
  cases t with
  | int k n =>
    simp only [takeCell, Option.some.injEq, Prod.mk.injEq] at ht
    obtain ⟨rfl, rfl⟩ := ht
    exact copy hc hU rfl
  | bool b =>
    simp only [takeCell, Option.some.injEq, Prod.mk.injEq] at ht
    obtain ⟨rfl, rfl⟩ := ht
    exact copy hc hU rfl
  | str s =>
    simp only [takeCell, Option.some.injEq, Prod.mk.injEq] at ht
    obtain ⟨rfl, rfl⟩ := ht
    exact copy hc hU rfl
  | ptr r ver q j => simp [takeCell] at ht
  | junk => simp [takeCell] at ht
  | sl o e sz cells =>
    simp only [takeCell] at ht
    simp only [Option.some.injEq, Prod.mk.injEq] at ht
    obtain ⟨rfl, rfl⟩ := ht
    exact copy hc hU rfl
  | view r ver q j =>
    obtain ⟨_, _, _, hvw⟩ := hc
    simp only [takeCell, takeAt] at ht
    split at ht
    · rename_i hver
      obtain ⟨hpv, _⟩ := hvw hver
      split at ht
      · rename_i e sz cells hpl
        split at ht
        · rename_i hown
          split at ht
          · rename_i cs hroot
            simp only [Option.some.injEq, Prod.mk.injEq] at ht
            obtain ⟨rfl, rfl⟩ := ht
            have hop : ownP cs q = true := by simpa [St.ownAt, hroot] using hown
            have hrh : r ≠ .hand := by
              rintro rfl
              simp [St.root, h.nohand] at hroot
            obtain ⟨F1, U1, G, V, hr, hVU, hrel⟩ := take_own h hpl hop hroot hpv
            have hsteady : ∀ s, Steady w w a a E ((E.setRoot r (updC cs q fun row => row.set j .junk)).bump r) blk blk s := fun s => steady_out (fun _ cs0 h0 => by
              rw [hroot] at h0
              injection h0 with h0
              subst h0
              cases q with
              | nil => simp [updC]
              | cons c q =>
                simp only [updC]
                split <;> simp) s
            refine ⟨_, _, F1, U1, hr, hrel, by rw [upd_eq], by rw [upd_eq], hsteady, fun s b hb => ?_⟩
            by_cases hs : s = .hand
            · subst hs; exact ⟨.hand, by rw [upd_eq]; simp [hb]⟩
            · by_cases hs2 : s = r
              · subst hs2
                rcases hVU b hb with hx | hx
                · exact ⟨s, by rw [upd_ne hs, upd_eq]; exact hx⟩
                · exact ⟨.hand, by rw [upd_eq]; simp [hx]⟩
              · exact ⟨s, by rw [upd_ne hs, upd_ne hs2]; exact hb⟩
          · cases ht
        · cases ht
      · rename_i e sz cells hpl
        simp only [Option.some.injEq, Prod.mk.injEq] at ht
        obtain ⟨rfl, rfl⟩ := ht
        obtain ⟨F, U2, hr, _, hU2⟩ := place_sl h hpl hpv
        have hF := rep_scalar_F hr (by simp)
        subst hF
        exact copy hr (fun b hb => ⟨r, hU2 b hb⟩) rfl
      · cases ht
    · cases ht

theorem takeCells_rel : ∀ {ts xs : List TV} {vs : List Value} {U : List Nat} {E E' : St} {FS US : Root → List Nat}, Rel w0 FA UA N w a E blk FS US → cellsX w a E blk ts vs [] U → (∀ b ∈ U, ∃ r, b ∈ US r) → takeCells E ts = some (xs, E') →
    ∃ FS' US' F1 U1, reps w xs vs F1 U1 ∧ Rel w0 FA UA N w a E' blk FS' US' ∧ FS' .hand = FS .hand ++ F1 ∧ US' .hand = US .hand ++ U1 ∧ (∀ s, Steady w w a a E E' blk blk s) ∧ (∀ s b, b ∈ US s → ∃ s', b ∈ US' s')
  | [], xs, vs, U, E, E', FS, US, h, hc, hU, ht => by
    simp only [takeCells, Option.some.injEq, Prod.mk.injEq] at ht
    obtain ⟨rfl, rfl⟩ := ht
    obtain ⟨rfl, _, rfl⟩ := hc
    exact ⟨FS, US, [], [], by simp [reps], h, by simp, by simp, fun s => Steady.refl, fun s b hb => ⟨s, hb⟩⟩
  | t :: ts, xs, vs, U, E, E', FS, US, h, hc, hU, ht => by
    simp only [takeCells] at ht
    obtain ⟨v, vs', F1, F2, U1, U2, rfl, hF, rfl, h1, h2⟩ := hc
    have hF' := List.append_eq_nil_iff.1 hF.symm
    obtain ⟨rfl, rfl⟩ := hF'
    split at ht
    · rename_i x E1 hx
      split at ht
      · rename_i xs' E2 hxs
        simp only [Option.some.injEq, Prod.mk.injEq] at ht
        obtain ⟨rfl, rfl⟩ := ht
        obtain ⟨FSa, USa, Fa, Ua, a1, a2, a3, a4, a5, a6⟩ := takeCell_rel h h1 (fun b hb => hU b (by simp [hb])) hx
        obtain ⟨FSb, USb, Fb, Ub, b1, b2, b3, b4, b5, b6⟩ := takeCells_rel a2 (cellsX_step a5 h2 (fun _ _ => rfl) (fun _ _ => rfl)) (fun b hb => by
          obtain ⟨r, hr⟩ := hU b (by simp [hb])
          exact a6 r b hr) hxs
        refine ⟨FSb, USb, Fa ++ Fb, Ua ++ Ub, ?_, b2, by rw [b3, a3, List.append_assoc], by rw [b4, a4, List.append_assoc], fun s => (a5 s).trans (b5 s), fun s b hb => ?_⟩
        · simp only [reps]
          exact ⟨v, vs', Fa, Fb, Ua, Ub, rfl, rfl, rfl, a1, b1⟩
        · obtain ⟨s', hs'⟩ := a6 s b hb
          exact b6 s' b hs'
      · cases ht
    · cases ht
end
end Go.TI
