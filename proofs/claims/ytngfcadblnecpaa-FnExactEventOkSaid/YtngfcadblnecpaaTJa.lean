/- An interpreter of loaded Go code on trees, for every program: the arguments of a call. No condition; no program is in sight. -/
import Derived.Test.YtngfcadblnecpaaTIz
namespace Go.TI
open Go Go.RowKit
set_option linter.unusedSimpArgs false
set_option linter.unusedVariables false

/-- What is seen, as a tree that is only read. -/
def shCell (E : St) : TV → Option TV
  | .view r v q j => if E.ver r = v then (match E.place r q j with
      | some (.sl o e sz cells) => some (share (.sl o e sz cells))
      | _ => none) else none
  | .ptr .. => none
  | .junk => none
  | t => some (share t)
def shCells (E : St) : List TV → Option (List TV)
  | [] => some []
  | t :: ts => match shCell E t, shCells E ts with
    | some x, some xs => some (x :: xs)
    | _, _ => none
def shSV (E : St) (s : SV) : Option SV := if s.plain = true then (shCells E s.cells).map s.withCells else none

def TV.isView : TV → Bool
  | .view .. => true
  | _ => false
def SV.noViews (s : SV) : Bool := s.cells.all fun t => !t.isView

mutual
def svShared : SV → Bool
  | .one t => hasShared t
  | .agg cs => hasShareds cs
  | .tup ss => svShareds ss
def svShareds : List SV → Bool
  | [] => false
  | s :: ss => svShared s || svShareds ss
end

mutual
theorem rep_noshare {w : World} : ∀ {t : TV} {v : Value} {F U : List Nat}, rep w t v F U → hasShared t = false → U = []
  | .int .., v, F, U, h, _ => by simp only [rep] at h; exact h.2.2
  | .bool _, v, F, U, h, _ => by simp only [rep] at h; exact h.2.2
  | .str _, v, F, U, h, _ => by simp only [rep] at h; exact h.2.2
  | .junk, v, F, U, h, _ => by simp only [rep] at h; exact h.2.2
  | .view .., v, F, U, h, _ => by simp only [rep] at h
  | .ptr .., v, F, U, h, _ => by simp only [rep] at h
  | .sl true e sz cells, v, F, U, h, k => by
    simp only [rep] at h
    obtain ⟨n, vs, F', h1, h2, h3⟩ := h
    exact reps_noshare h2 (by simpa [hasShared] using k)
  | .sl false e sz cells, v, F, U, h, k => by simp [hasShared] at k
theorem reps_noshare {w : World} : ∀ {ts : List TV} {vs : List Value} {F U : List Nat}, reps w ts vs F U → hasShareds ts = false → U = []
  | [], vs, F, U, h, _ => by simp only [reps] at h; exact h.2.2
  | t :: ts, vs, F, U, h, k => by
    simp only [reps] at h
    obtain ⟨v, vs', F1, F2, U1, U2, rfl, rfl, rfl, h1, h2⟩ := h
    simp only [hasShareds, Bool.or_eq_false_iff] at k
    rw [rep_noshare h1 k.1, reps_noshare h2 k.2]
    rfl
end
mutual
theorem svR_noshare {w : World} : ∀ {s : SV} {v : Value} {F U : List Nat}, svR w s v F U → svShared s = false → U = []
  | .one t, v, F, U, h, k => by
    simp only [svR] at h
    exact rep_noshare h.1 (by simpa [svShared] using k)
  | .agg cs, v, F, U, h, k => by
    simp only [svR] at h
    obtain ⟨vs, _, h⟩ := h
    exact reps_noshare h (by simpa [svShared] using k)
  | .tup ss, v, F, U, h, k => by
    simp only [svR] at h
    obtain ⟨vs, _, h⟩ := h
    exact tupR_noshare h (by simpa [svShared] using k)
theorem tupR_noshare {w : World} : ∀ {ss : List SV} {vs : List Value} {F U : List Nat}, tupR w ss vs F U → svShareds ss = false → U = []
  | [], vs, F, U, h, _ => by simp only [tupR] at h; exact h.2.2
  | s :: ss, vs, F, U, h, k => by
    simp only [tupR] at h
    obtain ⟨v, vs', F1, F2, U1, U2, rfl, rfl, rfl, h1, h2⟩ := h
    simp only [svShareds, Bool.or_eq_false_iff] at k
    rw [svR_noshare h1 k.1, tupR_noshare h2 k.2]
    rfl
end

section
variable {w0 : World} {FA UA : List Nat} {N : Nat} {w : World} {a : Act} {E : St} {blk : Root → Nat} {FS US : Root → List Nat} {P : Program}

theorem shCell_rel (h : Rel w0 FA UA N w a E blk FS US) {t x : TV} {v : Value} {U : List Nat} (hc : cellX w a E blk t v [] U) (hU : ∀ b ∈ U, ∃ r, b ∈ US r) (ht : shCell E t = some x) :
    ∃ U', rep w x v [] U' ∧ ∀ b ∈ U', (∃ r, b ∈ US r) ∨ (t.isView = true ∧ ∃ r, r ≠ .hand ∧ b ∈ FS r) := by
  have easy : ∀ {t : TV}, rep w t v [] U → ∃ U', rep w (share t) v [] U' ∧ ∀ b ∈ U', (∃ r, b ∈ US r) := by
    intro t hr
    obtain ⟨U', h1, h2⟩ := rep_share hr
    exact ⟨U', h1, fun b hb => by
      rcases h2 b hb with h3 | h3
      · cases h3
      · exact hU b h3⟩
  cases t with
  | view r ver q j =>
    simp only [shCell] at ht
    split at ht
    · rename_i hver
      split at ht
      · rename_i o e sz cells hpl
        injection ht with ht
        subst ht
        obtain ⟨_, _, _, hcc⟩ := hc
        obtain ⟨hpv, _⟩ := hcc hver
        obtain ⟨F, U2, h1, h2, h3⟩ := place_sl h hpl hpv
        obtain ⟨U', h4, h5⟩ := rep_share h1
        have hrh : r ≠ .hand := by
          rintro rfl
          simp [St.place, St.root, h.nohand] at hpl
        exact ⟨U', h4, fun b hb => by
          rcases h5 b hb with h6 | h6
          · exact .inr ⟨rfl, r, hrh, h2 b h6⟩
          · exact .inl ⟨r, h3 b h6⟩⟩
      · cases ht
    · cases ht
  | ptr r ver q j => cases ht
  | junk => cases ht
  | int k n =>
    simp only [shCell, Option.some.injEq] at ht
    subst ht
    obtain ⟨U', h1, h2⟩ := easy hc
    exact ⟨U', h1, fun b hb => .inl (h2 b hb)⟩
  | bool b =>
    simp only [shCell, Option.some.injEq] at ht
    subst ht
    obtain ⟨U', h1, h2⟩ := easy hc
    exact ⟨U', h1, fun b hb => .inl (h2 b hb)⟩
  | str b =>
    simp only [shCell, Option.some.injEq] at ht
    subst ht
    obtain ⟨U', h1, h2⟩ := easy hc
    exact ⟨U', h1, fun b hb => .inl (h2 b hb)⟩
  | sl o e sz cells =>
    simp only [shCell, Option.some.injEq] at ht
    subst ht
    obtain ⟨U', h1, h2⟩ := easy hc
    exact ⟨U', h1, fun b hb => .inl (h2 b hb)⟩

theorem shCells_rel (h : Rel w0 FA UA N w a E blk FS US) : ∀ {ts xs : List TV} {vs : List Value} {U : List Nat}, cellsX w a E blk ts vs [] U → (∀ b ∈ U, ∃ r, b ∈ US r) → shCells E ts = some xs →
    ∃ U', reps w xs vs [] U' ∧ ∀ b ∈ U', (∃ r, b ∈ US r) ∨ (ts.all (fun t => !t.isView) = false ∧ ∃ r, r ≠ .hand ∧ b ∈ FS r)
  | [], xs, vs, U, hc, hU, ht => by
    simp only [shCells, Option.some.injEq] at ht
    subst ht
    obtain ⟨rfl, _, rfl⟩ := hc
    exact ⟨[], by simp [reps], by simp⟩
  | t :: ts, xs, vs, U, hc, hU, ht => by
    simp only [shCells] at ht
    split at ht
    · rename_i x xs' hx hxs
      injection ht with ht
      subst ht
      obtain ⟨v, vs', F1, F2, U1, U2, rfl, hF, rfl, h1, h2⟩ := hc
      obtain ⟨rfl, rfl⟩ := List.append_eq_nil_iff.1 hF.symm
      obtain ⟨Ua, a1, a2⟩ := shCell_rel h h1 (fun b hb => hU b (by simp [hb])) hx
      obtain ⟨Ub, b1, b2⟩ := shCells_rel h h2 (fun b hb => hU b (by simp [hb])) hxs
      refine ⟨Ua ++ Ub, ?_, fun b hb => ?_⟩
      · simp only [reps]
        exact ⟨v, vs', [], [], Ua, Ub, rfl, rfl, rfl, a1, b1⟩
      · rcases List.mem_append.1 hb with hb | hb
        · rcases a2 b hb with h3 | ⟨h3, h4⟩
          · exact .inl h3
          · exact .inr ⟨by simp [h3], h4⟩
        · rcases b2 b hb with h3 | ⟨h3, h4⟩
          · exact .inl h3
          · exact .inr ⟨by simp only [List.all_cons, h3, Bool.and_false], h4⟩
    · cases ht

/-- A plain value whose cells are turned into trees. -/
theorem svR_of_cells {w : World} {a : Act} {E : St} {blk : Root → Nat} {s : SV} {v : Value} {U F1 U1 : List Nat} {xs : List TV} (h1 : svX w a E blk s v [] U) (hp : s.plain = true) (hl : xs.length = s.cells.length) (h3 : reps w xs v.cells.toList F1 U1) : svR w (s.withCells xs) v F1 U1 := by
  cases s with
  | one t =>
    simp only [SV.cells, List.length_singleton] at hl
    simp only [svX] at h1
    have hj : t.isJunk = false := by cases t <;> first | rfl | cases hp
    have hc := h1.2 hj
    match xs, hl with
    | [x'], _ =>
      rw [hc] at h3
      simp only [reps] at h3
      obtain ⟨v2, vs2, G1, G2, V1, V2, hh, rfl, rfl, h15, rfl, rfl, rfl⟩ := h3
      injection hh with hh _
      subst hh
      simp only [SV.withCells, svR, List.append_nil]
      exact ⟨h15, hc⟩
  | agg cs =>
    simp only [svX] at h1
    obtain ⟨vs, hv, _⟩ := h1
    simp only [SV.withCells, svR]
    rw [hv] at h3
    exact ⟨vs, hv, by simpa [Value.cells] using h3⟩
  | tup ss => cases hp

theorem shSV_rel (h : Rel w0 FA UA N w a E blk FS US) {s s' : SV} {v : Value} {U : List Nat} (hs : svX w a E blk s v [] U) (hU : ∀ b ∈ U, ∃ r, b ∈ US r) (ht : shSV E s = some s') :
    ∃ U', svR w s' v [] U' ∧ ∀ b ∈ U', (∃ r, b ∈ US r) ∨ (s.noViews = false ∧ ∃ r, r ≠ .hand ∧ b ∈ FS r) := by
  unfold shSV at ht
  split at ht
  · rename_i hp
    obtain ⟨xs, hx, rfl⟩ := Option.map_eq_some_iff.1 ht
    have hc := sv_cells hs hp
    obtain ⟨U', h1, h2⟩ := shCells_rel h hc hU hx
    have hl := reps_len h1
    have hl2 := cellsX_len hc
    exact ⟨U', svR_of_cells hs hp (by omega) h1, h2⟩
  · cases ht

/-- The arguments that are moved into the call. -/
def mvArgs (P : Program) (E : St) : List (Bool × TypeId × Operand) → Option (List (Option SV) × St)
  | [] => some ([], E)
  | (true, t, x) :: l => match E.val P t x with
    | some s => match takeSV E s with
      | some (xs, E1) => match mvArgs P E1 l with
        | some (ss, E2) => some (some (s.withCells xs) :: ss, E2)
        | none => none
      | none => none
    | none => none
  | (false, _, _) :: l => match mvArgs P E l with
    | some (ss, E2) => some (none :: ss, E2)
    | none => none
/-- The others, shared. -/
def shArgs (P : Program) (E : St) : List (Bool × TypeId × Operand) → List (Option SV) → Option (List AV × Bool)
  | [], [] => some ([], true)
  | _ :: l, some s :: ss => match shArgs P E l ss with
    | some (as, b) => some (.sv s :: as, b)
    | none => none
  | (_, t, x) :: l, none :: ss => match E.val P t x with
    | some s => match shSV E s, shArgs P E l ss with
      | some s', some (as, b) => some (.sv s' :: as, s.noViews && b)
      | _, _ => none
    | none => none
  | _, _ => none

def mvR (w : World) (a : Act) : List (Bool × TypeId × Operand) → List (Option SV) → List Nat → List Nat → Prop
  | [], [], F, U => F = [] ∧ U = []
  | (_, _, x) :: l, some s :: ss, F, U => ∃ F1 F2 U1 U2, F = F1 ++ F2 ∧ U = U1 ++ U2 ∧ svR w s (a.eval x) F1 U1 ∧ mvR w a l ss F2 U2
  | _ :: l, none :: ss, F, U => mvR w a l ss F U
  | _, _, _, _ => False

theorem takeSV_len {E E' : St} {s : SV} {xs : List TV} (h : takeSV E s = some (xs, E')) : s.plain = true ∧ xs.length = s.cells.length := by
  unfold takeSV at h
  split at h
  · rename_i hp
    exact ⟨hp, takeCells_len h⟩
  · cases h

theorem mvArgs_rel : ∀ {l : List (Bool × TypeId × Operand)} {ss : List (Option SV)} {E E' : St} {FS US : Root → List Nat}, Rel w0 FA UA N w a E blk FS US → mvArgs P E l = some (ss, E') →
    ∃ FS' US' F U, mvR w a l ss F U ∧ Rel w0 FA UA N w a E' blk FS' US' ∧ FS' .hand = FS .hand ++ F ∧ US' .hand = US .hand ++ U ∧ (∀ s, Steady w w a a E E' blk blk s)
  | [], ss, E, E', FS, US, h, ht => by
    simp only [mvArgs, Option.some.injEq, Prod.mk.injEq] at ht
    obtain ⟨rfl, rfl⟩ := ht
    exact ⟨FS, US, [], [], ⟨rfl, rfl⟩, h, by simp, by simp, fun s => Steady.refl⟩
  | (true, t, x) :: l, ss, E, E', FS, US, h, ht => by
    simp only [mvArgs] at ht
    split at ht
    · rename_i s hs
      split at ht
      · rename_i xs E1 hx
        split at ht
        · rename_i ss' E2 hss
          simp only [Option.some.injEq, Prod.mk.injEq] at ht
          obtain ⟨rfl, rfl⟩ := ht
          obtain ⟨U, h1, h2⟩ := val_rel h hs
          obtain ⟨FS1, US1, F1, U1, h3, h4, h5, h6, h7, _⟩ := takeSV_rel h h1 h2 hx
          obtain ⟨FS2, US2, F2, U2, k1, k2, k3, k4, k5⟩ := mvArgs_rel h4 hss
          obtain ⟨hp, hl⟩ := takeSV_len hx
          refine ⟨FS2, US2, F1 ++ F2, U1 ++ U2, ⟨F1, F2, U1, U2, rfl, rfl, svR_of_cells h1 hp hl h3, k1⟩, k2, by rw [k3, h5, List.append_assoc], by rw [k4, h6, List.append_assoc], fun s => (h7 s).trans (k5 s)⟩
        · cases ht
      · cases ht
    · cases ht
  | (false, t, x) :: l, ss, E, E', FS, US, h, ht => by
    simp only [mvArgs] at ht
    split at ht
    · rename_i ss' E2 hss
      simp only [Option.some.injEq, Prod.mk.injEq] at ht
      obtain ⟨rfl, rfl⟩ := ht
      obtain ⟨FS2, US2, F2, U2, k1, k2, k3, k4, k5⟩ := mvArgs_rel h hss
      exact ⟨FS2, US2, F2, U2, k1, k2, k3, k4, k5⟩
    · cases ht

theorem shArgs_rel (h : Rel w0 FA UA N w a E blk FS US) : ∀ {l : List (Bool × TypeId × Operand)} {ss : List (Option SV)} {as : List AV} {c : Bool} {F U : List Nat}, mvR w a l ss F U → shArgs P E l ss = some (as, c) →
    ∃ U', argsR w as (l.map fun x => a.eval x.2.2) F U' ∧ ∀ b ∈ U', b ∈ U ∨ (∃ r, b ∈ US r) ∨ (c = false ∧ ∃ r, r ≠ .hand ∧ b ∈ FS r)
  | [], [], as, c, F, U, hm, ht => by
    simp only [shArgs, Option.some.injEq, Prod.mk.injEq] at ht
    obtain ⟨rfl, rfl⟩ := ht
    obtain ⟨rfl, rfl⟩ := hm
    exact ⟨[], ⟨rfl, rfl, rfl⟩, by simp⟩
  | (m, t, x) :: l, some s :: ss, as, c, F, U, hm, ht => by
    simp only [shArgs] at ht
    split at ht
    · rename_i as' b' hss
      simp only [Option.some.injEq, Prod.mk.injEq] at ht
      obtain ⟨rfl, rfl⟩ := ht
      obtain ⟨F1, F2, U1, U2, rfl, rfl, h1, h2⟩ := hm
      obtain ⟨U', k1, k2⟩ := shArgs_rel h h2 hss
      refine ⟨U1 ++ U', ⟨_, _, F1, F2, U1, U', rfl, rfl, rfl, h1, k1⟩, fun b hb => ?_⟩
      rcases List.mem_append.1 hb with hb | hb
      · exact .inl (by simp [hb])
      · rcases k2 b hb with k | k
        · exact .inl (by simp [k])
        · exact .inr k
    · cases ht
  | (m, t, x) :: l, none :: ss, as, c, F, U, hm, ht => by
    simp only [shArgs] at ht
    split at ht
    · rename_i s hs
      split at ht
      · rename_i s' as' b' hs' hss
        simp only [Option.some.injEq, Prod.mk.injEq] at ht
        obtain ⟨rfl, rfl⟩ := ht
        obtain ⟨U0, h1, h2⟩ := val_rel h hs
        obtain ⟨U1, h3, h4⟩ := shSV_rel h h1 h2 hs'
        have hm' : mvR w a l ss F U := by simpa only [mvR] using hm
        obtain ⟨U', k1, k2⟩ := shArgs_rel h hm' hss
        refine ⟨U1 ++ U', ⟨_, _, [], F, U1, U', rfl, rfl, rfl, h3, k1⟩, fun b hb => ?_⟩
        rcases List.mem_append.1 hb with hb | hb
        · rcases h4 b hb with h5 | ⟨h5, h6⟩
          · exact .inr (.inl h5)
          · exact .inr (.inr ⟨by simp [h5], h6⟩)
        · rcases k2 b hb with k | k | ⟨k, k'⟩
          · exact .inl k
          · exact .inr (.inl k)
          · exact .inr (.inr ⟨by simp [k], k'⟩)
      · cases ht
    · cases ht
  | [], some s :: ss, as, c, F, U, hm, ht => by simp [mvR] at hm
  | [], none :: ss, as, c, F, U, hm, ht => by simp [mvR] at hm
  | _ :: _, [], as, c, F, U, hm, ht => by simp [mvR] at hm
end
end Go.TI
