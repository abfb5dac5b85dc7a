/- An interpreter of loaded Go code on trees, for every program: operands. No condition; no program is in sight. -/
import Derived.Test.YtngfcadblnecpaaTIi
namespace Go.TI
open Go Go.RowKit
set_option linter.unusedSimpArgs false

theorem add_add (x : Addr) (m n : Nat) : (x.add m).add n = x.add (m + n) := by
  unfold Addr.add
  split <;> split <;> simp_all <;> omega

theorem baseFrom_snoc {w : World} {j : Nat} {ad2 : Addr} {n c : Nat} : ∀ {q : List Nat} {ad ad1 : Addr}, baseFrom w ad q = some ad1 → w.cell? (ad1.add j) = some (.slice (some ad2) n c) → baseFrom w ad (q ++ [j]) = some ad2
  | [], ad, ad1, h1, h2 => by
    simp only [baseFrom, Option.some.injEq] at h1
    subst h1
    simp [baseFrom, h2]
  | c' :: q, ad, ad1, h1, h2 => by
    simp only [baseFrom, List.cons_append] at h1 ⊢
    split at h1
    · exact baseFrom_snoc h1 h2
    · cases h1

theorem pa_snoc {w : World} {a : Act} {blk : Root → Nat} {r : Root} {q : List Nat} {j i : Nat} {ad : Addr} {n c : Nat} (h : pv w a blk r q j = some (.slice (some ad) n c)) : pa w a blk r (q ++ [j]) i = some (ad.add i) := by
  cases q with
  | nil =>
    simp only [pv] at h
    simp [pa, h, baseV, baseFrom]
  | cons c' q =>
    simp only [pv] at h
    simp only [pa, List.cons_append]
    obtain ⟨v, h1, h⟩ := Option.bind_eq_some_iff.1 h
    obtain ⟨ad1, h2, h3⟩ := Option.bind_eq_some_iff.1 h
    rw [h1]
    simp only [Option.bind_some]
    cases v <;> simp only [baseV, reduceCtorEq] at h2
    rename_i A m k
    cases A <;> simp only [reduceCtorEq] at h2
    simp only [baseV]
    rw [baseFrom_snoc h2 h3]
    rfl

section
variable {w0 : World} {FA UA : List Nat} {N : Nat} {w : World} {a : Act} {E : St} {blk : Root → Nat} {FS US : Root → List Nat} {P : Program}

theorem cell1_rel (h : Rel w0 FA UA N w a E blk FS US) {o : Operand} {t : TypeId} {x : TV} (hv : E.cell1 P t o = some x) :
    ∃ U, cellX w a E blk x (a.eval o) [] U ∧ (∀ b ∈ U, ∃ r, b ∈ US r) ∧ (x.isJunk = false → (a.eval o).cells = #[a.eval o]) := by
  unfold St.cell1 at hv
  split at hv
  · rename_i y hy
    injection hv with hv
    subst hv
    obtain ⟨U, h1, h2⟩ := val_rel h hy
    simp only [svX] at h1
    exact ⟨U, h1.1, h2, h1.2⟩
  · cases hv

theorem cell1_int (h : Rel w0 FA UA N w a E blk FS US) {o : Operand} {t : TypeId} {k : IntKind} {n : Int} (hv : E.cell1 P t o = some (.int k n)) : a.eval o = .int k n := by
  obtain ⟨U, h1, _⟩ := cell1_rel h hv
  simp only [cellX, rep] at h1
  exact h1.1
theorem cell1_str (h : Rel w0 FA UA N w a E blk FS US) {o : Operand} {t : TypeId} {s : ByteArray} (hv : E.cell1 P t o = some (.str s)) : a.eval o = .string s := by
  obtain ⟨U, h1, _⟩ := cell1_rel h hv
  simp only [cellX, rep] at h1
  exact h1.1
theorem cell1_bool (h : Rel w0 FA UA N w a E blk FS US) {o : Operand} {t : TypeId} {b : Bool} (hv : E.cell1 P t o = some (.bool b)) : a.eval o = .bool b := by
  obtain ⟨U, h1, _⟩ := cell1_rel h hv
  simp only [cellX, rep] at h1
  exact h1.1
theorem cell1_toV (h : Rel w0 FA UA N w a E blk FS US) {o : Operand} {t : TypeId} {x : TV} {z : Value} (hv : E.cell1 P t o = some x) (hx : x.toV = some z) : a.eval o = z := by
  cases x <;> simp only [TV.toV, Option.some.injEq, reduceCtorEq] at hx <;> subst hx
  · exact cell1_int h hv
  · exact cell1_bool h hv
  · exact cell1_str h hv

/-- A pointer operand: its address. -/
theorem ptr_rel (h : Rel w0 FA UA N w a E blk FS US) {o : Operand} {r : Root} {q : List Nat} {j : Nat} (hv : E.ptr? o = some (r, q, j)) : (E.place r q j).isSome = true ∧ ∃ ad, pa w a blk r q j = some ad ∧ a.eval o = .pointer (some ad) := by
  unfold St.ptr? at hv
  split at hv
  · rename_i n
    split at hv
    · rename_i r' v q' j' hs
      split at hv
      · rename_i he
        simp only [Option.some.injEq, Prod.mk.injEq] at hv
        obtain ⟨rfl, rfl, rfl⟩ := hv
        have := h.slot n
        rw [hs] at this
        simp only [svX, cellX] at this
        exact this.1.2.2.2 he
      · cases hv
    · cases hv
  · cases hv

/-- A slice operand: the header at its place. -/
theorem ref_rel (h : Rel w0 FA UA N w a E blk FS US) {o : Operand} {r : Root} {q : List Nat} {j : Nat} (hv : E.ref o = some (r, q, j)) : pv w a blk r q j = some (a.eval o) := by
  unfold St.ref at hv
  split at hv
  · rename_i n
    split at hv
    · rename_i e1 e2 e3 e4 hs
      simp only [Option.some.injEq, Prod.mk.injEq] at hv
      obtain ⟨rfl, rfl, rfl⟩ := hv
      have := h.slot n
      rw [hs] at this
      simp only [svX] at this
      simp [pv, rootCell, this.2 rfl]
    · rename_i r' v q' j' hs
      split at hv
      · rename_i he
        simp only [Option.some.injEq, Prod.mk.injEq] at hv
        obtain ⟨rfl, rfl, rfl⟩ := hv
        have := h.slot n
        rw [hs] at this
        simp only [svX, cellX] at this
        exact (this.1.2.2.2 he).1
      · cases hv
    · cases hv
  · cases hv

/-- The slice at a place. -/
theorem place_sl (h : Rel w0 FA UA N w a E blk FS US) {r : Root} {q : List Nat} {j : Nat} {v : Value} {o : Bool} {e sz : Nat} {cells : List TV} (hp : E.place r q j = some (.sl o e sz cells)) (hv : pv w a blk r q j = some v) :
    ∃ F U, rep w (.sl o e sz cells) v F U ∧ (∀ b ∈ F, b ∈ FS r) ∧ (∀ b ∈ U, b ∈ US r) := by
  unfold St.place at hp
  obtain ⟨cs, hr, hp⟩ := Option.bind_eq_some_iff.1 hp
  obtain ⟨row, hc, hj⟩ := Option.bind_eq_some_iff.1 hp
  cases q with
  | nil =>
    simp only [cont, Option.some.injEq] at hc
    subst hc
    obtain ⟨v', F1, U1, h1, h2, h3, h4⟩ := root_sl h hr hj
    simp only [pv] at hv
    rw [h1] at hv
    injection hv with hv
    subst hv
    exact ⟨F1, U1, h2, h3, h4⟩
  | cons c q =>
    obtain ⟨rvs, F1, U1, h1, h2, h3, hv0, h4, h5⟩ := place_path h hr hc
    obtain ⟨v', A, B, C, D, F2, U2, h6, h7, rfl, rfl, _⟩ := reps_get j h1 hj
    obtain ⟨ad, hk⟩ := h5 j v' h6
    obtain ⟨h8, h9⟩ := hk w (fun _ _ => rfl) (fun _ _ => rfl)
    simp only [pv, h4, Option.bind_some, h8, h9, Option.some.injEq] at hv
    subst hv
    exact ⟨F2, U2, h7, fun b hb => h2 b (by simp [hb]), fun b hb => h3 b (by simp [hb])⟩

/-- A slice value's form. -/
theorem rep_sl_form {o : Bool} {e sz : Nat} {cells : List TV} {v : Value} {F U : List Nat} (h : rep w (.sl o e sz cells) v F U) :
    ∃ A n c, v = .slice A n c ∧ n * sz = cells.length ∧ (0 < cells.length → ∃ ad, A = some ad) := by
  cases o
  · simp only [rep] at h
    obtain ⟨A, n, c, vs, U', rfl, hn, hl, hrd, hr, _, _⟩ := h
    have := reps_len hr
    refine ⟨A, n, c, rfl, by omega, fun hp => ?_⟩
    have h0 : 0 < vs.length := by omega
    obtain ⟨ad, m, k, he, _⟩ := hrd 0 _ (List.getElem?_eq_getElem h0)
    injection he with he
    exact ⟨ad, he⟩
  · simp only [rep] at h
    obtain ⟨n, vs, F', ho, hr, _⟩ := h
    have := reps_len hr
    have h2 := ho.1
    rcases ho.2 with ⟨rfl, rfl⟩ | ⟨g, cap, cur, rfl, _⟩
    · refine ⟨none, 0, 0, rfl, by omega, fun hp => ?_⟩
      simp at h2
      subst h2
      simp at this
      simp [← this] at hp
    · exact ⟨_, n, cap, rfl, by omega, fun _ => ⟨_, rfl⟩⟩
end
end Go.TI
