/- A value that a claim's reading opens is a tree that is only read. No condition; no program is in sight. -/
import Derived.Test.YtngfcadblnecpaaTIC
import Derived.Deep.Slices
import Derived.ChangeOld
import Derived.DataReads
namespace Go.TI
open Go Go.RowKit
set_option linter.unusedSimpArgs false
set_option linter.unusedVariables false

/-- What a reading opens at a type is a thing of this kind. -/
def Opens (P : Program) (t : TypeId) {α : Type} (c : α → List TV) (o : α → Prop) : Prop :=
  ∀ {H : Type} (enc : TypeId × Value → H) (w : World) (base : Nat) (fuel : Nat) (cs : List Value) (x : DataW H × List MemPlace), DataW.trod enc P w base (fun _ => true) true fuel t cs = some x →
    ∃ a U, o a ∧ reps w (c a) cs [] U ∧ ∀ b ∈ U, b < w.heap.size

section
variable {P : Program}
theorem reps_one_mk {w : World} {t : TV} {v : Value} {F U : List Nat} (h : rep w t v F U) : reps w [t] [v] F U := by
  simp only [reps]
  exact ⟨v, [], F, [], U, [], rfl, by simp, by simp, h, rfl, rfl, rfl⟩

theorem opens_int {t : TypeId} {k : IntKind} (ht : P.underlying t = some (.int k)) : Opens P t (fun n : Int => [.int k n]) (fun n => k.min ≤ n ∧ n ≤ k.max) := by
  intro H enc w base fuel cs x h
  cases fuel with
  | zero => simp [DataW.trod] at h
  | succ fuel =>
    simp only [DataW.trod, ht] at h
    split at h <;> rename_i h1 <;> try (first | (injection h1 with h1; cases h1; done) | (cases h1; done))
    all_goals first | (cases h; done) | skip
    rename_i k' n
    split at h
    · rename_i hk
      simp only [Option.some.injEq, TypeDesc.int.injEq] at h1
      subst h1
      obtain ⟨rfl, hw⟩ := hk
      simp only [Lit.wf, Bool.and_eq_true, decide_eq_true_eq] at hw
      exact ⟨n, [], hw, reps_one_mk (by simp [rep]), by simp⟩
    · cases h
theorem opens_bool {t : TypeId} (ht : P.underlying t = some .bool) : Opens P t (fun b : Bool => [.bool b]) (fun _ => True) := by
  intro H enc w base fuel cs x h
  cases fuel with
  | zero => simp [DataW.trod] at h
  | succ fuel =>
    simp only [DataW.trod, ht] at h
    split at h <;> rename_i h1 <;> try (first | (injection h1 with h1; cases h1; done) | (cases h1; done))
    all_goals first | (cases h; done) | skip
    rename_i b
    exact ⟨b, [], trivial, reps_one_mk (by simp [rep]), by simp⟩
theorem opens_string {t : TypeId} (ht : P.underlying t = some .string) : Opens P t (fun s : ByteArray => [.str s]) (fun s => s.size ≤ 9223372036854775807) := by
  intro H enc w base fuel cs x h
  cases fuel with
  | zero => simp [DataW.trod] at h
  | succ fuel =>
    simp only [DataW.trod, ht] at h
    split at h <;> rename_i h1 <;> try (first | (injection h1 with h1; cases h1; done) | (cases h1; done))
    all_goals first | (cases h; done) | skip
    rename_i s
    split at h
    · rename_i hs
      exact ⟨s, [], by simpa [maxLen] using hs, reps_one_mk (by simp [rep]), by simp⟩
    · cases h

theorem reps_split_mk {w : World} {ts us : List TV} {vs xs : List Value} {F U G V : List Nat} (h : reps w ts vs F U) (k : reps w us xs G V) : reps w (ts ++ us) (vs ++ xs) (F ++ G) (U ++ V) := reps_append h k

theorem opens_slice {t e : TypeId} {sz : Nat} {α : Type} {c : α → List TV} {o : α → Prop} (ht : P.underlying t = some (.slice e)) (hsz : P.cellsOf e = sz) (h0 : 0 < sz) (hc : ∀ a, (c a).length = sz) (h : Opens P e c o) :
    Opens P t (fun l : List α => [.sl false e sz (encs c l)]) (fun l => l.length ≤ 9223372036854775807 ∧ ∀ a ∈ l, o a) := by
  intro H enc w base fuel cs x hx
  rcases Go.Deep.open_slice ht hx with ⟨rfl, _⟩ | ⟨a, len, cap, m, n, D, Pl, rfl, hb, hlc, hcm, hm, _, hel⟩
  · refine ⟨[], [], ⟨by simp, by simp⟩, reps_one_mk ?_, by simp⟩
    simp only [rep]
    exact ⟨none, 0, 0, [], [], [], rfl, Nat.le_refl _, by simp, fun i u hi => by simp at hi, by simp [encs, reps], by simp, by simp, by simp⟩
  · simp only [if_true] at hm
    have key : ∀ k, k ≤ len → ∃ (l : List α) (vs : List Value) (U : List Nat), l.length = k ∧ (∀ a ∈ l, o a) ∧ vs.length = k * sz ∧ reps w (encs c l) vs [] U ∧ (∀ i u, vs[i]? = some u → w.cell? (a.add i) = some u) ∧ ∀ b ∈ U, b < w.heap.size := by
      intro k
      induction k with
      | zero => intro _; exact ⟨[], [], [], rfl, by simp, by simp, by simp [encs, reps], by simp, by simp⟩
      | succ k ih =>
        intro hk
        obtain ⟨l, vs, U, h1, h2, h3, h4, h5, h6⟩ := ih (by omega)
        obtain ⟨cs', k1, k2⟩ := hel k (by omega)
        obtain ⟨y, V, g1, g2, g3⟩ := h enc w base n cs' _ k2
        obtain ⟨_, k3, k4⟩ := World.cells?_some k1
        rw [hsz] at k1 k3 k4
        refine ⟨l ++ [y], vs ++ cs', U ++ V, by simp [h1], ?_, ?_, ?_, ?_, ?_⟩
        · intro a ha
          rcases List.mem_append.1 ha with ha | ha
          · exact h2 a ha
          · rw [List.mem_singleton.1 ha]; exact g1
        · rw [List.length_append, h3, k3, Nat.succ_mul]
        · rw [encs_append]
          have := reps_append h4 (show reps w (encs c [y]) cs' [] V by simpa [encs] using g2)
          simpa using this
        · intro i u hi
          by_cases hlt : i < vs.length
          · rw [List.getElem?_append_left hlt] at hi
            exact h5 i u hi
          · rw [List.getElem?_append_right (by omega)] at hi
            have hlt2 : i - vs.length < sz := by
              have := (List.getElem?_eq_some_iff.1 hi).1
              omega
            have := k4 (i - vs.length) hlt2
            rw [hi, TI.add_add] at this
            rw [← this]
            congr 2
            omega
        · intro b hb
          rcases List.mem_append.1 hb with hb | hb
          · exact h6 b hb
          · exact g3 b hb
    obtain ⟨l, vs, U, h1, h2, h3, h4, h5, h6⟩ := key len (Nat.le_refl _)
    have hlm : len ≤ 9223372036854775807 := by simp only [maxLen] at hcm; omega
    by_cases hl0 : len = 0
    · subst hl0
      have : vs = [] := List.eq_nil_of_length_eq_zero (by omega)
      subst this
      refine ⟨l, U, ⟨by omega, h2⟩, reps_one_mk ?_, h6⟩
      simp only [rep]
      exact ⟨some a, 0, cap, [], U, [], rfl, hlc, by simp, fun i u hi => by simp at hi, h4, by simp, by simp, by simp⟩
    · have hblk : a.block < w.heap.size := by
        obtain ⟨cs', k1, _⟩ := hel 0 (by omega)
        have := World.cells?_block k1 (by omega)
        rwa [add_block] at this
      refine ⟨l, a.block :: U, ⟨by omega, h2⟩, reps_one_mk ?_, ?_⟩
      · simp only [rep]
        exact ⟨some a, len, cap, vs, U, [a.block], rfl, hlc, h3, fun i u hi => ⟨a, len, cap, rfl, h5 i u hi⟩, h4, by simp, .inl (by simp [blkOf, Value.ownBlock]), by simp⟩
      · intro b hb
        rcases List.mem_cons.1 hb with rfl | hb
        · exact hblk
        · exact h6 b hb

/-- Fields, one behind the other. -/
def OpensF (P : Program) (off : Nat) (fs : List Field) {α : Type} (c : α → List TV) (o : α → Prop) : Prop :=
  ∀ {H : Type} (enc : TypeId × Value → H) (w : World) (base : Nat) (fuel : Nat) (cs : List Value) (xs : List (DataW H × List MemPlace)), fs.mapM (fun f => DataW.trod enc P w base (fun _ => true) true fuel f.type ((cs.drop f.offset).take (P.cellsOf f.type))) = some xs → cs.length = off + (fs.map fun f => P.cellsOf f.type).sum →
    ∃ a U, o a ∧ reps w (c a) (cs.drop off) [] U ∧ ∀ b ∈ U, b < w.heap.size
theorem opensF_nil {off : Nat} : OpensF P off [] (fun _ : Unit => []) (fun _ => True) := by
  intro H enc w base fuel cs xs _ hl
  refine ⟨(), [], trivial, ?_, by simp⟩
  rw [List.drop_eq_nil_of_le (by simp at hl; omega)]
  simp [reps]
theorem opensF_cons {off n : Nat} {f : Field} {fs : List Field} {α β : Type} {c : α → List TV} {o : α → Prop} {c' : β → List TV} {o' : β → Prop} (hoff : f.offset = off) (hn : P.cellsOf f.type = n) (h : Opens P f.type c o) (k : OpensF P (off + n) fs c' o') :
    OpensF P off (f :: fs) (fun x : α × β => c x.1 ++ c' x.2) (fun x => o x.1 ∧ o' x.2) := by
  intro H enc w base fuel cs xs hxs hl
  rw [List.mapM_cons] at hxs
  obtain ⟨y, h1, hxs⟩ := Option.bind_eq_some_iff.1 hxs
  obtain ⟨ys, h2, hxs⟩ := Option.bind_eq_some_iff.1 hxs
  subst hoff hn
  obtain ⟨a, U, h3, h4, h5⟩ := h enc w base fuel _ y h1
  obtain ⟨b, V, k1, k2, k3⟩ := k enc w base fuel cs ys h2 (by simp only [List.map_cons, List.sum_cons] at hl; omega)
  refine ⟨(a, b), U ++ V, ⟨h3, k1⟩, ?_, ?_⟩
  · have := reps_append h4 k2
    rw [List.nil_append] at this
    rwa [← List.drop_drop, List.take_append_drop] at this
  · intro z hz
    rcases List.mem_append.1 hz with hz | hz
    · exact h5 z hz
    · exact k3 z hz
theorem opens_struct {t : TypeId} {fs : Array Field} {α β : Type} {c : α → List TV} {o : α → Prop} {c' : β → List TV} {o' : β → Prop} (g : β → α) (ht : P.underlying t = some (.struct fs)) (hn : P.cellsOf t = (fs.toList.map fun f => P.cellsOf f.type).sum) (h : OpensF P 0 fs.toList c' o') (hg : ∀ b, o' b → o (g b) ∧ c (g b) = c' b) : Opens P t c o := by
  intro H enc w base fuel cs x hx
  cases fuel with
  | zero => simp [DataW.trod] at hx
  | succ fuel =>
    simp only [DataW.trod, ht] at hx
    split at hx
    · rename_i hl
      obtain ⟨xs, hxs, _⟩ := Option.map_eq_some_iff.1 hx
      obtain ⟨b, U, h1, h2, h3⟩ := h enc w base fuel cs xs hxs (by rw [hl, hn]; simp)
      obtain ⟨h4, h5⟩ := hg b h1
      exact ⟨g b, U, h4, by rw [h5]; simpa using h2, h3⟩
    · cases hx

/-- An argument that is one cell. -/
theorem arg_one {t : TypeId} {α : Type} {u : α → TV} {o : α → Prop} {H : Type} {enc : TypeId × Value → H} {w : World} {v : Value} {d : DataW H} {ps : List MemPlace} (h : Opens P t (fun a => [u a]) o) (hv : v.cells = #[v]) (k : DataW.Trod enc P w 0 (fun _ => true) true t v d ps) :
    ∃ a U, o a ∧ svR w (.one (u a)) v [] U ∧ ∀ b ∈ U, b < w.heap.size := by
  obtain ⟨n, hn⟩ := k
  obtain ⟨a, U, h1, h2, h3⟩ := h enc w 0 n _ _ hn
  rw [hv] at h2
  simp only [reps] at h2
  obtain ⟨v', vs', F1, F2, U1, U2, e, hF, hU, h4, rfl, rfl, rfl⟩ := h2
  injection e with e _
  subst e
  obtain ⟨rfl, _⟩ := List.append_eq_nil_iff.1 hF.symm
  refine ⟨a, U1, h1, ?_, by simpa [hU] using h3⟩
  simp only [svR]
  exact ⟨h4, hv⟩
/-- An argument that is a struct. -/
theorem arg_agg {t : TypeId} {α : Type} {c : α → List TV} {o : α → Prop} {H : Type} {enc : TypeId × Value → H} {w : World} {v : Value} {cs : Array Value} {d : DataW H} {ps : List MemPlace} (h : Opens P t c o) (hv : v = .agg cs) (k : DataW.Trod enc P w 0 (fun _ => true) true t v d ps) :
    ∃ a U, o a ∧ svR w (.agg (c a)) v [] U ∧ ∀ b ∈ U, b < w.heap.size := by
  obtain ⟨n, hn⟩ := k
  obtain ⟨a, U, h1, h2, h3⟩ := h enc w 0 n _ _ hn
  subst hv
  refine ⟨a, U, h1, ?_, h3⟩
  simp only [svR]
  exact ⟨cs.toList, by simp, by simpa [Value.cells] using h2⟩

/-- A value of a type that is no struct and no array is one cell. -/
theorem one_cell {w : World} {r : Reach} {base : Nat} {t : TypeId} {v : Value} (h : Value.okWide P w r base t v) (h1 : ∀ fs, P.underlying t ≠ some (.struct fs)) (h2 : ∀ n e, P.underlying t ≠ some (.array n e)) : v.cells = #[v] := by
  unfold Value.okWide at h
  split at h
  · rename_i fs hfs; exact absurd hfs (h1 fs)
  · rename_i n e hne; exact absurd hne (h2 n e)
  · unfold Cell.okWide at h
    cases v <;> first | rfl | skip
    all_goals
      split at h <;> rename_i hv <;> first | (cases hv; done) | skip
      unfold Cell.ok at h
      split at h <;> first | (exact h.elim) | skip
    all_goals rename_i hv2; cases hv2
end
end Go.TI
