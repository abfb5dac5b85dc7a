/- An interpreter of loaded Go code on trees, for every program: values are taken; a new array. No condition; no program is in sight. -/
import Derived.Test.YtngfcadblnecpaaTIr
namespace Go.TI
open Go Go.RowKit
set_option linter.unusedSimpArgs false
set_option linter.unusedVariables false

def SV.plain : SV → Bool
  | .one .junk => false
  | .tup _ => false
  | _ => true

/-- A copied value, for memory. -/
def takeSV (E : St) (s : SV) : Option (List TV × St) := if s.plain = true then takeCells E s.cells else none

section
variable {w0 : World} {FA UA : List Nat} {N : Nat} {w : World} {a : Act} {E : St} {blk : Root → Nat} {FS US : Root → List Nat} {P : Program}

theorem sv_cells {s : SV} {v : Value} {U : List Nat} (h : svX w a E blk s v [] U) (hp : s.plain = true) : cellsX w a E blk s.cells v.cells.toList [] U := by
  cases s with
  | one t =>
    simp only [svX] at h
    have hj : t.isJunk = false := by cases t <;> first | rfl | cases hp
    rw [h.2 hj]
    exact ⟨v, [], [], [], U, [], rfl, rfl, by simp, h.1, rfl, rfl, rfl⟩
  | agg cs =>
    simp only [svX] at h
    obtain ⟨vs, rfl, hc⟩ := h
    simpa [Value.cells, SV.cells] using hc
  | tup ss => cases hp

theorem takeSV_rel (h : Rel w0 FA UA N w a E blk FS US) {s : SV} {v : Value} {U : List Nat} {xs : List TV} {E' : St} (hs : svX w a E blk s v [] U) (hU : ∀ b ∈ U, ∃ r, b ∈ US r) (ht : takeSV E s = some (xs, E')) :
    ∃ FS' US' F1 U1, reps w xs v.cells.toList F1 U1 ∧ Rel w0 FA UA N w a E' blk FS' US' ∧ FS' .hand = FS .hand ++ F1 ∧ US' .hand = US .hand ++ U1 ∧ (∀ s, Steady w w a a E E' blk blk s) ∧ (∀ s b, b ∈ US s → ∃ s', b ∈ US' s') := by
  unfold takeSV at ht
  split at ht
  · rename_i hp
    exact takeCells_rel h (sv_cells hs hp) hU ht
  · cases ht

theorem steady_putw (h : Rel w0 FA UA N w a E blk FS US) {w' : World} {d : Nat} {s : SV} {v : Value} (hk : ∀ r, r ≠ .slot d → (∀ b ∈ FS r, w'.heap[b]? = w.heap[b]?) ∧ ∀ b ∈ US r, w'.heap[b]? = w.heap[b]?) (r : Root) :
    Steady w w' a (a.put (some d) v) E (E.put (some d) s) blk blk r := by
  by_cases hr : r = .slot d
  · subst hr
    exact ⟨.inl (by rw [put_ver_eq]; omega), .inr ⟨by rw [put_gen], fun j ad h1 _ => by simp [pa] at h1⟩⟩
  · exact steady_other h (put_ver hr) (by rw [put_gen]) (put_root hr) (fun n hn => eval_put_ne (fun e => hr (by rw [hn, e]))) (fun _ => rfl) (hk r hr).1 (hk r hr).2

/-- A new array, filled out of the hand. -/
theorem Rel.newRow (h : Rel w0 FA UA N w a E blk FS US) {d : Nat} {xs : List TV} {vs : List Value} {e sz n : Nat} (hd : d < N) (hr : reps w xs vs (FS .hand) (US .hand)) (hn : xs.length = n * sz) (hm : n ≤ maxLen) :
    ∃ FS' US', Rel w0 FA UA N (w.alloc (.cells vs.toArray e)) (a.put (some d) (.slice (some ⟨w.heap.size, 0, none⟩) n n)) (E.put (some d) (.one (.sl true e sz xs))) blk FS' US' ∧ FS' .hand = [] ∧ US' .hand = [] := by
  let w1 := w.alloc (.cells vs.toArray e)
  have hsz : w1.heap.size = w.heap.size + 1 := by simp [w1]
  have hnew : w1.heap[w.heap.size]? = some (.cells vs.toArray e (0, 0)) := by
    show (w.heap.push _)[w.heap.size]? = _
    simp
  have hold : ∀ b, b < w.heap.size → w1.heap[b]? = w.heap[b]? := fun b hb => Below.heap_alloc _ _ _ hb
  have hlt : ∀ b ∈ FS .hand, b < w.heap.size := fun b hb => (h.inF .hand b hb).2
  have hltU : ∀ b ∈ US .hand, b < w.heap.size := fun b hb => (h.inU .hand b hb).2
  have hl := reps_len hr
  have hst := steady_putw (w' := w1) h (d := d) (s := .one (.sl true e sz xs)) (v := .slice (some ⟨w.heap.size, 0, none⟩) n n) (fun r _ => ⟨fun b hb => hold b (h.inF r b hb).2, fun b hb => hold b (h.inU r b hb).2⟩)
  have h1 := h.two (w' := w1) (a' := a.put (some d) (.slice (some ⟨w.heap.size, 0, none⟩) n n)) (E' := E.put (some d) (.one (.sl true e sz xs))) (blk' := blk) (r1 := .slot d) (r2 := .hand) (L1 := w.heap.size :: FS .hand) (L2 := []) (V1 := US .hand) (V2 := []) (by simp)
    (by
      simp only [List.append_nil, List.nodup_cons]
      exact ⟨fun e => Nat.lt_irrefl _ (hlt _ e), h.nodup _⟩)
    (by
      intro b hb
      simp only [List.append_nil, List.mem_cons] at hb
      rcases hb with rfl | hb
      · exact ⟨.inr (.inr (Nat.le_refl _)), by omega⟩
      · exact ⟨.inr (.inl hb), by have := hlt b hb; omega⟩)
    (by
      intro b hb
      simp only [List.append_nil] at hb
      exact .inl ⟨_, hb⟩)
    (by omega) rfl rfl rfl (fun b hb _ _ => hold b hb) hst
    (fun m hm1 _ => by
      have hmd : m ≠ d := fun e => hm1 (by rw [e])
      exact ⟨by simp [St.put, upd, hmd], eval_put_ne hmd⟩)
    (fun s hm hs _ => ⟨rfl, rfl⟩)
    (by
      have hev : (a.put (some d) (.slice (some ⟨w.heap.size, 0, none⟩) n n)).eval (.tmp d) = .slice (some ⟨w.heap.size, 0, none⟩) n n := eval_put_eq (Nat.lt_of_lt_of_le hd h.len)
      have hsl : (E.put (some d) (.one (.sl true e sz xs))).slots d = .one (.sl true e sz xs) := by simp [St.put, upd]
      simp only [rootOk, hev, hsl, svX, cellX, rep]
      refine ⟨⟨n, vs, FS .hand, ⟨by omega, .inr ⟨w.heap.size, n, vs.toArray, rfl, Nat.zero_le _, hnew, Nat.le_refl _, hm, by simp; omega, ?_⟩⟩, reps_move hr (fun b hb => hold b (hlt b hb)) (fun b hb => hold b (hltU b hb)), by simp [blkOf, Value.ownBlock]⟩, fun _ => rfl⟩
      rw [List.take_of_length_le (by simp; omega)])
    trivial h.nohand (by rw [put_size]; exact h.len) (by rw [put_defers]; exact h.nodef)
  refine ⟨_, _, h1, ?_, ?_⟩
  · rw [upd_eq]
  · rw [upd_eq]

/-- What a step comes to. -/
def Done (P : Program) (w0 : World) (FA UA : List Nat) (N : Nat) (w : World) (a : Act) (o : Oper) (E' : St) : Prop :=
  ∃ nx w' v blk' FS' US', (execOp a.eval o).run P w = .ok nx w' ∧ (nx = .value v ∨ nx = .skip ∧ v = undef) ∧ Rel w0 FA UA N w' (a.put o.dst v) E' blk' FS' US' ∧ FS' .hand = [] ∧ US' .hand = []

end
end Go.TI
