/- An interpreter of loaded Go code on trees, for every program: a new variable. No condition; no program is in sight. -/
import Derived.Test.YtngfcadblnecpaaTIq
namespace Go.TI
open Go Go.RowKit
set_option linter.unusedSimpArgs false
set_option linter.unusedVariables false

section
variable {w0 : World} {FA UA : List Nat} {N : Nat} {w : World} {a : Act} {E : St} {blk : Root → Nat} {FS US : Root → List Nat} {P : Program}

/-- A root whose blocks stand as they stood. -/
theorem steady_world (h : Rel w0 FA UA N w a E blk FS US) {w' : World} {a' : Act} {E' : St} {blk' : Root → Nat} {s : Root} (hver : E'.ver s = E.ver s) (hgen : E'.gen s = E.gen s) (hroot : E'.root s = E.root s)
    (hcell : ∀ c u, rootCell w a blk s c = some u → rootCell w' a' blk' s c = some u) (hblk : s.mem = true → blk' s = blk s)
    (hF : ∀ b ∈ FS s, w'.heap[b]? = w.heap[b]?) (hU : ∀ b ∈ US s, w'.heap[b]? = w.heap[b]?) : Steady w w' a a' E E' blk blk' s := by
  have hpl : ∀ q j, E'.place s q j = E.place s q j := fun q j => by simp only [St.place, hroot]
  have hpa : ∀ q j ad, pa w a blk s q j = some ad → (E.place s q j).isSome = true → pa w' a' blk' s q j = some ad := ?_
  refine ⟨.inr ⟨hver, fun q j v hv hs => ⟨?_, by rw [hpl]; exact hs⟩, fun q j ad _ hv hs => ⟨hpa q j ad hv hs, by rw [hpl]; exact hs⟩⟩, .inr ⟨hgen, fun j ad hv hs => ⟨hpa [] j ad hv hs, by rw [hpl]; exact hs⟩⟩⟩
  · cases q with
    | nil => exact hcell j v hv
    | cons c q =>
      unfold St.place at hs
      cases hr : E.root s with
      | none => simp [hr, isSlO] at hs
      | some cs =>
        rw [hr] at hs
        simp only [Option.bind_some] at hs
        cases hc : cont cs (c :: q) with
        | none => simp [hc, isSlO] at hs
        | some row =>
          rw [hc] at hs
          simp only [Option.bind_some] at hs
          obtain ⟨rvs, F1, U1, h1, h2, h3, hv0, h4, h5⟩ := place_path h hr hc
          cases hj : row[j]? with
          | none => simp [hj, isSlO] at hs
          | some t =>
            have hl := reps_len h1
            have hjl := (List.getElem?_eq_some_iff.1 hj).1
            obtain ⟨ad, hk⟩ := h5 j _ (List.getElem?_eq_getElem (by omega))
            obtain ⟨k1, k2⟩ := hk w (fun _ _ => rfl) (fun _ _ => rfl)
            obtain ⟨k3, k4⟩ := hk w' hF hU
            simp only [pv, h4, Option.bind_some, k1, k2] at hv
            simp only [pv, hcell c hv0 h4, Option.bind_some, k3, k4]
            exact hv
  · intro q j ad hv hs
    cases q with
    | nil =>
      simp only [pa] at hv ⊢
      cases s with
      | slot n => cases hv
      | box n => simp only [hblk rfl]; exact hv
      | ext n => simp only [hblk rfl]; exact hv
      | hand => cases hv
    | cons c q =>
      unfold St.place at hs
      cases hr : E.root s with
      | none => simp [hr] at hs
      | some cs =>
        rw [hr] at hs
        simp only [Option.bind_some] at hs
        cases hc : cont cs (c :: q) with
        | none => simp [hc] at hs
        | some row =>
          rw [hc] at hs
          simp only [Option.bind_some] at hs
          obtain ⟨rvs, F1, U1, h1, h2, h3, hv0, h4, h5⟩ := place_path h hr hc
          cases hj : row[j]? with
          | none => simp [hj] at hs
          | some t =>
            have hl := reps_len h1
            have hjl := (List.getElem?_eq_some_iff.1 hj).1
            obtain ⟨ad', hk⟩ := h5 j _ (List.getElem?_eq_getElem (by omega))
            obtain ⟨k1, k2⟩ := hk w (fun _ _ => rfl) (fun _ _ => rfl)
            obtain ⟨k3, k4⟩ := hk w' hF hU
            simp only [pa, h4, Option.bind_some, k1] at hv
            simp only [pa, hcell c hv0 h4, Option.bind_some, k3]
            exact hv

/-- The cells of a root in memory lie in its block. -/
theorem rootCell_world {w' : World} {a' : Act} {blk' : Root → Nat} {s : Root} (hsl : ∀ n, s = .slot n → a'.eval (.tmp n) = a.eval (.tmp n)) (hblk : s.mem = true → blk' s = blk s ∧ w'.heap[blk s]? = w.heap[blk s]?) (hh : s ≠ .hand) (c : Nat) (u : Value) :
    rootCell w a blk s c = some u → rootCell w' a' blk' s c = some u := by
  cases s with
  | slot n => simp only [rootCell, hsl n rfl]; exact id
  | box n =>
    obtain ⟨h1, h2⟩ := hblk rfl
    simp only [rootCell, h1]
    intro h
    rw [← h]
    exact World.cell?_of_block (by rw [add_block]; exact h2)
  | ext n =>
    obtain ⟨h1, h2⟩ := hblk rfl
    simp only [rootCell, h1]
    intro h
    rw [← h]
    exact World.cell?_of_block (by rw [add_block]; exact h2)
  | hand => exact absurd rfl hh

theorem steady_none {w w' : World} {a a' : Act} {E E' : St} {blk blk' : Root → Nat} {s : Root} (hver : E'.ver s = E.ver s) (hgen : E'.gen s = E.gen s) (hr : E.root s = none) : Steady w w' a a' E E' blk blk' s := by
  refine ⟨.inr ⟨hver, fun q j v hv hs => ?_, fun q j ad _ hv hs => ?_⟩, .inr ⟨hgen, fun j ad hv hs => ?_⟩⟩
  · simp [St.place, hr, isSlO] at hs
  · simp [St.place, hr] at hs
  · simp [St.place, hr] at hs

/-- All roots but those that are turned stand, when only blocks of those are turned. -/
theorem steady_other (h : Rel w0 FA UA N w a E blk FS US) {w' : World} {a' : Act} {E' : St} {blk' : Root → Nat} {s : Root} (hver : E'.ver s = E.ver s) (hgen : E'.gen s = E.gen s) (hroot : E'.root s = E.root s)
    (hsl : ∀ n, s = .slot n → a'.eval (.tmp n) = a.eval (.tmp n)) (hblk : s.mem = true → blk' s = blk s)
    (hF : ∀ b ∈ FS s, w'.heap[b]? = w.heap[b]?) (hU : ∀ b ∈ US s, w'.heap[b]? = w.heap[b]?) : Steady w w' a a' E E' blk blk' s := by
  by_cases hh : s = .hand
  · subst hh; exact steady_none hver hgen (by simp [St.root, h.nohand])
  · by_cases hm : s.mem = true
    · cases hb : E.boxes s with
      | none =>
        have hr : E.root s = none := by cases s <;> simp_all [St.root, Root.mem]
        exact steady_none hver hgen hr
      | some cs =>
        refine steady_world h hver hgen hroot (rootCell_world hsl (fun _ => ⟨hblk hm, ?_⟩) hh) hblk hF hU
        rcases h.box s hm with ⟨h1, _⟩ | ⟨cs', cur, T, F, _, _, _, h4⟩
        · rw [h1] at hb; cases hb
        · exact hF _ (by rw [h4]; exact List.mem_cons_self)
    · exact steady_world h hver hgen hroot (rootCell_world hsl (fun e => absurd e hm) hh) (fun e => absurd e hm) hF hU

/-- A new variable in memory, filled out of the hand. -/
def St.newBox (E : St) (d : Nat) (xs : List TV) : St :=
  let E1 : St := { E with boxes := upd E.boxes (.box d) (some xs), ver := upd E.ver (.box d) (E.ver (.box d) + 1), gen := upd E.gen (.box d) (E.gen (.box d) + 1) }
  E1.put (some d) (.one (.ptr (.box d) (E1.gen (.box d)) [] 0))

theorem Rel.newBox (h : Rel w0 FA UA N w a E blk FS US) {d : Nat} {xs : List TV} {vs : List Value} {T : TypeId} (hd : d < N) (hxs : xs ≠ []) (hr : reps w xs vs (FS .hand) (US .hand)) :
    ∃ blk' FS' US', Rel w0 FA UA N (w.alloc (.cells vs.toArray T)) (a.put (some d) (.pointer (some ⟨w.heap.size, 0, none⟩))) (E.newBox d xs) blk' FS' US' ∧ FS' .hand = [] ∧ US' .hand = [] := by
  let E1 : St := { E with boxes := upd E.boxes (.box d) (some xs), ver := upd E.ver (.box d) (E.ver (.box d) + 1), gen := upd E.gen (.box d) (E.gen (.box d) + 1) }
  let blk1 := upd blk (.box d) w.heap.size
  let w1 := w.alloc (.cells vs.toArray T)
  have hsz : w1.heap.size = w.heap.size + 1 := by simp [w1]
  have hnew : w1.heap[w.heap.size]? = some (.cells vs.toArray T (0, 0)) := by
    show (w.heap.push _)[w.heap.size]? = _
    simp
  have hold : ∀ b, b < w.heap.size → w1.heap[b]? = w.heap[b]? := fun b hb => Below.heap_alloc _ _ _ hb
  have hne : Root.box d ≠ Root.hand := by simp
  have hst : ∀ s, Steady w w1 a a E E1 blk blk1 s := by
    intro s
    by_cases hs : s = .box d
    · subst hs
      exact ⟨.inl (by simp [E1, upd]), .inl (by simp [E1, upd])⟩
    · have hv : E1.ver s = E.ver s := by simp [E1, upd, hs]
      have hg : E1.gen s = E.gen s := by simp [E1, upd, hs]
      refine steady_other h hv hg ?_ (fun _ _ => rfl) (fun _ => by simp [blk1, upd, hs]) (fun b hb => hold b (h.inF s b hb).2) (fun b hb => hold b (h.inU s b hb).2)
      cases s <;> simp_all [E1, St.root, upd]
  have hlt : ∀ b ∈ FS .hand, b < w.heap.size := fun b hb => (h.inF .hand b hb).2
  have hltU : ∀ b ∈ US .hand, b < w.heap.size := fun b hb => (h.inU .hand b hb).2
  have h1 := h.two (w' := w1) (a' := a) (E' := E1) (blk' := blk1) (r1 := .box d) (r2 := .hand) (L1 := w.heap.size :: FS .hand) (L2 := []) (V1 := US .hand) (V2 := []) hne
    (by
      simp only [List.append_nil, List.nodup_cons]
      exact ⟨fun e => Nat.lt_irrefl _ (hlt _ e), h.nodup _⟩)
    (by
      intro b hb
      simp only [List.append_nil, List.mem_cons] at hb
      rcases hb with rfl | hb
      · exact ⟨.inr (.inr (Nat.le_refl _)), by omega⟩
      · exact ⟨.inr (.inl hb), by have := hlt b hb; omega⟩)
    (by
      intro b hb
      simp only [List.append_nil] at hb
      exact .inl ⟨_, hb⟩)
    (by omega) rfl rfl rfl (fun b hb _ _ => hold b hb) hst
    (fun n _ _ => ⟨rfl, rfl⟩)
    (fun s _ hs _ => ⟨by simp [E1, upd, hs], by simp [blk1, upd, hs]⟩)
    (by
      refine .inr ⟨xs, vs.toArray, T, FS .hand, by simp [E1, upd], by simp [blk1, upd, hnew], ?_, by simp [blk1, upd]⟩
      simpa using reps_move hr (fun b hb => hold b (hlt b hb)) (fun b hb => hold b (hltU b hb)))
    trivial (by simp [E1, upd, h.nohand]) h.len h.nodef
  have hs2 : svX w1 a E1 blk1 (.one (.ptr (.box d) (E1.gen (.box d)) [] 0)) (.pointer (some ⟨w.heap.size, 0, none⟩)) [] [] := by
    have hstp : E1.stamp (.box d) [] = E1.gen (.box d) := rfl
    rw [← hstp]
    refine one_ptr ?_ ?_
    · cases xs with
      | nil => exact absurd rfl hxs
      | cons x xs => simp [St.place, St.root, E1, upd, cont]
    · simp [pa, blk1, upd, Addr.add]
  have h2 := h1.put (d := d) hd hs2 Fits.none
  refine ⟨blk1, _, _, h2, ?_, ?_⟩
  · rw [upd_ne (by simp), upd_eq]
  · rw [upd_ne (by simp), upd_eq]
end
end Go.TI
