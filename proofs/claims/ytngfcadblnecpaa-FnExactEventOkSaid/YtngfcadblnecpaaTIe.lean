/- An interpreter of loaded Go code on trees, for every program: a slot is given a value. No condition; no program is in sight. -/
import Derived.Test.YtngfcadblnecpaaTId
namespace Go.TI
open Go Go.RowKit

theorem eval_put_eq {a : Act} {d : Nat} {v : Value} (h : d < a.tmps.size) : (a.put (some d) v).eval (.tmp d) = v := by
  simp [Act.put, Act.eval, Array.getD, h]
theorem eval_put_ne {a : Act} {d n : Nat} {v : Value} (h : n ≠ d) : (a.put (some d) v).eval (.tmp n) = a.eval (.tmp n) := by
  simp only [Act.put, Act.eval, Array.getD_eq_getD_getElem?, Array.getElem?_setIfInBounds]
  rw [if_neg (Ne.symm h)]
theorem put_size {a : Act} {d : Option Nat} {v : Value} : (a.put d v).tmps.size = a.tmps.size := by cases d <;> simp [Act.put]
theorem put_defers {a : Act} {d : Option Nat} {v : Value} : (a.put d v).defers = a.defers := by cases d <;> simp [Act.put]
theorem upd_eq {α β : Type} [DecidableEq α] (f : α → β) (x : α) (b : β) : upd f x b x = b := by simp [upd]
theorem upd_ne {α β : Type} [DecidableEq α] {f : α → β} {x y : α} {b : β} (h : y ≠ x) : upd f x b y = f y := by simp [upd, h]

theorem rootCell_put {w : World} {a : Act} {blk : Root → Nat} {d : Nat} {v : Value} {r : Root} (h : r ≠ .slot d) (c : Nat) : rootCell w (a.put (some d) v) blk r c = rootCell w a blk r c := by
  cases r with
  | slot n =>
    have : n ≠ d := fun e => h (by rw [e])
    simp only [rootCell]
    rw [eval_put_ne this]
  | box n => rfl
  | ext n => rfl
  | hand => rfl

theorem pv_congr {w : World} {a a' : Act} {blk blk' : Root → Nat} {r : Root} (h : ∀ c, rootCell w a' blk' r c = rootCell w a blk r c) (q : List Nat) (j : Nat) : pv w a' blk' r q j = pv w a blk r q j := by
  cases q with
  | nil => exact h j
  | cons c q => simp only [pv, h]
theorem pa_congr {w : World} {a a' : Act} {blk : Root → Nat} {r : Root} (h : ∀ c, rootCell w a' blk r c = rootCell w a blk r c) (q : List Nat) (j : Nat) : pa w a' blk r q j = pa w a blk r q j := by
  cases q with
  | nil => rfl
  | cons c q => simp only [pa, h]

theorem put_root {E : St} {d : Nat} {s : SV} {r : Root} (h : r ≠ .slot d) : (E.put (some d) s).root r = E.root r := by
  cases r with
  | slot n =>
    have : n ≠ d := fun e => h (by rw [e])
    simp [St.root, St.put, upd, this]
  | box n => rfl
  | ext n => rfl
  | hand => rfl
theorem put_ver {E : St} {d : Nat} {s : SV} {r : Root} (h : r ≠ .slot d) : (E.put (some d) s).ver r = E.ver r := by simp [St.put, upd, h]
theorem put_ver_eq {E : St} {d : Nat} {s : SV} : (E.put (some d) s).ver (.slot d) = E.ver (.slot d) + 1 := by simp [St.put, upd]

theorem put_gen {E : St} {d : Option Nat} {s : SV} : (E.put d s).gen = E.gen := by cases d <;> rfl
theorem steady_put {w : World} {a : Act} {E : St} {blk : Root → Nat} {d : Nat} {s : SV} {v : Value} (r : Root) : Steady w w a (a.put (some d) v) E (E.put (some d) s) blk blk r := by
  by_cases h : r = .slot d
  · subst h
    refine ⟨.inl (by rw [put_ver_eq]; omega), .inr ⟨by rw [put_gen], fun j ad h1 _ => ?_⟩⟩
    simp [pa] at h1
  · have hpl : ∀ q j, (E.put (some d) s).place r q j = E.place r q j := fun q j => by simp only [St.place, put_root h]
    refine ⟨.inr ⟨put_ver h, fun q j u h1 h2 => ?_, fun q j ad _ h1 h2 => ?_⟩, .inr ⟨by rw [put_gen], fun j ad h1 h2 => ?_⟩⟩
    · rw [pv_congr (rootCell_put h), hpl]
      exact ⟨h1, h2⟩
    · rw [pa_congr (rootCell_put h), hpl]
      exact ⟨h1, h2⟩
    · rw [pa_congr (rootCell_put h), hpl]
      exact ⟨h1, h2⟩

/-- What a slot may be given. -/
structure Fits (w0 : World) (FA UA : List Nat) (w : World) (FS US : Root → List Nat) (d : Root) (F U : List Nat) : Prop where
  nd : F.Nodup
  f1 : ∀ r, r ≠ d → ∀ b ∈ F, b ∉ FS r ∧ b ∉ US r
  fu : ∀ b ∈ F, b ∉ U
  u1 : ∀ r, r ≠ d → ∀ b ∈ U, b ∉ FS r
  inF : ∀ b ∈ F, (b ∈ FA ∨ w0.heap.size ≤ b) ∧ b < w.heap.size
  inU : ∀ b ∈ U, (b ∈ UA ∨ b ∈ FA ∨ w0.heap.size ≤ b) ∧ b < w.heap.size

theorem Fits.none {w0 : World} {FA UA : List Nat} {w : World} {FS US : Root → List Nat} {d : Root} : Fits w0 FA UA w FS US d [] [] :=
  ⟨List.nodup_nil, by simp, by simp, by simp, by simp, by simp⟩

theorem Rel.put {w0 : World} {FA UA : List Nat} {N : Nat} {w : World} {a : Act} {E : St} {blk : Root → Nat} {FS US : Root → List Nat} (h : Rel w0 FA UA N w a E blk FS US)
    {d : Nat} {s : SV} {v : Value} {F U : List Nat} (hd : d < N) (hs : svX w a E blk s v F U) (hf : Fits w0 FA UA w FS US (.slot d) F U) :
    Rel w0 FA UA N w (a.put (some d) v) (E.put (some d) s) blk (upd FS (.slot d) F) (upd US (.slot d) U) where
  slot := fun n => by
    by_cases hn : n = d
    · subst hn
      rw [eval_put_eq (Nat.lt_of_lt_of_le hd h.len), upd_eq, upd_eq]
      have : (E.put (some n) s).slots n = s := by simp [St.put, upd]
      rw [this]
      exact svX_step (fun r => steady_put r) hs (fun _ _ => rfl) (fun _ _ => rfl)
    · have hne : Root.slot n ≠ Root.slot d := fun e => hn (Root.slot.inj e)
      rw [eval_put_ne hn, upd_ne hne, upd_ne hne]
      have : (E.put (some d) s).slots n = E.slots n := by simp [St.put, upd, hn]
      rw [this]
      exact svX_step (fun r => steady_put r) (h.slot n) (fun _ _ => rfl) (fun _ _ => rfl)
  box := fun r hr => by
    have hne : r ≠ .slot d := by rintro rfl; cases hr
    rw [upd_ne hne, upd_ne hne]
    exact h.box r hr
  nohand := h.nohand
  nodup := fun r => by
    by_cases hr : r = .slot d
    · subst hr; rw [upd_eq]; exact hf.nd
    · rw [upd_ne hr]; exact h.nodup r
  dis := fun r s hrs b hb => by
    by_cases hr : r = .slot d
    · subst hr
      rw [upd_eq] at hb
      rw [upd_ne (Ne.symm hrs)]
      exact (hf.f1 s (Ne.symm hrs) b hb).1
    · rw [upd_ne hr] at hb
      by_cases hs : s = .slot d
      · subst hs
        rw [upd_eq]
        exact fun hb' => (hf.f1 r hr b hb').1 hb
      · rw [upd_ne hs]
        exact h.dis r s hrs b hb
  disU := fun r s b hb => by
    by_cases hr : r = .slot d
    · subst hr
      rw [upd_eq] at hb
      by_cases hs : s = .slot d
      · subst hs; rw [upd_eq]; exact hf.fu b hb
      · rw [upd_ne hs]; exact (hf.f1 s hs b hb).2
    · rw [upd_ne hr] at hb
      by_cases hs : s = .slot d
      · subst hs; rw [upd_eq]; exact fun hb' => hf.u1 r hr b hb' hb
      · rw [upd_ne hs]; exact h.disU r s b hb
  inF := fun r b hb => by
    by_cases hr : r = .slot d
    · subst hr; rw [upd_eq] at hb; exact hf.inF b hb
    · rw [upd_ne hr] at hb; exact h.inF r b hb
  inU := fun r b hb => by
    by_cases hr : r = .slot d
    · subst hr; rw [upd_eq] at hb; exact hf.inU b hb
    · rw [upd_ne hr] at hb; exact h.inU r b hb
  disA := h.disA
  os := h.os
  tape := h.tape
  output := h.output
  size := h.size
  keep := h.keep
  len := by rw [put_size]; exact h.len
  nodef := by rw [put_defers]; exact h.nodef

end Go.TI
