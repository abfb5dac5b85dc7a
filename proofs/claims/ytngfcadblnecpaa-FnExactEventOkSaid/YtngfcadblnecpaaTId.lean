/- An interpreter of loaded Go code on trees, for every program: a frame stands as a state says. No condition; no program is in sight. -/
import Derived.Test.YtngfcadblnecpaaTIc
namespace Go.TI
open Go Go.RowKit

/-- A root's cells in the machine. -/
def rootCell (w : World) (a : Act) (blk : Root → Nat) : Root → Nat → Option Value
  | .slot n, c => (a.eval (.tmp n)).cells[c]?
  | r, c => w.cell? ((⟨blk r, 0, none⟩ : Addr).add c)

/-- The value at a place, the address of a place. -/
def pv (w : World) (a : Act) (blk : Root → Nat) (r : Root) (q : List Nat) (j : Nat) : Option Value :=
  match q with
  | [] => rootCell w a blk r j
  | c :: q => (rootCell w a blk r c).bind fun v => (baseV w v q).bind fun ad => w.cell? (ad.add j)
def pa (w : World) (a : Act) (blk : Root → Nat) (r : Root) (q : List Nat) (j : Nat) : Option Addr :=
  match q with
  | [] => match r with
    | .slot _ => none
    | .hand => none
    | r => some ((⟨blk r, 0, none⟩ : Addr).add j)
  | c :: q => (rootCell w a blk r c).bind fun v => (baseV w v q).map fun ad => ad.add j

def St.place (E : St) (r : Root) (q : List Nat) (j : Nat) : Option TV :=
  (E.root r).bind fun cs => (cont cs q).bind fun row => row[j]?
def St.contAt (E : St) (r : Root) (q : List Nat) : Option (List TV) := (E.root r).bind fun cs => cont cs q
def isSlO : Option TV → Bool
  | some t => t.isSl
  | none => false

/-- A cell of a slot: a tree, or what leads to another variable's. -/
def cellX (w : World) (a : Act) (E : St) (blk : Root → Nat) (t : TV) (v : Value) (F U : List Nat) : Prop :=
  match t with
  | .view r ver q j => F = [] ∧ U = [] ∧ ver ≤ E.ver r ∧ (E.ver r = ver → pv w a blk r q j = some v ∧ isSlO (E.place r q j) = true)
  | .ptr r ver q j => F = [] ∧ U = [] ∧ ver ≤ E.stamp r q ∧ (E.stamp r q = ver → (E.place r q j).isSome = true ∧ ∃ ad, pa w a blk r q j = some ad ∧ v = .pointer (some ad))
  | .junk => F = [] ∧ U = []
  | t => rep w t v F U
def cellsX (w : World) (a : Act) (E : St) (blk : Root → Nat) : List TV → List Value → List Nat → List Nat → Prop
  | [], vs, F, U => vs = [] ∧ F = [] ∧ U = []
  | t :: ts, vs, F, U => ∃ v vs' F1 F2 U1 U2, vs = v :: vs' ∧ F = F1 ++ F2 ∧ U = U1 ++ U2 ∧ cellX w a E blk t v F1 U1 ∧ cellsX w a E blk ts vs' F2 U2
mutual
def svX (w : World) (a : Act) (E : St) (blk : Root → Nat) : SV → Value → List Nat → List Nat → Prop
  | .one t, v, F, U => cellX w a E blk t v F U ∧ (t.isJunk = false → v.cells = #[v])
  | .agg cs, v, F, U => ∃ vs : List Value, v = .agg vs.toArray ∧ cellsX w a E blk cs vs F U
  | .tup ss, v, F, U => ∃ vs : List Value, v = .tuple vs.toArray ∧ tupX w a E blk ss vs F U
def tupX (w : World) (a : Act) (E : St) (blk : Root → Nat) : List SV → List Value → List Nat → List Nat → Prop
  | [], vs, F, U => vs = [] ∧ F = [] ∧ U = []
  | s :: ss, vs, F, U => ∃ v vs' F1 F2 U1 U2, vs = v :: vs' ∧ F = F1 ++ F2 ∧ U = U1 ++ U2 ∧ svX w a E blk s v F1 U1 ∧ tupX w a E blk ss vs' F2 U2
end

/-- What a step does to what leads to root r: it is out of date, or stands as it stood. -/
structure Steady (w w' : World) (a a' : Act) (E E' : St) (blk blk' : Root → Nat) (r : Root) : Prop where
  views : E.ver r < E'.ver r ∨ (E'.ver r = E.ver r ∧
    (∀ q j v, pv w a blk r q j = some v → isSlO (E.place r q j) = true → pv w' a' blk' r q j = some v ∧ isSlO (E'.place r q j) = true) ∧
    (∀ q j ad, q ≠ [] → pa w a blk r q j = some ad → (E.place r q j).isSome = true → pa w' a' blk' r q j = some ad ∧ (E'.place r q j).isSome = true))
  addrs : E.gen r < E'.gen r ∨ (E'.gen r = E.gen r ∧
    (∀ j ad, pa w a blk r [] j = some ad → (E.place r [] j).isSome = true → pa w' a' blk' r [] j = some ad ∧ (E'.place r [] j).isSome = true))

theorem stamp_cons {E : St} {r : Root} {q : List Nat} (h : q ≠ []) : E.stamp r q = E.ver r := by cases q <;> first | rfl | exact absurd rfl h

section
variable {w w' : World} {a a' : Act} {E E' : St} {blk blk' : Root → Nat}
theorem cellX_step (hs : ∀ r, Steady w w' a a' E E' blk blk' r) {t : TV} {v : Value} {F U : List Nat} (h : cellX w a E blk t v F U)
    (hF : ∀ b ∈ F, w'.heap[b]? = w.heap[b]?) (hU : ∀ b ∈ U, w'.heap[b]? = w.heap[b]?) : cellX w' a' E' blk' t v F U := by
  cases t with
  | view r ver q j =>
    obtain ⟨rfl, rfl, hv, hc⟩ := h
    rcases (hs r).views with hlt | ⟨he, h1, _⟩
    · exact ⟨rfl, rfl, by omega, fun e => by omega⟩
    · refine ⟨rfl, rfl, by omega, fun e => ?_⟩
      obtain ⟨h3, h4⟩ := hc (by omega)
      exact h1 q j v h3 h4
  | ptr r ver q j =>
    obtain ⟨rfl, rfl, hv, hc⟩ := h
    cases q with
    | nil =>
      simp only [St.stamp] at hv hc
      rcases (hs r).addrs with hlt | ⟨he, h2⟩
      · exact ⟨rfl, rfl, by simp only [St.stamp]; omega, fun e => by simp only [St.stamp] at e; omega⟩
      · refine ⟨rfl, rfl, by simp only [St.stamp]; omega, fun e => ?_⟩
        simp only [St.stamp] at e
        obtain ⟨h5, ad, h3, h4⟩ := hc (by omega)
        obtain ⟨h6, h7⟩ := h2 j ad h3 h5
        exact ⟨h7, ad, h6, h4⟩
    | cons c q =>
      rw [stamp_cons (by simp)] at hv hc
      rcases (hs r).views with hlt | ⟨he, _, h2⟩
      · exact ⟨rfl, rfl, by rw [stamp_cons (by simp)]; omega, fun e => by rw [stamp_cons (by simp)] at e; omega⟩
      · refine ⟨rfl, rfl, by rw [stamp_cons (by simp)]; omega, fun e => ?_⟩
        rw [stamp_cons (by simp)] at e
        obtain ⟨h5, ad, h3, h4⟩ := hc (by omega)
        obtain ⟨h6, h7⟩ := h2 (c :: q) j ad (by simp) h3 h5
        exact ⟨h7, ad, h6, h4⟩
  | junk => exact h
  | int k n => exact rep_move h hF hU
  | bool b => exact rep_move h hF hU
  | str s => exact rep_move h hF hU
  | sl o e sz cells => exact rep_move h hF hU
theorem cellsX_step (hs : ∀ r, Steady w w' a a' E E' blk blk' r) : ∀ {ts : List TV} {vs : List Value} {F U : List Nat}, cellsX w a E blk ts vs F U →
    (∀ b ∈ F, w'.heap[b]? = w.heap[b]?) → (∀ b ∈ U, w'.heap[b]? = w.heap[b]?) → cellsX w' a' E' blk' ts vs F U
  | [], _, _, _, h, _, _ => h
  | t :: ts, vs, F, U, h, hF, hU => by
    obtain ⟨v, vs', F1, F2, U1, U2, rfl, rfl, rfl, h1, h2⟩ := h
    exact ⟨v, vs', F1, F2, U1, U2, rfl, rfl, rfl, cellX_step hs h1 (fun b hb => hF b (List.mem_append_left _ hb)) (fun b hb => hU b (List.mem_append_left _ hb)),
      cellsX_step hs h2 (fun b hb => hF b (List.mem_append_right _ hb)) (fun b hb => hU b (List.mem_append_right _ hb))⟩
mutual
theorem svX_step (hs : ∀ r, Steady w w' a a' E E' blk blk' r) : ∀ {s : SV} {v : Value} {F U : List Nat}, svX w a E blk s v F U →
    (∀ b ∈ F, w'.heap[b]? = w.heap[b]?) → (∀ b ∈ U, w'.heap[b]? = w.heap[b]?) → svX w' a' E' blk' s v F U
  | .one t, v, F, U, h, hF, hU => by
    simp only [svX] at h ⊢
    exact ⟨cellX_step hs h.1 hF hU, h.2⟩
  | .agg cs, v, F, U, h, hF, hU => by
    simp only [svX] at h ⊢
    obtain ⟨vs, rfl, h⟩ := h
    exact ⟨vs, rfl, cellsX_step hs h hF hU⟩
  | .tup ss, v, F, U, h, hF, hU => by
    simp only [svX] at h ⊢
    obtain ⟨vs, rfl, h⟩ := h
    exact ⟨vs, rfl, tupX_step hs h hF hU⟩
theorem tupX_step (hs : ∀ r, Steady w w' a a' E E' blk blk' r) : ∀ {ss : List SV} {vs : List Value} {F U : List Nat}, tupX w a E blk ss vs F U →
    (∀ b ∈ F, w'.heap[b]? = w.heap[b]?) → (∀ b ∈ U, w'.heap[b]? = w.heap[b]?) → tupX w' a' E' blk' ss vs F U
  | [], _, _, _, h, _, _ => by simpa only [tupX] using h
  | s :: ss, vs, F, U, h, hF, hU => by
    simp only [tupX] at h ⊢
    obtain ⟨v, vs', F1, F2, U1, U2, rfl, rfl, rfl, h1, h2⟩ := h
    exact ⟨v, vs', F1, F2, U1, U2, rfl, rfl, rfl, svX_step hs h1 (fun b hb => hF b (List.mem_append_left _ hb)) (fun b hb => hU b (List.mem_append_left _ hb)),
      tupX_step hs h2 (fun b hb => hF b (List.mem_append_right _ hb)) (fun b hb => hU b (List.mem_append_right _ hb))⟩
end
end

def Root.mem : Root → Bool
  | .slot _ => false
  | .hand => false
  | _ => true

/-- The frame stands in the machine as the state says. w0: the world at the call; FA: the blocks that the call was handed to own; UA: those that it may read. -/
structure Rel (w0 : World) (FA UA : List Nat) (N : Nat) (w : World) (a : Act) (E : St) (blk : Root → Nat) (FS US : Root → List Nat) : Prop where
  slot : ∀ n, svX w a E blk (E.slots n) (a.eval (.tmp n)) (FS (.slot n)) (US (.slot n))
  box : ∀ r, r.mem = true → (E.boxes r = none ∧ FS r = [] ∧ US r = []) ∨ ∃ cs cur T F, E.boxes r = some cs ∧ w.heap[blk r]? = some (.cells cur T (0, 0)) ∧ reps w cs cur.toList F (US r) ∧ FS r = blk r :: F
  nohand : E.boxes .hand = none
  nodup : ∀ r, (FS r).Nodup
  dis : ∀ r s, r ≠ s → ∀ b ∈ FS r, b ∉ FS s
  disU : ∀ r s, ∀ b ∈ FS r, b ∉ US s
  inF : ∀ r, ∀ b ∈ FS r, (b ∈ FA ∨ w0.heap.size ≤ b) ∧ b < w.heap.size
  inU : ∀ r, ∀ b ∈ US r, (b ∈ UA ∨ b ∈ FA ∨ w0.heap.size ≤ b) ∧ b < w.heap.size
  disA : ∀ b ∈ FA, b ∉ UA
  os : w.os = w0.os
  tape : w.tape = w0.tape
  output : w.output = w0.output
  size : w0.heap.size ≤ w.heap.size
  keep : ∀ b, b < w0.heap.size → b ∉ FA → w.heap[b]? = w0.heap[b]?
  len : N ≤ a.tmps.size
  nodef : a.defers = []

end Go.TI
