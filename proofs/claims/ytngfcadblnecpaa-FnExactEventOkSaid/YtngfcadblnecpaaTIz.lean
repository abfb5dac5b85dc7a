/- An interpreter of loaded Go code on trees, for every program: what a call gives; a frame at its beginning. No condition; no program is in sight. -/
import Derived.Test.YtngfcadblnecpaaTIy
namespace Go.TI
open Go Go.RowKit
set_option linter.unusedSimpArgs false
set_option linter.unusedVariables false

mutual
/-- A value is a tree: what crosses a call. -/
def svR (w : World) : SV → Value → List Nat → List Nat → Prop
  | .one t, v, F, U => rep w t v F U ∧ v.cells = #[v]
  | .agg cs, v, F, U => ∃ vs : List Value, v = .agg vs.toArray ∧ reps w cs vs F U
  | .tup ss, v, F, U => ∃ vs : List Value, v = .tuple vs.toArray ∧ tupR w ss vs F U
def tupR (w : World) : List SV → List Value → List Nat → List Nat → Prop
  | [], vs, F, U => vs = [] ∧ F = [] ∧ U = []
  | s :: ss, vs, F, U => ∃ v vs' F1 F2 U1 U2, vs = v :: vs' ∧ F = F1 ++ F2 ∧ U = U1 ++ U2 ∧ svR w s v F1 U1 ∧ tupR w ss vs' F2 U2
end

/-- An argument: a value, or the address of a variable that holds this. -/
inductive AV where
  | sv (s : SV)
  | ext (cells : List TV)
  | gone

def avR (w : World) : AV → Value → List Nat → List Nat → Prop
  | .sv s, v, F, U => svR w s v F U
  | .gone, v, F, U => F = [] ∧ U = []
  | .ext cells, v, F, U => ∃ b cur T F0, v = .pointer (some ⟨b, 0, none⟩) ∧ w.heap[b]? = some (.cells cur T (0, 0)) ∧ reps w cells cur.toList F0 U ∧ F = b :: F0 ∧ cells ≠ []

def argsR (w : World) : List AV → List Value → List Nat → List Nat → Prop
  | [], vs, F, U => vs = [] ∧ F = [] ∧ U = []
  | s :: ss, vs, F, U => ∃ v vs' F1 F2 U1 U2, vs = v :: vs' ∧ F = F1 ++ F2 ∧ U = U1 ++ U2 ∧ avR w s v F1 U1 ∧ argsR w ss vs' F2 U2

/-- What a call leaves. -/
structure Left (w w' : World) (FA UA : List Nat) (res : SV) (fin : List AV) (vs : List Value) (v : Value) (F U G V : List Nat) : Prop where
  res : svR w' res v F U
  fin : argsR w' fin vs G V
  nodup : (F ++ G).Nodup
  dis : ∀ b ∈ F ++ G, b ∉ U ++ V
  inF : ∀ b ∈ F ++ G, (b ∈ FA ∨ w.heap.size ≤ b) ∧ b < w'.heap.size
  inU : ∀ b ∈ U ++ V, (b ∈ UA ∨ b ∈ FA ∨ w.heap.size ≤ b) ∧ b < w'.heap.size
  os : w'.os = w.os
  tape : w'.tape = w.tape
  output : w'.output = w.output
  size : w.heap.size ≤ w'.heap.size
  keep : ∀ b, b < w.heap.size → b ∉ FA → w'.heap[b]? = w.heap[b]?

/-- A function, called with these trees, gives this tree and leaves the variables that it was handed with these. -/
def Gives (P : Program) (f : FuncId) (as : List AV) (res : SV) (fin : List AV) : Prop :=
  ∀ (w : World) (vs : List Value) (FA UA : List Nat), argsR w as vs FA UA → FA.Nodup → (∀ b ∈ FA, b ∉ UA) → (∀ b ∈ FA ++ UA, b < w.heap.size) →
    Calls P f vs.toArray w fun e w' => ∃ v F U G V, e = .returned v ∧ Left w w' FA UA res fin vs v F U G V

/-- The state at a function's entry. -/
def avSlot (i : Nat) : AV → SV
  | .sv s => s
  | .gone => .one .junk
  | .ext _ => .one (.ptr (.ext i) 0 [] 0)
def avBox : Option AV → Option (List TV)
  | some (.ext cells) => some cells
  | _ => none
def St.init (as : List AV) : St where
  slots := fun n => match as[n]? with
    | some x => avSlot n x
    | none => .one .junk
  boxes := fun r => match r with
    | .ext n => avBox as[n]?
    | _ => none
  ver := fun _ => 0
  gen := fun _ => 0

section
variable {w : World}
mutual
theorem svX_of_svR {a : Act} {E : St} {blk : Root → Nat} : ∀ {s : SV} {v : Value} {F U : List Nat}, svR w s v F U → svX w a E blk s v F U
  | .one t, v, F, U, h => by
    simp only [svR] at h
    simp only [svX]
    exact ⟨cellX_of_rep h.1, fun _ => h.2⟩
  | .agg cs, v, F, U, h => by
    simp only [svR] at h
    simp only [svX]
    obtain ⟨vs, h1, h2⟩ := h
    exact ⟨vs, h1, cellsX_of_reps h2⟩
  | .tup ss, v, F, U, h => by
    simp only [svR] at h
    simp only [svX]
    obtain ⟨vs, h1, h2⟩ := h
    exact ⟨vs, h1, tupX_of_tupR h2⟩
theorem tupX_of_tupR {a : Act} {E : St} {blk : Root → Nat} : ∀ {ss : List SV} {vs : List Value} {F U : List Nat}, tupR w ss vs F U → tupX w a E blk ss vs F U
  | [], vs, F, U, h => by simpa only [tupR, tupX] using h
  | s :: ss, vs, F, U, h => by
    simp only [tupR] at h
    simp only [tupX]
    obtain ⟨v, vs', F1, F2, U1, U2, h1, h2, h3, h4, h5⟩ := h
    exact ⟨v, vs', F1, F2, U1, U2, h1, h2, h3, svX_of_svR h4, tupX_of_tupR h5⟩
end

/-- The blocks of each argument. -/
theorem argsR_get : ∀ {as : List AV} {vs : List Value} {F U : List Nat}, argsR w as vs F U → ∃ FF UU : Nat → List Nat,
    (∀ i x, as[i]? = some x → ∃ v, vs[i]? = some v ∧ avR w x v (FF i) (UU i)) ∧ (∀ i, as[i]? = none → FF i = [] ∧ UU i = []) ∧ vs.length = as.length ∧
    (∀ i, ∀ b ∈ FF i, b ∈ F) ∧ (∀ i, ∀ b ∈ UU i, b ∈ U) ∧ (F.Nodup → (∀ i, (FF i).Nodup) ∧ ∀ i j, i ≠ j → ∀ b ∈ FF i, b ∉ FF j)
  | [], vs, F, U, h => by
    obtain ⟨rfl, rfl, rfl⟩ := h
    exact ⟨fun _ => [], fun _ => [], by simp, by simp, rfl, by simp, by simp, by simp⟩
  | x :: as, vs, F, U, h => by
    obtain ⟨v, vs', F1, F2, U1, U2, rfl, rfl, rfl, h1, h2⟩ := h
    obtain ⟨FF, UU, h3, h4, h5, h6, h7, h8⟩ := argsR_get h2
    refine ⟨fun i => match i with | 0 => F1 | i + 1 => FF i, fun i => match i with | 0 => U1 | i + 1 => UU i, ?_, ?_, by simp [h5], ?_, ?_, ?_⟩
    · intro i y hy
      cases i with
      | zero => simp at hy; subst hy; exact ⟨v, rfl, h1⟩
      | succ i => simpa using h3 i y (by simpa using hy)
    · intro i hi
      cases i with
      | zero => simp at hi
      | succ i => exact h4 i (by simpa using hi)
    · intro i b hb
      cases i with
      | zero => exact List.mem_append_left _ hb
      | succ i => exact List.mem_append_right _ (h6 i b hb)
    · intro i b hb
      cases i with
      | zero => exact List.mem_append_left _ hb
      | succ i => exact List.mem_append_right _ (h7 i b hb)
    · intro hnd
      obtain ⟨n1, n2, n3⟩ := List.nodup_append.1 hnd
      obtain ⟨n4, n5⟩ := h8 n2
      refine ⟨fun i => ?_, fun i j hij b hb hb' => ?_⟩
      · cases i with
        | zero => exact n1
        | succ i => exact n4 i
      · cases i with
        | zero =>
          cases j with
          | zero => exact hij rfl
          | succ j => exact n3 b hb b (h6 j b hb') rfl
        | succ i =>
          cases j with
          | zero => exact n3 b hb' b (h6 i b hb) rfl
          | succ j => exact n5 i j (fun e => hij (by rw [e])) b hb hb'

def avBlk : Option Value → Nat
  | some (.pointer (some ad)) => ad.block
  | _ => 0
end

/-- A call's frame at its beginning. -/
theorem Rel.init {w : World} {as : List AV} {vs : List Value} {FA UA : List Nat} {N : Nat} (h : argsR w as vs FA UA) (hnd : FA.Nodup) (hdis : ∀ b ∈ FA, b ∉ UA) (hlt : ∀ b ∈ FA ++ UA, b < w.heap.size) :
    ∃ blk FS US, Rel w FA UA N w { tmps := vs.toArray ++ Array.replicate (N - vs.toArray.size) undef, defers := [] } (St.init as) blk FS US ∧ FS .hand = [] ∧ US .hand = [] := by
  obtain ⟨FF, UU, h1, h2, h3, h4, h5, h6⟩ := argsR_get h
  obtain ⟨h7, h8⟩ := h6 hnd
  let isExt : Nat → Bool := fun i => match as[i]? with | some (.ext _) => true | _ => false
  let FS : Root → List Nat := fun r => match r with
    | .slot n => if isExt n = true then [] else FF n
    | .ext n => if isExt n = true then FF n else []
    | _ => []
  let US : Root → List Nat := fun r => match r with
    | .slot n => if isExt n = true then [] else UU n
    | .ext n => if isExt n = true then UU n else []
    | _ => []
  let blk : Root → Nat := fun r => match r with
    | .ext n => avBlk vs[n]?
    | _ => 0
  -- the one argument that a root has
  let ix : Root → Nat := fun r => match r with | .slot n => n | .ext n => n | _ => 0
  have hFS : ∀ r, (∀ b ∈ FS r, b ∈ FF (ix r)) := by
    intro r b hb
    cases r <;> simp only [FS] at hb
    · split at hb
      · cases hb
      · exact hb
    · cases hb
    · split at hb
      · exact hb
      · cases hb
    · cases hb
  have hUS : ∀ r, (∀ b ∈ US r, b ∈ UU (ix r)) := by
    intro r b hb
    cases r <;> simp only [US] at hb
    · split at hb
      · cases hb
      · exact hb
    · cases hb
    · split at hb
      · exact hb
      · cases hb
    · cases hb
  have heval : ∀ n v, vs[n]? = some v → (({ tmps := vs.toArray ++ Array.replicate (N - vs.toArray.size) undef, defers := [] } : Act)).eval (.tmp n) = v := by
    intro n v hv
    have hn := (List.getElem?_eq_some_iff.1 hv).1
    have : (vs.toArray ++ Array.replicate (N - vs.toArray.size) undef)[n]? = some v := by
      rw [Array.getElem?_append_left (by simpa using hn)]
      simpa using hv
    simp only [Act.eval, Array.getD_eq_getD_getElem?, this, Option.getD_some]
  refine ⟨blk, FS, US, ?_, rfl, rfl⟩
  constructor
  · intro n
    cases hx : as[n]? with
    | none =>
      obtain ⟨e1, e2⟩ := h2 n hx
      have : isExt n = false := by simp [isExt, hx]
      have hs : (St.init as).slots n = .one .junk := by simp [St.init, hx]
      rw [hs]
      simp [svX, cellX, TV.isJunk, FS, US, this, e1, e2]
    | some x =>
      obtain ⟨v, e1, e2⟩ := h1 n x hx
      rw [heval n v e1]
      cases x with
      | sv s =>
        have he : isExt n = false := by simp [isExt, hx]
        have hs : (St.init as).slots n = s := by simp [St.init, hx, avSlot]
        rw [hs]
        simp only [FS, US, he, Bool.false_eq_true, if_false]
        exact svX_of_svR e2
      | gone =>
        have he : isExt n = false := by simp [isExt, hx]
        have hs : (St.init as).slots n = .one .junk := by simp [St.init, hx, avSlot]
        obtain ⟨e3, e4⟩ := e2
        rw [hs]
        simp [svX, cellX, TV.isJunk, FS, US, he, e3, e4]
      | ext cells =>
        have he : isExt n = true := by simp [isExt, hx]
        have hs : (St.init as).slots n = .one (.ptr (.ext n) 0 [] 0) := by simp [St.init, hx, avSlot]
        obtain ⟨b, cur, T, F0, rfl, e3, e4, e5, e6⟩ := e2
        have hblk : blk (.ext n) = b := by simp [blk, e1, avBlk]
        rw [hs]
        simp only [FS, US, he, if_true, svX, cellX]
        refine ⟨⟨trivial, trivial, Nat.zero_le _, fun _ => ⟨?_, ⟨b, 0, none⟩, ?_, rfl⟩⟩, fun _ => rfl⟩
        · cases cells with
          | nil => exact absurd rfl e6
          | cons c cs => simp [St.place, St.root, St.init, hx, avBox, cont]
        · simp [pa, hblk, Addr.add]
  · intro r hr
    cases r with
    | slot n => cases hr
    | hand => cases hr
    | box n => exact .inl ⟨rfl, rfl, rfl⟩
    | ext n =>
      cases hx : as[n]? with
      | none =>
        have : isExt n = false := by simp [isExt, hx]
        exact .inl ⟨by simp [St.init, hx, avBox], by simp [FS, this], by simp [US, this]⟩
      | some x =>
        obtain ⟨v, e1, e2⟩ := h1 n x hx
        cases x with
        | sv s =>
          have : isExt n = false := by simp [isExt, hx]
          exact .inl ⟨by simp [St.init, hx, avBox], by simp [FS, this], by simp [US, this]⟩
        | gone =>
          have : isExt n = false := by simp [isExt, hx]
          exact .inl ⟨by simp [St.init, hx, avBox], by simp [FS, this], by simp [US, this]⟩
        | ext cells =>
          have he : isExt n = true := by simp [isExt, hx]
          obtain ⟨b, cur, T, F0, rfl, e3, e4, e5, e6⟩ := e2
          have hblk : blk (.ext n) = b := by simp [blk, e1, avBlk]
          refine .inr ⟨cells, cur, T, F0, by simp [St.init, hx, avBox], by rw [hblk]; exact e3, by simpa [US, he] using e4, by simp [FS, he, hblk, e5]⟩
  · rfl
  · intro r
    cases r <;> simp only [FS]
    · split
      · exact List.nodup_nil
      · exact h7 _
    · exact List.nodup_nil
    · split
      · exact h7 _
      · exact List.nodup_nil
    · exact List.nodup_nil
  · intro r s hrs b hb hb'
    by_cases hix : ix r = ix s
    · cases r <;> cases s <;> simp only [FS] at hb hb' <;> simp only [ix] at hix <;> subst_vars <;> first | exact hrs rfl | (split at hb <;> split at hb' <;> simp_all) | simp_all
    · exact h8 _ _ hix b (hFS r b hb) (hFS s b hb')
  · intro r s b hb hb'
    exact hdis b (h4 _ b (hFS r b hb)) (h5 _ b (hUS s b hb'))
  · intro r b hb
    have := h4 _ b (hFS r b hb)
    exact ⟨.inl this, hlt b (List.mem_append_left _ this)⟩
  · intro r b hb
    have := h5 _ b (hUS r b hb)
    exact ⟨.inl this, hlt b (List.mem_append_right _ this)⟩
  · exact hdis
  · rfl
  · rfl
  · rfl
  · exact Nat.le_refl _
  · exact fun _ _ _ => rfl
  · simp; omega
  · rfl
end Go.TI
