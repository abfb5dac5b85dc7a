/- An interpreter of loaded Go code on trees, for every program: a tree leaves its place. No condition; no program is in sight. -/
import Derived.Test.YtngfcadblnecpaaTIm
namespace Go.TI
open Go Go.RowKit
set_option linter.unusedSimpArgs false
set_option linter.unusedVariables false

def St.ownAt (E : St) (r : Root) (q : List Nat) : Bool := match E.root r with
  | some cs => ownP cs q
  | none => false

/-- The tree at a place is moved out of it; what is shared is copied. -/
def takeAt (E : St) (r : Root) (ver : Nat) (q : List Nat) (j : Nat) : Option (TV × St) :=
  if E.ver r = ver then
    match E.place r q j with
    | some (.sl true e sz cells) => if E.ownAt r q = true then
        match E.root r with
        | some cs => some (.sl true e sz cells, (E.setRoot r (updC cs q fun row => row.set j .junk)).bump r)
        | none => none
      else none
    | some (.sl false e sz cells) => some (.sl false e sz cells, E)
    | _ => none
  else none

/-- A cell's content for memory: what is seen elsewhere is moved here. -/
def takeCell (E : St) : TV → Option (TV × St)
  | .view r v q j => takeAt E r v q j
  | .ptr .. => none
  | .junk => none
  | .sl o e sz cells => some (.sl o e sz cells, E)
  | t => some (t, E)
def takeCells (E : St) : List TV → Option (List TV × St)
  | [] => some ([], E)
  | t :: ts => match takeCell E t with
    | some (x, E1) => match takeCells E1 ts with
      | some (xs, E2) => some (x :: xs, E2)
      | none => none
    | none => none

theorem bump_ver_eq {E : St} {r : Root} : (E.bump r).ver r = E.ver r + 1 := by simp [St.bump, upd]
theorem bump_ver_ne {E : St} {r s : Root} (h : s ≠ r) : (E.bump r).ver s = E.ver s := by simp [St.bump, upd, h]
theorem setRoot_ver {E : St} {r : Root} {cs : List TV} : (E.setRoot r cs).ver = E.ver := by cases r <;> rfl
theorem bump_root {E : St} {r s : Root} : (E.bump r).root s = E.root s := by cases s <;> rfl
theorem bump_slots {E : St} {r : Root} : (E.bump r).slots = E.slots := rfl
theorem bump_boxes {E : St} {r : Root} : (E.bump r).boxes = E.boxes := rfl
theorem setRoot_root_ne {E : St} {r s : Root} {cs : List TV} (h : s ≠ r) : (E.setRoot r cs).root s = E.root s := by
  cases r <;> cases s <;> simp only [St.setRoot, St.root, upd] <;> first
    | rfl
    | (rw [if_neg (fun e => h (by rw [e]))])
    | (rw [if_neg h])
    | (simp_all; done)

section
variable {w0 : World} {FA UA : List Nat} {N : Nat} {w : World} {a : Act} {E : St} {blk : Root → Nat} {FS US : Root → List Nat} {P : Program}

theorem setRoot_gen {E : St} {r : Root} {cs : List TV} : (E.setRoot r cs).gen = E.gen := by cases r <;> rfl
theorem bump_gen {E : St} {r : Root} : (E.bump r).gen = E.gen := rfl
theorem setRoot_mem {E : St} {r : Root} {cs : List TV} (h : r.mem = true) : (E.setRoot r cs).root r = some cs := by cases r <;> simp_all [St.setRoot, St.root, upd, Root.mem]

theorem steady_out {r : Root} {cs : List TV} (hlen : r.mem = true → ∀ cs0, E.root r = some cs0 → cs.length = cs0.length) (s : Root) : Steady w w a a E ((E.setRoot r cs).bump r) blk blk s := by
  by_cases h : s = r
  · subst h
    refine ⟨.inl (by rw [bump_ver_eq, setRoot_ver]; omega), .inr ⟨by rw [bump_gen, setRoot_gen], fun j ad h1 h2 => ⟨h1, ?_⟩⟩⟩
    by_cases hm : s.mem = true
    · unfold St.place at h2
      cases hr : E.root s with
      | none => simp [hr] at h2
      | some cs0 =>
        have := hlen hm cs0 hr
        simp only [hr, Option.bind_some, cont] at h2
        simp only [St.place, bump_root, setRoot_mem hm, Option.bind_some, cont]
        have h3 : j < cs0.length := by
          obtain ⟨x, hx⟩ := Option.isSome_iff_exists.1 h2
          exact (List.getElem?_eq_some_iff.1 hx).1
        rw [List.getElem?_eq_getElem (by omega)]
        rfl
    · cases s <;> first | (simp [pa] at h1; done) | exact absurd rfl hm
  · have hpl : ∀ q j, ((E.setRoot r cs).bump r).place s q j = E.place s q j := fun q j => by simp only [St.place, bump_root, setRoot_root_ne h]
    refine ⟨.inr ⟨by rw [bump_ver_ne h, setRoot_ver], fun q j v h1 h2 => ⟨h1, by rw [hpl]; exact h2⟩, fun q j ad _ h1 h2 => ⟨h1, by rw [hpl]; exact h2⟩⟩, .inr ⟨by rw [bump_gen, setRoot_gen], fun j ad h1 h2 => ⟨h1, by rw [hpl]; exact h2⟩⟩⟩

theorem cellsX_upd : ∀ {ts : List TV} {vs : List Value} {F U : List Nat} (c : Nat) {t : TV}, cellsX w a E blk ts vs F U → ts[c]? = some t →
    ∃ v A B C D F1 U1, vs[c]? = some v ∧ cellX w a E blk t v F1 U1 ∧ F = A ++ F1 ++ B ∧ U = C ++ U1 ++ D ∧
      ∀ t' F1' U1', cellX w a E blk t' v F1' U1' → cellsX w a E blk (ts.set c t') vs (A ++ F1' ++ B) (C ++ U1' ++ D)
  | [], _, _, _, c, t, _, hc => by simp at hc
  | t0 :: ts, vs, F, U, 0, t, h, hc => by
    obtain ⟨v, vs', F1, F2, U1, U2, rfl, rfl, rfl, h1, h2⟩ := h
    simp at hc
    subst hc
    refine ⟨v, [], F2, [], U2, F1, U1, rfl, h1, rfl, rfl, fun t' F1' U1' hx => ?_⟩
    exact ⟨v, vs', F1', F2, U1', U2, rfl, rfl, rfl, hx, h2⟩
  | t0 :: ts, vs, F, U, c + 1, t, h, hc => by
    obtain ⟨v, vs', F1, F2, U1, U2, rfl, rfl, rfl, h1, h2⟩ := h
    simp at hc
    obtain ⟨u, A, B, C, D, G, V, h3, h4, rfl, rfl, hk⟩ := cellsX_upd c h2 hc
    refine ⟨u, F1 ++ A, B, U1 ++ C, D, G, V, by simpa using h3, h4, by simp, by simp, fun t' F1' U1' hx => ?_⟩
    exact ⟨v, vs', F1, A ++ F1' ++ B, U1, C ++ U1' ++ D, rfl, by simp, by simp, h1, hk t' F1' U1' hx⟩

/-- A root's content is turned, some of its blocks go into the hand; the machine stands still. -/
theorem Rel.out (h : Rel w0 FA UA N w a E blk FS US) {r : Root} (hr : r ≠ .hand) {cs' : List TV} {A B F1 U' U1 : List Nat} (hF : FS r = A ++ F1 ++ B)
    (hlen : r.mem = true → ∀ cs0, E.root r = some cs0 → cs'.length = cs0.length) (hU' : ∀ b ∈ U', b ∈ US r) (hU1 : ∀ b ∈ U1, b ∈ US r)
    (hslot : ∀ n, r = .slot n → svX w a E blk ((E.slots n).withCells cs') (a.eval (.tmp n)) (A ++ B) U')
    (hmem : r.mem = true → ∃ cur T F, w.heap[blk r]? = some (.cells cur T (0, 0)) ∧ reps w cs' cur.toList F U' ∧ A ++ B = blk r :: F) :
    Rel w0 FA UA N w a ((E.setRoot r cs').bump r) blk (upd (upd FS r (A ++ B)) .hand (FS .hand ++ F1)) (upd (upd US r U') .hand (US .hand ++ U1)) := by
  have hst : ∀ s, Steady w w a a E ((E.setRoot r cs').bump r) blk blk s := fun s => steady_out hlen s
  have hnd := h.nodup r
  rw [hF] at hnd
  have hsub : ∀ b, b ∈ A ++ B → b ∈ FS r := fun b hb => by rw [hF]; simp at hb ⊢; rcases hb with hb | hb <;> simp [hb]
  have hsub1 : ∀ b, b ∈ F1 → b ∈ FS r := fun b hb => by rw [hF]; simp [hb]
  have hdisj : ∀ b, b ∈ A ++ B → b ∉ F1 := by
    intro b hb hb1
    rw [List.append_assoc, List.nodup_append] at hnd
    obtain ⟨hA, hFB, hAF⟩ := hnd
    rw [List.nodup_append] at hFB
    rcases List.mem_append.1 hb with hb | hb
    · exact hAF b hb b (List.mem_append_left _ hb1) rfl
    · exact hFB.2.2 b hb1 b hb rfl
  have hndAB : (A ++ B).Nodup := by
    rw [List.append_assoc] at hnd
    exact hnd.sublist (List.Sublist.append_left (List.sublist_append_right _ _) _)
  have hnd1 : F1.Nodup := hnd.sublist ((List.sublist_append_right A F1).trans (List.sublist_append_left _ _))
  have hrh : ∀ s, s ≠ Root.hand → upd (upd FS r (A ++ B)) .hand (FS .hand ++ F1) s = upd FS r (A ++ B) s := fun s hs => upd_ne hs
  have hrhU : ∀ s, s ≠ Root.hand → upd (upd US r U') .hand (US .hand ++ U1) s = upd US r U' s := fun s hs => upd_ne hs
  -- where a block of the new account comes from
  have hin : ∀ s, ∀ b ∈ upd (upd FS r (A ++ B)) .hand (FS .hand ++ F1) s, (s = .hand ∧ (b ∈ FS .hand ∨ b ∈ F1)) ∨ (s = r ∧ b ∈ A ++ B) ∨ (s ≠ .hand ∧ s ≠ r ∧ b ∈ FS s) := by
    intro s b hb
    by_cases hs : s = .hand
    · subst hs
      rw [upd_eq] at hb
      exact .inl ⟨rfl, List.mem_append.1 hb⟩
    · rw [upd_ne hs] at hb
      by_cases hs2 : s = r
      · subst hs2
        rw [upd_eq] at hb
        exact .inr (.inl ⟨rfl, hb⟩)
      · rw [upd_ne hs2] at hb
        exact .inr (.inr ⟨hs, hs2, hb⟩)
  have hinU : ∀ s, ∀ b ∈ upd (upd US r U') .hand (US .hand ++ U1) s, ∃ s', b ∈ US s' := by
    intro s b hb
    by_cases hs : s = .hand
    · subst hs
      rw [upd_eq] at hb
      rcases List.mem_append.1 hb with hb | hb
      · exact ⟨_, hb⟩
      · exact ⟨_, hU1 b hb⟩
    · rw [upd_ne hs] at hb
      by_cases hs2 : s = r
      · subst hs2
        rw [upd_eq] at hb
        exact ⟨_, hU' b hb⟩
      · rw [upd_ne hs2] at hb
        exact ⟨_, hb⟩
  have hinS : ∀ s, ∀ b ∈ upd (upd FS r (A ++ B)) .hand (FS .hand ++ F1) s, ∃ s', b ∈ FS s' := by
    intro s b hb
    rcases hin s b hb with ⟨_, hb | hb⟩ | ⟨_, hb⟩ | ⟨_, _, hb⟩
    · exact ⟨_, hb⟩
    · exact ⟨_, hsub1 b hb⟩
    · exact ⟨_, hsub b hb⟩
    · exact ⟨_, hb⟩
  constructor
  · intro n
    have hne : Root.slot n ≠ Root.hand := by simp
    rw [hrh _ hne, hrhU _ hne, bump_slots]
    by_cases hrn : r = .slot n
    · subst hrn
      rw [upd_eq, upd_eq]
      have : (E.setRoot (.slot n) cs').slots n = (E.slots n).withCells cs' := by simp [St.setRoot, upd]
      rw [this]
      exact svX_step hst (hslot n rfl) (fun _ _ => rfl) (fun _ _ => rfl)
    · rw [upd_ne (fun e => hrn e.symm), upd_ne (fun e => hrn e.symm)]
      have : (E.setRoot r cs').slots n = E.slots n := by
        cases r with
        | slot m =>
          have : n ≠ m := fun e => hrn (by rw [e])
          simp [St.setRoot, upd, this]
        | _ => rfl
      rw [this]
      exact svX_step hst (h.slot n) (fun _ _ => rfl) (fun _ _ => rfl)
  · intro s hs
    have hne : s ≠ Root.hand := by rintro rfl; cases hs
    rw [hrh _ hne, hrhU _ hne, bump_boxes]
    by_cases hrs : s = r
    · subst hrs
      rw [upd_eq, upd_eq]
      obtain ⟨cur, T, F, h1, h2, h3⟩ := hmem hs
      refine .inr ⟨cs', cur, T, F, ?_, h1, h2, h3⟩
      cases s <;> simp_all [St.setRoot, upd, Root.mem]
    · rw [upd_ne hrs, upd_ne hrs]
      have : (E.setRoot r cs').boxes s = E.boxes s := by cases r <;> simp [St.setRoot, upd, hrs]
      rw [this]
      exact h.box s hs
  · rw [bump_boxes]
    have : (E.setRoot r cs').boxes .hand = E.boxes .hand := by cases r <;> simp [St.setRoot, upd] <;> simp at hr
    rw [this]
    exact h.nohand
  · intro s
    by_cases hs : s = .hand
    · subst hs
      rw [upd_eq, List.nodup_append]
      exact ⟨h.nodup _, hnd1, fun x hx y hy e => by subst e; exact h.dis r .hand hr x (hsub1 x hy) hx⟩
    · rw [upd_ne hs]
      by_cases hs2 : s = r
      · subst hs2; rw [upd_eq]; exact hndAB
      · rw [upd_ne hs2]; exact h.nodup s
  · intro s s' hss b hb hb'
    rcases hin s b hb with ⟨rfl, hx | hx⟩ | ⟨rfl, hx⟩ | ⟨h1, h2, hx⟩ <;> rcases hin s' b hb' with ⟨rfl, hy | hy⟩ | ⟨rfl, hy⟩ | ⟨h3, h4, hy⟩
    · exact hss rfl
    · exact hss rfl
    · exact h.dis .hand s' (Ne.symm hr) b hx (hsub b hy)
    · exact h.dis .hand s' (Ne.symm h3) b hx hy
    · exact hss rfl
    · exact hss rfl
    · exact hdisj b hy hx
    · exact h.dis r s' (Ne.symm h4) b (hsub1 b hx) hy
    · exact h.dis s .hand hr b (hsub b hx) hy
    · exact hdisj b hx hy
    · exact hss rfl
    · exact h.dis s s' (Ne.symm h4) b (hsub b hx) hy
    · exact h.dis s .hand h1 b hx hy
    · exact h.dis s r h2 b hx (hsub1 b hy)
    · exact h.dis s s' h2 b hx (hsub b hy)
    · exact h.dis s s' hss b hx hy
  · intro s s' b hb hb'
    obtain ⟨t, ht⟩ := hinS s b hb
    obtain ⟨t', ht'⟩ := hinU s' b hb'
    exact h.disU t t' b ht ht'
  · intro s b hb
    obtain ⟨t, ht⟩ := hinS s b hb
    exact h.inF t b ht
  · intro s b hb
    obtain ⟨t, ht⟩ := hinU s b hb
    exact h.inU t b ht
  · exact h.disA
  · exact h.os
  · exact h.tape
  · exact h.output
  · exact h.size
  · exact h.keep
  · exact h.len
  · exact h.nodef
end
end Go.TI
