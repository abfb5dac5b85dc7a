/- Integers of a slot or a variable of the frame, sorted by the library. No condition; no program is in sight. -/
import Derived.Test.YtcjepealfaimfaaGreatPOTIE
import Derived.Sort.OwnSortedInts
import Derived.Shelf.Sort.Plain
import Derived.Shelf.Slices.In.SortNone2
namespace Go.TI
open Go Go.RowKit
set_option linter.unusedSimpArgs false
set_option linter.unusedVariables false
def srtI (l : List Int) : List Int := l.mergeSort fun x y => decide (x ≤ y)
def sortI (l : List Int) : Option (List Int) := if l.length < 4611686018427387904 then some (srtI l) else none
theorem srtI_len (l : List Int) : (srtI l).length = l.length := List.length_mergeSort l
def IntsAt (P : Program) (f : FuncId) (e : Nat) : Prop := ∀ (w : World) (v : Value) (zs : List Int), w.ownsRow 0 e 1 v zs.length (zs.map (Value.int .i64)) → zs.length < 4611686018427387904 →
  Calls P f #[v] w fun r w' => r = .returned (.tuple #[]) ∧ Beside w w' (blkOf v) ∧ w'.ownsRow 0 e 1 v zs.length ((srtI zs).map (Value.int .i64))
theorem intsAt_of {P : Program} {ρ : Go.Shelf.Ren} (Ly : Go.Proofs.Lays.n191 P ρ) (e : Nat) : IntsAt P (ρ.f 191) e := by
  intro w v zs how hsz
  rcases how.2 with ⟨rfl, h0⟩ | ⟨g, cap, cur, rfl, h1, h2, h3, h4, h5, h6⟩
  · have hz : zs = [] := List.eq_nil_of_length_eq_zero h0
    subst hz
    refine (Go.Proofs.Any.sort_Ints_none Ly none 0 w).mono ?_
    rintro r w' ⟨rfl, rfl⟩
    exact ⟨rfl, ⟨rfl, rfl, rfl, Nat.le_refl _, fun _ _ _ => rfl⟩, by rw [show srtI [] = [] from by simp [srtI]]; exact how⟩
  · have hg : g < w.heap.size := (Array.getElem?_eq_some_iff.1 h2).1
    have hH := Go.holds_of_blockI (ss := zs) h2 (by rw [Nat.mul_one] at h6; exact h6)
    refine (Go.Proofs.Any.sort_Ints Ly g 0 cap zs w hH hg hsz).mono ?_
    rintro r w' ⟨rfl, n, os, rfl⟩
    have hgr := Go.grownBy_sortedI (w := w) (g := g) (n := n) (os := os) (zs.mergeSort fun x y => decide (x ≤ y)).toArray
    refine ⟨rfl, ⟨hgr.os, hgr.tape, hgr.output, hgr.size, fun b hb hne => hgr.block b hb (fun e => hne (by simp at e; subst e; simp [blkOf, Value.ownBlock]))⟩, ?_⟩
    exact Go.ownsRow_sortedI (ts := zs.mergeSort fun x y => decide (x ≤ y)) (List.length_mergeSort zs) (Nat.zero_le _) h2 h3 h4 h5
section
variable {w0 : Base} {FA UA : List Nat} {N : Nat} {w : World} {a : Act} {E : St} {blk : Root → Nat} {FS US : Root → List Nat} {P : Program}
theorem Rel.turnS (h : Rel w0 FA UA N w a E blk FS US) (hF : FS .hand = []) (hU : US .hand = []) {n : Nat} {t t' : TV} (hs : E.slots n = .one t) {w' : World} (hb : Beside w w' (FS (.slot n)))
    (hr : rep w' t' (a.eval (.tmp n)) (FS (.slot n)) (US (.slot n))) : ∃ FS' US', Rel w0 FA UA N w' a ((E.setRoot (.slot n) [t']).bump (.slot n)) blk FS' US' ∧ FS' .hand = [] ∧ US' .hand = [] := by
  let E1 : St := (E.setRoot (.slot n) [t']).bump (.slot n)
  have es : ∀ m, E1.slots m = if m = n then .one t' else E.slots m := by
    intro m
    simp only [E1, St.bump, St.setRoot, upd, hs, SV.withCells]
  have ev : ∀ s, s ≠ .slot n → E1.ver s = E.ver s := by
    intro s hne
    simp [E1, St.bump, St.setRoot, upd, hne]
  have evr : E1.ver (.slot n) = E.ver (.slot n) + 1 := by simp [E1, St.bump, St.setRoot, upd]
  have eg : ∀ s, E1.gen s = E.gen s := fun s => rfl
  have er : ∀ s, s ≠ .slot n → E1.root s = E.root s := by
    intro s hne
    cases s with
    | slot m =>
      have : m ≠ n := fun e => hne (by rw [e])
      simp only [St.root, es, if_neg this]
    | box m => rfl
    | ext m => rfl
    | hand => rfl
  have hst : ∀ s, Steady w w' a a E E1 blk blk s := by
    intro s
    by_cases hne : s = .slot n
    · subst hne
      exact ⟨.inl (by rw [evr]; omega), .inr ⟨eg _, fun j ad hv hp => by simp [pa] at hv⟩⟩
    · by_cases hh : s = .hand
      · subst hh
        exact steady_none (ev _ hne) (eg _) (by simp [St.root, h.nohand])
      · exact steady_other h (ev s hne) (eg s) (er s hne) (fun _ _ => rfl) (fun _ => rfl)
          (fun b hx => hb.keep b (h.inF s b hx).2 (h.dis s _ hne b hx)) (fun b hx => hb.keep b (h.inU s b hx).2 (fun e => h.disU _ s b e hx))
  have k7 := h.two (w' := w') (a' := a) (E' := E1) (blk' := blk) (r1 := .slot n) (r2 := .hand) (L1 := FS (.slot n)) (L2 := []) (V1 := US (.slot n)) (V2 := []) (by simp)
    (by simpa using h.nodup (.slot n))
    (fun b hx => ⟨.inl (by simpa using hx), Nat.lt_of_lt_of_le (h.inF (.slot n) b (by simpa using hx)).2 hb.size⟩)
    (fun b hx => .inl ⟨.slot n, by simpa using hx⟩)
    hb.size hb.os hb.tape hb.output (fun b hx q _ => hb.keep b hx q) hst (fun m hm _ => ⟨by rw [es, if_neg (fun e => hm (by rw [e]))], rfl⟩) (fun s _ hs _ => ⟨rfl, rfl⟩)
    (by
      show svX w' a E1 blk (E1.slots n) (a.eval (.tmp n)) (FS (.slot n)) (US (.slot n))
      rw [es, if_pos rfl]
      simp only [svX]
      exact ⟨cellX_of_rep hr, fun _ => cells_one (rep_one hr)⟩)
    trivial h.nohand h.len h.nodef (hamb := by show ((E.setRoot (.slot n) [t']).bump (.slot n)).amb = E.amb; rw [bump_amb, setRoot_amb])
  exact ⟨_, _, k7, upd_eq _ _ _, upd_eq _ _ _⟩
theorem encs_ints {enc : Int → List TV} (henc : ∀ x, enc x = [.int .i64 x]) : ∀ l : List Int, (encs enc l).map TV.val = l.map (Value.int .i64)
  | [] => rfl
  | x :: l => by
    have : encs enc (x :: l) = enc x ++ encs enc l := by simp [encs]
    rw [this, List.map_append, encs_ints henc l, henc]
    rfl
end
section
variable {N : Nat} {E : St} {P : Program} {ops : Array Oper} {rest : List Oper} {Q : Exit → St → Prop} {β : Type} {rr : β}
theorem LWp.sI {enc : Int → List TV} {l : List Int} {k : List Int → Option β} (h : (sortI l).bind k = some rr) {f : FuncId} {e : Nat} (hI : IntsAt P f e) {oo : Oper} {n x d ver : Nat} {tys : Array TypeId}
    (hk : ∀ l', sortI l = some l' → k l' = some rr → LWp P N ops rest (((E.setRoot (.slot n) [.sl true e 1 (encs enc l')]).bump (.slot n)).put (some d) (.tup [])) Q) (henc : ∀ x, enc x = [.int .i64 x])
    (hx : E.slots x = .one (.view (.slot n) ver [] 0) := by rfl) (hver : E.ver (.slot n) = ver := by rfl) (hs : E.slots n = .one (.sl true e 1 (encs enc l)) := by rfl)
    (ho : oo.op = .call { callee := .value (.func f), args := #[.tmp x], argTypes := tys } := by rfl) (hd : oo.dst = some d := by rfl) (hN : Nat.blt d N = true := by rfl) (hg : oo.guard = none := by rfl) (hf : goFn P f) : LWp P N ops (oo :: rest) E Q := by
  obtain ⟨l', hl', h⟩ := Option.bind_eq_some_iff.1 h
  have hl2 := hl'
  unfold sortI at hl'
  split at hl'
  case isFalse => cases hl'
  rename_i hsz
  injection hl' with hl'
  have hN' : d < N := by simpa [Nat.blt_eq] using hN
  have hfl : ∀ x, (enc x).all TV.flat = true := fun x => by rw [henc]; rfl
  have hlen : ∀ x, (enc x).length = 1 := fun x => by rw [henc]; rfl
  intro w0 FA UA w a blk FS US hr hF hU
  -- the slot
  have b2 := hr.slot n
  rw [hs] at b2
  simp only [svX, cellX] at b2
  obtain ⟨b2, b3⟩ := b2
  simp only [rep] at b2
  obtain ⟨m, vs, F', b4, b5, b6⟩ := b2
  have hrv := reps_val b5 (encs_flat hfl l)
  obtain ⟨rfl, hUr⟩ := reps_flat b5 (encs_flat hfl l)
  subst hrv
  have hnl : m = l.length := by
    have q := b4.1
    rw [List.length_map, encs_len hlen l, Nat.mul_one, Nat.mul_one] at q
    exact q.symm
  subst hnl
  rw [List.append_nil] at b6
  have b3' := b3 rfl
  have evx : a.eval (.tmp x) = a.eval (.tmp n) := by
    have q := hr.slot x
    rw [hx] at q
    simp only [svX, cellX] at q
    obtain ⟨⟨_, _, _, q4⟩, _⟩ := q
    obtain ⟨q5, _⟩ := q4 hver
    simp only [pv, rootCell, b3'] at q5
    simpa using q5.symm
  simp only [wpList, guard_rel hr (guard_none (P := P) (ops := ops) hg), if_true]
  refine .inl ?_
  unfold Oper.wp
  rw [run_call_fn ho hf]
  have ea : #[Operand.tmp x].map a.eval = #[a.eval (.tmp n)] := by simp [evx]
  rw [ea]
  simp only [Oper.upon]
  rw [encs_ints henc] at b4
  refine Calls.mono (hI w _ l b4 hsz) ?_
  rintro ee w' ⟨rfl, hbe, how⟩
  obtain ⟨FS3, US3, t1, t2, t3⟩ := hr.turnS hF hU hs (t' := .sl true e 1 (encs enc l')) (w' := w') (by rw [b6]; exact hbe)
    (by
      rw [b6, hUr]
      simp only [rep]
      refine ⟨l.length, _, [], ?_, val_reps (encs_flat hfl l'), by simp⟩
      rw [encs_ints henc, ← hl']
      exact how)
  obtain ⟨FS4, US4, u1, u2, u3⟩ := t1.land (w' := w') (d := d) (s := .tup []) (v := .tuple #[]) (F := []) (U := []) hN' (by simp [svX, tupX]) List.nodup_nil (by simp) (by simp) (Nat.le_refl _) rfl rfl rfl (fun _ _ _ => rfl)
  rw [hd]
  exact hk l' hl2 h _ _ _ _ _ _ _ _ u1 u2 u3
end
end Go.TI
