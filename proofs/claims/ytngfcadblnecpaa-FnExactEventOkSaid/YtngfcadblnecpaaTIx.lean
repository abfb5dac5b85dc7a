/- An interpreter of loaded Go code on trees, for every program: assign and extract are sound. No condition; no program is in sight. -/
import Derived.Test.YtngfcadblnecpaaTIw
namespace Go.TI
open Go Go.RowKit
set_option linter.unusedSimpArgs false
set_option linter.unusedVariables false

section
variable {w0 : World} {FA UA : List Nat} {N : Nat} {w : World} {a : Act} {E : St} {blk : Root → Nat} {FS US : Root → List Nat} {P : Program}

variable (P) in
/-- A value moved into a slot. -/
def effAssign (E : St) (d : Nat) (t : TypeId) (x : Operand) : Option St := match E.val P t x with
  | some s => match takeSV E s with
    | some (xs, E1) => some (E1.put (some d) (s.withCells xs))
    | none => none
  | none => none

theorem takeCells_len : ∀ {ts xs : List TV} {E E' : St}, takeCells E ts = some (xs, E') → xs.length = ts.length
  | [], xs, E, E', h => by
    simp only [takeCells, Option.some.injEq, Prod.mk.injEq] at h
    rw [← h.1]
  | t :: ts, xs, E, E', h => by
    simp only [takeCells] at h
    split at h
    · split at h
      · rename_i h1
        simp only [Option.some.injEq, Prod.mk.injEq] at h
        rw [← h.1]
        simp [takeCells_len h1]
      · cases h
    · cases h

theorem Done.assign (h : Rel w0 FA UA N w a E blk FS US) (hF : FS .hand = []) (hU : US .hand = []) {o : Oper} {d : Nat} {x : Operand} (ho : o.op = .assign x ∨ o.op = .move x) (hd : o.dst = some d) (hN : d < N) {E' : St} (he : effAssign P E d o.type x = some E') : Done P w0 FA UA N w a o E' := by
  unfold effAssign at he
  split at he
  · rename_i s hs
    split at he
    · rename_i xs E1 hx
      injection he with he
      subst he
      obtain ⟨U, h1, h2⟩ := val_rel h hs
      obtain ⟨FS1, US1, F1, U1, h3, h4, h5, h6, _, _⟩ := takeSV_rel h h1 h2 hx
      rw [hF, List.nil_append] at h5
      rw [hU, List.nil_append] at h6
      have hrun : (execOp a.eval o).run P w = .ok (.value (a.eval x)) w := by
        rcases ho with ho | ho <;> simp [execOp, ho]
      have hsv : ∀ (a' : Act) (E' : St), svX w a' E' blk (s.withCells xs) (a.eval x) F1 U1 := by
        intro a' E'
        unfold takeSV at hx
        split at hx
        · rename_i hpl
          have hxl := takeCells_len hx
          cases s with
          | one t =>
            simp only [SV.cells, List.length_singleton] at hxl
            simp only [svX] at h1
            have hj : t.isJunk = false := by cases t <;> first | rfl | cases hpl
            have hc := h1.2 hj
            match xs, hxl with
            | [x'], _ =>
              rw [hc] at h3
              simp only [reps] at h3
              obtain ⟨v2, vs2, G1, G2, V1, V2, hh, rfl, rfl, h15, rfl, rfl, rfl⟩ := h3
              injection hh with hh _
              subst hh
              simp only [SV.withCells, svX, List.append_nil]
              exact ⟨cellX_of_rep h15, fun _ => hc⟩
          | agg cs =>
            simp only [svX] at h1
            obtain ⟨vs, hv, _⟩ := h1
            simp only [SV.withCells, svX]
            rw [hv] at h3
            exact ⟨vs, hv, cellsX_of_reps (by simpa [Value.cells] using h3)⟩
          | tup ss => cases hpl
        · cases hx
      obtain ⟨FS', US', g1, g2, g3⟩ := h4.land (w' := w) (d := d) (s := s.withCells xs) (v := a.eval x) (F := F1) (U := U1) hN (hsv _ _)
        (by have := h4.nodup .hand; rwa [h5] at this)
        (fun b hb => ⟨.inl (by rw [h5]; exact hb), (h4.inF .hand b (by rw [h5]; exact hb)).2⟩)
        (fun b hb => .inl ⟨.hand, by rw [h6]; exact hb⟩)
        (Nat.le_refl _) rfl rfl rfl (fun _ _ _ => rfl)
      exact ⟨.value _, w, _, blk, FS', US', hrun, .inl rfl, by rw [hd]; exact g1, g2, g3⟩
    · cases he
  · cases he

theorem tupX_upd : ∀ {ts : List SV} {vs : List Value} {F U : List Nat} (c : Nat) {t : SV}, tupX w a E blk ts vs F U → ts[c]? = some t →
    ∃ v A B C D F1 U1, vs[c]? = some v ∧ svX w a E blk t v F1 U1 ∧ F = A ++ F1 ++ B ∧ U = C ++ U1 ++ D ∧ tupX w a E blk (ts.set c (.one .junk)) vs (A ++ B) (C ++ D)
  | [], _, _, _, c, t, _, hc => by simp at hc
  | t0 :: ts, vs, F, U, 0, t, h, hc => by
    simp only [tupX] at h
    obtain ⟨v, vs', F1, F2, U1, U2, rfl, rfl, rfl, h1, h2⟩ := h
    simp at hc
    subst hc
    refine ⟨v, [], F2, [], U2, F1, U1, rfl, h1, rfl, rfl, ?_⟩
    simp only [List.set_cons_zero, tupX]
    exact ⟨v, vs', [], F2, [], U2, rfl, rfl, rfl, by simp [svX, cellX, TV.isJunk], h2⟩
  | t0 :: ts, vs, F, U, c + 1, t, h, hc => by
    simp only [tupX] at h
    obtain ⟨v, vs', F1, F2, U1, U2, rfl, rfl, rfl, h1, h2⟩ := h
    simp at hc
    obtain ⟨u, A, B, C, D, G, V, h3, h4, rfl, rfl, hk⟩ := tupX_upd c h2 hc
    refine ⟨u, F1 ++ A, B, U1 ++ C, D, G, V, by simpa using h3, h4, by simp, by simp, ?_⟩
    simp only [List.set_cons_succ, tupX]
    exact ⟨v, vs', F1, A ++ B, U1, C ++ D, rfl, by simp, by simp, h1, hk⟩

/-- A component taken out of what a call gave. -/
def effExtract (E : St) (d : Nat) (t : Operand) (ix : Nat) : Option St := match t with
  | .tmp n => match E.slots n with
    | .tup ss => match ss[ix]? with
      | some s => if n = d then none else some (({ E with slots := upd E.slots n (.tup (ss.set ix (.one .junk))) } : St).put (some d) s)
      | none => none
    | _ => none
  | _ => none

theorem Done.extract (h : Rel w0 FA UA N w a E blk FS US) (hF : FS .hand = []) (hU : US .hand = []) {o : Oper} {d : Nat} {t : Operand} {ix : Nat} (ho : o.op = .extract t ix) (hd : o.dst = some d) (hN : d < N) {E' : St} (he : effExtract E d t ix = some E') : Done P w0 FA UA N w a o E' := by
  unfold effExtract at he
  split at he
  · rename_i n
    split at he
    · rename_i ss hss
      split at he
      · rename_i s hix
        split at he
        · cases he
        · rename_i hnd
          injection he with he
          subst he
          have hs := h.slot n
          rw [hss] at hs
          simp only [svX] at hs
          obtain ⟨vs, hvs, hx⟩ := hs
          obtain ⟨v, A, B, C, D, F1, U1, h1, h2, h3, h4, h5⟩ := tupX_upd ix hx hix
          have hne : Root.slot d ≠ Root.slot n := fun e => hnd (Root.slot.inj e).symm
          have hst : ∀ r, Steady w w a (a.put (some d) v) E (({ E with slots := upd E.slots n (.tup (ss.set ix (.one .junk))) } : St).put (some d) s) blk blk r := by
            intro r
            refine Steady.trans (w2 := w) (a2 := a) (E2 := { E with slots := upd E.slots n (.tup (ss.set ix (.one .junk))) }) (b2 := blk) ?_ (steady_put r)
            have hroot : ∀ s, ({ E with slots := upd E.slots n (.tup (ss.set ix (.one .junk))) } : St).root s = E.root s := by
              intro s
              cases s with
              | slot m =>
                by_cases hm : m = n
                · subst hm; simp [St.root, upd, hss, SV.cells]
                · simp [St.root, upd, hm]
              | _ => rfl
            have hpl : ∀ q j, ({ E with slots := upd E.slots n (.tup (ss.set ix (.one .junk))) } : St).place r q j = E.place r q j := fun q j => by simp only [St.place, hroot]
            refine ⟨.inr ⟨rfl, fun q j u k1 k2 => ?_, fun q j ad _ k1 k2 => ?_⟩, .inr ⟨rfl, fun j ad k1 k2 => ?_⟩⟩ <;> rw [hpl] <;> exact ⟨k1, k2⟩
          have hndn := h.nodup (.slot n)
          rw [h3] at hndn
          obtain ⟨m1, m2, m3⟩ := nodup_mid hndn
          have h6 := h.two (w' := w) (a' := a.put (some d) v) (E' := ({ E with slots := upd E.slots n (.tup (ss.set ix (.one .junk))) } : St).put (some d) s) (blk' := blk) (r1 := .slot d) (r2 := .slot n) (L1 := F1) (L2 := A ++ B) (V1 := U1) (V2 := C ++ D) hne
            (by
              rw [List.nodup_append]
              refine ⟨m1, m3, fun x hx y hy e => ?_⟩
              subst e
              rcases List.mem_append.1 hy with hy | hy
              · exact (m2 x hx).1 hy
              · exact (m2 x hx).2 hy)
            (by
              intro b hb
              have : b ∈ FS (.slot n) := by rw [h3]; simp at hb ⊢; rcases hb with hb | hb | hb <;> simp [hb]
              exact ⟨.inr (.inl this), (h.inF _ b this).2⟩)
            (by
              intro b hb
              exact .inl ⟨.slot n, by rw [h4]; simp at hb ⊢; rcases hb with hb | hb | hb <;> simp [hb]⟩)
            (Nat.le_refl _) rfl rfl rfl (fun _ _ _ _ => rfl) hst
            (fun m k1 k2 => by
              have e1 : m ≠ d := fun e => k1 (by rw [e])
              have e2 : m ≠ n := fun e => k2 (by rw [e])
              exact ⟨by simp [St.put, upd, e1, e2], eval_put_ne e1⟩)
            (fun s _ _ _ => ⟨rfl, rfl⟩)
            (by
              have hev : (a.put (some d) v).eval (.tmp d) = v := eval_put_eq (Nat.lt_of_lt_of_le hN h.len)
              have hsl : (({ E with slots := upd E.slots n (.tup (ss.set ix (.one .junk))) } : St).put (some d) s).slots d = s := by simp [St.put, upd]
              simp only [rootOk, hev, hsl]
              exact svX_step hst h2 (fun _ _ => rfl) (fun _ _ => rfl))
            (by
              have hev : (a.put (some d) v).eval (.tmp n) = a.eval (.tmp n) := eval_put_ne hnd
              have hsl : (({ E with slots := upd E.slots n (.tup (ss.set ix (.one .junk))) } : St).put (some d) s).slots n = .tup (ss.set ix (.one .junk)) := by simp [St.put, upd, hnd]
              simp only [rootOk, hev, hsl, svX]
              exact ⟨vs, hvs, tupX_step hst h5 (fun _ _ => rfl) (fun _ _ => rfl)⟩)
            h.nohand (by rw [put_size]; exact h.len) (by rw [put_defers]; exact h.nodef)
          refine ⟨.value v, w, v, blk, _, _, ?_, .inl rfl, by rw [hd]; exact h6, ?_, ?_⟩
          · simp [execOp, ho, Instr.extract, hvs, h1]
          · rw [upd_ne (by simp), upd_ne (by simp), hF]
          · rw [upd_ne (by simp), upd_ne (by simp), hU]
      · cases he
    · cases he
  · cases he
end
end Go.TI
