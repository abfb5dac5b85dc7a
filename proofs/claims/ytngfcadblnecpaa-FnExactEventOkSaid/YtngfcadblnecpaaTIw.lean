/- An interpreter of loaded Go code on trees, for every program: append is sound. No condition; no program is in sight. -/
import Derived.Test.YtngfcadblnecpaaTIv
import Derived.Maps.AppendAt
import Derived.Deep.Upon
namespace Go.TI
open Go Go.RowKit
set_option linter.unusedSimpArgs false
set_option linter.unusedVariables false

section
variable {w0 : World} {FA UA : List Nat} {N : Nat} {w : World} {a : Act} {E : St} {blk : Root → Nat} {FS US : Root → List Nat} {P : Program}

theorem pv_of_pa {q : List Nat} {r : Root} {j : Nat} {ad : Addr} {u : Value} (hq : q ≠ []) (h : pa w a blk r q j = some ad) (hc : w.cell? ad = some u) : pv w a blk r q j = some u := by
  cases q with
  | nil => exact absurd rfl hq
  | cons c q =>
    simp only [pa] at h
    obtain ⟨v, h1, h⟩ := Option.bind_eq_some_iff.1 h
    obtain ⟨ad1, h2, rfl⟩ := Option.map_eq_some_iff.1 h
    simp only [pv, h1, Option.bind_some, h2, hc]

/-- The elements of a slice operand, as they are seen. -/
theorem elems_rel (h : Rel w0 FA UA N w a E blk FS US) {x : Operand} {r : Root} {q : List Nat} {j : Nat} {o : Bool} {e sz : Nat} {cells : List TV} (hr : E.ref x = some (r, q, j)) (hp : E.place r q j = some (.sl o e sz cells)) :
    ∃ A m c vs U, a.eval x = .slice A m c ∧ m ≤ c ∧ m * sz = cells.length ∧ vs.length = cells.length ∧ Reads w (a.eval x) vs ∧ cellsX w a E blk (sees E r (q ++ [j]) 0 cells) vs [] U ∧ (∀ b ∈ U, ∃ r, b ∈ US r) ∧ ∀ u ∈ vs, u.oneCell' = true := by
  have hpv := ref_rel h hr
  obtain ⟨F, U, h1, hF, hU⟩ := place_sl h hp hpv
  have key : ∀ (A : Option Addr) (m c : Nat) (vs : List Value) (F' U' : List Nat), a.eval x = .slice A m c → m ≤ c → vs.length = m * sz → Reads w (a.eval x) vs → reps w cells vs F' U' → (∀ b ∈ U', b ∈ U) →
      ∃ A m c vs U, a.eval x = .slice A m c ∧ m ≤ c ∧ m * sz = cells.length ∧ vs.length = cells.length ∧ Reads w (a.eval x) vs ∧ cellsX w a E blk (sees E r (q ++ [j]) 0 cells) vs [] U ∧ (∀ b ∈ U, ∃ r, b ∈ US r) ∧ ∀ u ∈ vs, u.oneCell' = true := by
    intro A m c vs F' U' hv hmc hl hrd hrs hU'
    have hlen := reps_len hrs
    obtain ⟨U4, h13, h14⟩ := sees_rel (a := a) (E := E) (blk := blk) (r := r) (q := q ++ [j]) 0 (cellsX_of_reps hrs) (fun i t' v' hi hv' e sz cells he => by
      obtain ⟨ad, n2, c2, h5, h6⟩ := hrd i v' hv'
      rw [Nat.zero_add]
      refine ⟨pv_of_pa (by simp) (pa_snoc (i := i) (by rw [hpv, h5])) h6, ?_⟩
      unfold St.place at hp
      obtain ⟨cs, h7, hp⟩ := Option.bind_eq_some_iff.1 hp
      obtain ⟨row, h8, h9⟩ := Option.bind_eq_some_iff.1 hp
      simp [St.place, h7, cont_snoc h8 h9, hi])
    exact ⟨A, m, c, vs, U4, hv, hmc, by omega, hlen, hrd, h13, fun b hb => ⟨r, hU b (hU' b (h14 b hb))⟩, reps_one hrs⟩
  cases o with
  | true =>
    simp only [rep] at h1
    obtain ⟨n, vs, F', h2, h3, rfl⟩ := h1
    have hs : ∃ A c, a.eval x = .slice A n c ∧ n ≤ c := by
      rcases h2.2 with ⟨h4, rfl⟩ | ⟨g, cap, cur, h4, _, _, hc, _⟩
      · exact ⟨none, 0, h4, Nat.le_refl _⟩
      · exact ⟨_, _, h4, hc⟩
    obtain ⟨A, c, h4, h5⟩ := hs
    exact key A n c vs F' U h4 h5 h2.1 (own_Reads h2) h3 (fun _ hb => hb)
  | false =>
    simp only [rep] at h1
    obtain ⟨A, n, c, vs, U', h2, h3, h4, h5, h6, rfl, rfl⟩ := h1
    exact key A n c vs [] U' h2 h3 h4 h5 h6 (fun b hb => List.mem_append_right _ hb)

variable (P) in
def effAppend (E : St) (d : Nat) (t : TypeId) (s x : Operand) : Option St := match P.underlying t, E.cell1 P t s with
  | some (.slice e), some sv => match takeCell E sv with
    | some (.sl true e1 sz cells, E1) => match E1.ref x with
      | some (r, q, j) => match E1.place r q j with
        | some (.sl _ _ sz2 cells2) => match takeCells E1 (sees E1 r (q ++ [j]) 0 cells2) with
          | some (news, E2) => if e1 = e ∧ sz = P.cellsOf e ∧ sz2 = sz ∧ 0 < sz ∧ (zeroTVs P e).isSome = true ∧ cells.length / sz + cells2.length / sz ≤ 9223372036854775807 ∧ (cells.length / sz + cells2.length / sz) * P.bytesOf e ≤ 140737488355328 then
              some (E2.put (some d) (.one (.sl true e sz (cells ++ news))))
            else none
          | none => none
        | _ => none
      | none => none
    | _ => none
  | _, _ => none

theorem Done.append (h : Rel w0 FA UA N w a E blk FS US) (hF : FS .hand = []) (hU : US .hand = []) {o : Oper} {d : Nat} {t : TypeId} {s x : Operand} (ho : o.op = .call { callee := .builtin .append, args := #[s, x], argTypes := #[t, t] }) (hd : o.dst = some d) (hN : d < N) {E' : St} (he : effAppend P E d t s x = some E') : Done P w0 FA UA N w a o E' := by
  unfold effAppend at he
  split at he
  · rename_i e sv ht hsv
    split at he
    · rename_i e1 sz cells E1 hx
      split at he
      · rename_i r q j hr
        split at he
        · rename_i o2 e2 sz2 cells2 hpl
          split at he
          · rename_i news E2 hnews
            split at he
            · rename_i hcond
              obtain ⟨rfl, rfl, rfl, hpos, hz, h63, hby⟩ := hcond
              injection he with he
              subst he
              obtain ⟨zs, hz⟩ := Option.isSome_iff_exists.1 hz
              obtain ⟨i, z, hi, hzz, hzs, _⟩ := zeroTVs_rep (w := w) hz
              have hsz : i.size = P.cellsOf e1 := by simp [Program.cellsOf, hi]
              have hbyt : i.bytes = P.bytesOf e1 := by simp [Program.bytesOf, hi]
              obtain ⟨U0, c1, c2, _⟩ := cell1_rel h hsv
              obtain ⟨FS1, US1, F1, U1, a1, a2, a3, a4, a5, a6⟩ := takeCell_rel h c1 c2 hx
              obtain ⟨A, m, c, vs, U, b1, b2, b3, b4, b5, b6, b7, b8⟩ := elems_rel a2 hr hpl
              obtain ⟨FS2, US2, F2, U2, d1, d2, d3, d4, d5, d6⟩ := takeCells_rel a2 b6 b7 hnews
              rw [hF, List.nil_append] at a3
              rw [hU, List.nil_append] at a4
              rw [a3] at d3
              rw [a4] at d4
              simp only [rep] at a1
              obtain ⟨n, ws, F1', hown, hrs, rfl⟩ := a1
              have hwl := reps_len hrs
              have hdl := reps_len d1
              have hn : cells.length / P.cellsOf e1 = n := by
                rw [← hwl, hown.1]
                exact Nat.mul_div_cancel _ hpos
              have hm : cells2.length / P.cellsOf e1 = m := by
                rw [← b3]
                exact Nat.mul_div_cancel _ hpos
              rw [hn, hm] at h63 hby
              -- the machine's step
              have hstep : ∃ v' w', (Builtin.append_ #[t, t] o.type #[a.eval s, a.eval x]).run P w = .ok v' w' ∧ w'.ownsRow 0 e1 (P.cellsOf e1) v' (n + m) (ws ++ vs) ∧ w.grownBy w' (a.eval s).ownBlock ∧ (v'.ownBlock = (a.eval s).ownBlock ∨ v'.ownBlock = some w.heap.size) := by
                rw [b1]
                cases A with
                | some ad =>
                  obtain ⟨v', w', e1', e2', e3', _, e5'⟩ := run_append_own_at (P := P) w 0 t o.type e1 i z (P.cellsOf e1) (P.bytesOf e1) ht hi hzz hsz hbyt hzs hpos (a.eval s) n ws hown ad m c vs (by omega) (fun j u hu => by
                    obtain ⟨ad', n', c', e1', e2'⟩ := b5 j u hu
                    rw [b1] at e1'
                    injection e1' with e1'
                    injection e1' with e1'
                    subst e1'
                    exact e2') b8 (by simp only [maxLen]; omega) hby (Nat.zero_le _)
                  exact ⟨v', w', e1', e2', e3', e5'⟩
                | none =>
                  have hv0 : vs = [] := by
                    cases vs with
                    | nil => rfl
                    | cons u us =>
                      obtain ⟨ad', n', c', e1', _⟩ := b5 0 u rfl
                      rw [b1] at e1'
                      cases e1'
                  subst hv0
                  have hm0 : m = 0 := by
                    rcases Nat.eq_zero_or_pos m with h0 | h0
                    · exact h0
                    · have := Nat.mul_pos h0 hpos
                      simp at b4
                      omega
                  subst hm0
                  have hs : ∃ B c', a.eval s = .slice B n c' ∧ n ≤ c' := by
                    rcases hown.2 with ⟨h4, rfl⟩ | ⟨g, cap, cur, h4, _, _, hc, _⟩
                    · exact ⟨none, 0, h4, Nat.le_refl _⟩
                    · exact ⟨_, _, h4, hc⟩
                  obtain ⟨B, c', hs1, hs2⟩ := hs
                  have := run_append_nothing (P := P) w t t o.type e1 i ht hi B n c' hs2 (.slice none 0 c) ⟨.inl ⟨e1, ht⟩, fun w' => by simp [Builtin.lenOf], by simp [Builtin.firstCells, loadCells], by simp [Builtin.firstCells, loadCells], by simp, by simp⟩
                  rw [hs1]
                  refine ⟨_, w, this, ?_, ⟨rfl, rfl, rfl, Nat.le_refl _, fun _ _ _ => rfl⟩, .inl rfl⟩
                  rw [← hs1]
                  simpa using hown
              obtain ⟨v', w', e1', e2', e3', e4'⟩ := hstep
              have hnd : FS2 .hand = blkOf (a.eval s) ++ F1' ++ F2 := d3
              have hndd := d2.nodup .hand
              rw [hnd] at hndd
              obtain ⟨n1, n2, n3⟩ := List.nodup_append.1 hndd
              obtain ⟨n4, n5, n6⟩ := List.nodup_append.1 n1
              have hlt : ∀ b ∈ FS2 .hand, b < w.heap.size := fun b hb => (d2.inF .hand b hb).2
              have hkeepF : ∀ b ∈ F1' ++ F2, w'.heap[b]? = w.heap[b]? := by
                intro b hb
                refine e3'.block b (hlt b (by rw [hnd]; simp at hb ⊢; rcases hb with hb | hb <;> simp [hb])) (fun hbs => ?_)
                have hbb : b ∈ blkOf (a.eval s) := by simp [blkOf, ← hbs]
                rcases List.mem_append.1 hb with hb | hb
                · exact n6 b hbb b hb rfl
                · exact n3 b (List.mem_append_left _ hbb) b hb rfl
              have hUin : ∀ b ∈ U1 ++ U2, b ∈ US2 .hand := fun b hb => by rw [d4]; exact hb
              have hkeepU : ∀ b ∈ U1 ++ U2, w'.heap[b]? = w.heap[b]? := by
                intro b hb
                refine e3'.block b (d2.inU .hand b (hUin b hb)).2 (fun hbs => ?_)
                have hbb : b ∈ blkOf (a.eval s) := by simp [blkOf, ← hbs]
                exact d2.disU .hand .hand b (by rw [hnd]; simp [hbb]) (hUin b hb)
              have hreps := reps_move (w' := w') (reps_append hrs d1) hkeepF hkeepU
              have hblk : ∀ b ∈ blkOf v', (b ∈ blkOf (a.eval s) ∨ w.heap.size ≤ b) ∧ b < w'.heap.size := by
                intro b hb
                have hb' : v'.ownBlock = some b := by simpa [blkOf] using hb
                refine ⟨?_, ?_⟩
                · rcases e4' with e4' | e4'
                  · left; simp [blkOf, ← e4', hb']
                  · right; rw [hb'] at e4'; injection e4' with e4'; omega
                · rcases e2'.2 with ⟨k1, _⟩ | ⟨g, cap, cur, rfl, _, k2, _⟩
                  · rw [k1] at hb'; cases hb'
                  · simp [Value.ownBlock] at hb'
                    subst hb'
                    exact (Array.getElem?_eq_some_iff.1 k2).1
              obtain ⟨FS', US', g1, g2, g3⟩ := d2.land (w' := w') (d := d) (s := .one (.sl true e1 (P.cellsOf e1) (cells ++ news))) (v := v') (F := blkOf v' ++ (F1' ++ F2)) (U := U1 ++ U2) hN
                (by
                  simp only [svX, cellX, rep]
                  refine ⟨⟨n + m, _, _, e2', hreps, rfl⟩, fun _ => ?_⟩
                  rcases e2'.2 with ⟨k1, _⟩ | ⟨g, cap, cur, rfl, _⟩
                  · rw [k1]; rfl
                  · rfl)
                (by
                  rw [List.nodup_append]
                  refine ⟨?_, ?_, ?_⟩
                  · unfold blkOf
                    cases v'.ownBlock <;> simp
                  · rw [List.nodup_append]
                    exact ⟨n5, n2, fun x hx y hy => n3 x (List.mem_append_right _ hx) y hy⟩
                  · intro x hx y hy hxy
                    subst hxy
                    rcases (hblk x hx).1 with k | k
                    · rcases List.mem_append.1 hy with hy | hy
                      · exact n6 x k x hy rfl
                      · exact n3 x (List.mem_append_left _ k) x hy rfl
                    · have := hlt x (by rw [hnd]; simp at hy ⊢; rcases hy with hy | hy <;> simp [hy])
                      omega)
                (by
                  intro b hb
                  rcases List.mem_append.1 hb with hb | hb
                  · obtain ⟨k1, k2⟩ := hblk b hb
                    refine ⟨k1.imp (fun k => ?_) id, k2⟩
                    rw [hnd]; simp [k]
                  · have hm : b ∈ FS2 .hand := by rw [hnd]; simp at hb ⊢; rcases hb with hb | hb <;> simp [hb]
                    exact ⟨.inl hm, Nat.lt_of_lt_of_le (hlt b hm) e3'.size⟩)
                (fun b hb => .inl ⟨_, hUin b hb⟩)
                e3'.size e3'.os e3'.tape e3'.output
                (fun b hb hbF => e3'.block b hb (fun hbs => hbF (by rw [hnd]; simp [blkOf, ← hbs])))
              refine ⟨.value v', w', v', blk, FS', US', ?_, .inl rfl, by rw [hd]; exact g1, g2, g3⟩
              simp [execOp, ho, resolve, invoke, builtin, e1']
            · cases he
          · cases he
        · cases he
      · cases he
    · cases he
  · cases he
end
end Go.TI
