/- An interpreter of loaded Go code on trees, for every program: store and make are sound. No condition; no program is in sight. -/
import Derived.Test.YtngfcadblnecpaaTIu
namespace Go.TI
open Go Go.RowKit
set_option linter.unusedSimpArgs false
set_option linter.unusedVariables false

section
variable {w0 : World} {FA UA : List Nat} {N : Nat} {w : World} {a : Act} {E : St} {blk : Root → Nat} {FS US : Root → List Nat} {P : Program}

theorem Done.store (h : Rel w0 FA UA N w a E blk FS US) (hF : FS .hand = []) (hU : US .hand = []) {o : Oper} {t : TypeId} {ad x : Operand} (ho : o.op = .store t ad x) (hd : o.dst = none) {E' : St} (he : effStore P E t ad x = some E') : Done P w0 FA UA N w a o E' := by
  unfold effStore at he
  split at he
  · rename_i s hs
    split at he
    · rename_i xs E1 hx
      split at he
      · rename_i r q j hp
        split at he
        · rename_i cs hr
          split at he
          · rename_i row hc
            split at he
            · rename_i hcond
              obtain ⟨hown, hlen, hpos, hfit⟩ := hcond
              obtain ⟨U, h1, h2⟩ := val_rel h hs
              obtain ⟨FS1, US1, F1, U1, h3, h4, h5, h6, _, _⟩ := takeSV_rel h h1 h2 hx
              rw [hF, List.nil_append] at h5
              rw [hU, List.nil_append] at h6
              subst h5 h6
              obtain ⟨_, adr, h7, h8⟩ := ptr_rel h4 hp
              have hE : E' = (E1.setRoot r (updC cs q fun row => setRow row j xs)).bump r ∨ (q = [] ∧ ((row.drop j).take xs.length).any TV.isSl = false ∧ E' = E1.setRoot r (updC cs q fun row => setRow row j xs)) := by
                split at he
                · rename_i hq
                  injection he with he
                  exact .inr ⟨by cases q <;> simp_all, hq.2, he.symm⟩
                · injection he with he
                  exact .inl he.symm
              obtain ⟨w', FS', US', h9, h10, h11, h12⟩ := store_core (P := P) h4 hr hc hown h7 h3 hpos hfit hlen hE
              refine ⟨.skip, w', undef, blk, FS', US', ?_, .inr ⟨rfl, rfl⟩, by rw [hd]; exact h10, h11, h12⟩
              simp [execOp, ho, Instr.storeAt, h8, Instr.sureAddr, h9]
            · cases he
          · cases he
        · cases he
      · cases he
    · cases he
  · cases he

/-- A value that is made out of the hand and of new blocks. -/
theorem Rel.land (h : Rel w0 FA UA N w a E blk FS US) {w' : World} {d : Nat} {s : SV} {v : Value} {F U : List Nat} (hd : d < N)
    (hs : svX w' (a.put (some d) v) (E.put (some d) s) blk s v F U) (hnd : F.Nodup)
    (hF : ∀ b ∈ F, (b ∈ FS .hand ∨ w.heap.size ≤ b) ∧ b < w'.heap.size)
    (hU : ∀ b ∈ U, (∃ s, b ∈ US s) ∨ ((b ∈ FS .hand ∨ w.heap.size ≤ b) ∧ b ∉ F ∧ b < w'.heap.size))
    (hsize : w.heap.size ≤ w'.heap.size) (hos : w'.os = w.os) (htape : w'.tape = w.tape) (hout : w'.output = w.output)
    (hkeep : ∀ b, b < w.heap.size → b ∉ FS .hand → w'.heap[b]? = w.heap[b]?) :
    ∃ FS' US', Rel w0 FA UA N w' (a.put (some d) v) (E.put (some d) s) blk FS' US' ∧ FS' .hand = [] ∧ US' .hand = [] := by
  have hst : ∀ r, Steady w w' a (a.put (some d) v) E (E.put (some d) s) blk blk r := by
    intro r
    by_cases hr : r = .slot d
    · subst hr
      exact ⟨.inl (by rw [put_ver_eq]; omega), .inr ⟨by rw [put_gen], fun j ad h1 _ => by simp [pa] at h1⟩⟩
    · by_cases hh : r = .hand
      · subst hh
        exact steady_none (put_ver hr) (by rw [put_gen]) (by simp [St.root, h.nohand])
      · exact steady_other h (put_ver hr) (by rw [put_gen]) (put_root hr) (fun n hn => eval_put_ne (fun e => hr (by rw [hn, e]))) (fun _ => rfl)
          (fun b hb => hkeep b (h.inF r b hb).2 (h.dis r .hand hh b hb)) (fun b hb => hkeep b (h.inU r b hb).2 (fun e => h.disU .hand r b e hb))
  have h1 := h.two (w' := w') (a' := a.put (some d) v) (E' := E.put (some d) s) (blk' := blk) (r1 := .slot d) (r2 := .hand) (L1 := F) (L2 := []) (V1 := U) (V2 := []) (by simp)
    (by simpa using hnd)
    (by
      intro b hb
      simp only [List.append_nil] at hb
      exact ⟨.inr (hF b hb).1, (hF b hb).2⟩)
    (by
      intro b hb
      simp only [List.append_nil] at hb ⊢
      rcases hU b hb with hx | ⟨hx, hy, hz⟩
      · exact .inl hx
      · exact .inr ⟨.inr hx, hy, hz⟩)
    hsize hos htape hout (fun b hb _ hb2 => hkeep b hb hb2) hst
    (fun m hm1 _ => by
      have hmd : m ≠ d := fun e => hm1 (by rw [e])
      exact ⟨by simp [St.put, upd, hmd], eval_put_ne hmd⟩)
    (fun s hm hs _ => ⟨rfl, rfl⟩)
    (by
      have hev : (a.put (some d) v).eval (.tmp d) = v := eval_put_eq (Nat.lt_of_lt_of_le hd h.len)
      have hsl : (E.put (some d) s).slots d = s := by simp [St.put, upd]
      simp only [rootOk, hev, hsl]
      exact hs)
    trivial h.nohand (by rw [put_size]; exact h.len) (by rw [put_defers]; exact h.nodef)
  exact ⟨_, _, h1, by rw [upd_eq], by rw [upd_eq]⟩

theorem madeCells_flat (z : Array Value) (sz : Nat) (hz : z.size = sz) : ∀ n, (madeCells z (n * sz)).toList = (List.replicate n z.toList).flatten := by
  intro n
  subst hz
  have hrow : ∀ k, (List.range z.size).map (fun j => z[(k * z.size + j) % z.size]!) = z.toList := by
    intro k
    apply List.ext_getElem
    · simp
    · intro i h1 h2
      simp at h1
      simp [Nat.mod_eq_of_lt h1, h1]
  have main : ∀ n, (List.range (n * z.size)).map (fun i => z[i % z.size]!) = (List.replicate n z.toList).flatten := by
    intro n
    induction n with
    | zero => simp
    | succ n ih =>
      rw [Nat.succ_mul, List.range_add, List.map_append, ih, List.map_map]
      have := hrow n
      rw [List.replicate_succ', List.flatten_append]
      simp only [List.flatten_cons, List.flatten_nil, List.append_nil]
      congr 1
  simp only [madeCells, Array.toList_map, Array.toList_range]
  exact main n

theorem Done.make (h : Rel w0 FA UA N w a E blk FS US) (hF : FS .hand = []) (hU : US .hand = []) {o : Oper} {d : Nat} {t : TypeId} {l c : Operand} (ho : o.op = .makeSlice t l c) (hd : o.dst = some d) (hN : d < N) {E' : St} (he : effMake P E d t l c = some E') : Done P w0 FA UA N w a o E' := by
  unfold effMake at he
  split at he
  · rename_i e kl n kc m ht hl hc
    split at he
    · rename_i zs hz
      split at he
      · rename_i hcond
        obtain ⟨rfl, h0, hb, h63⟩ := hcond
        injection he with he
        subst he
        obtain ⟨i, z, hi, hzz, hzs, hr⟩ := zeroTVs_rep (w := w) hz
        have hsz : i.size = P.cellsOf e := by simp [Program.cellsOf, hi]
        have hby : i.bytes = P.bytesOf e := by simp [Program.bytesOf, hi]
        have hrun := run_make (P := P) w t e i z ht hi hzz kl kc n n h0 (Int.le_refl _) (by rw [hby]; exact hb) h63
        have hzl := reps_len hr
        have hm : (madeCells z.cells (n.toNat * i.size)).toList = (List.replicate n.toNat z.cells.toList).flatten := madeCells_flat _ _ (by rw [hzs, hsz]) _
        have hreps : reps w (List.replicate n.toNat zs).flatten (madeCells z.cells (n.toNat * i.size)).toList (FS .hand) (US .hand) := by
          rw [hm, hF, hU]
          exact reps_replicate hr _
        have hml := reps_len hreps
        obtain ⟨FS', US', h1, h2, h3⟩ := h.newRow (d := d) (e := e) (sz := P.cellsOf e) (n := n.toNat) hN hreps (by
          rw [← hml]
          simp [madeCells, hsz]) (by simp only [maxLen]; omega)
        refine ⟨.value _, _, _, blk, FS', US', ?_, .inl rfl, by rw [hd]; exact h1, h2, h3⟩
        simp [execOp, ho, cell1_int h hl, cell1_int h hc, hrun]
      · cases he
    · cases he
  · cases he
end
end Go.TI
