/- An interpreter of loaded Go code on trees, for every program: a store, at its core. No condition; no program is in sight. -/
import Derived.Test.YtngfcadblnecpaaTIt
import Derived.Laws.CopyRow
namespace Go.TI
open Go Go.RowKit
set_option linter.unusedSimpArgs false
set_option linter.unusedVariables false

theorem reps_split {w : World} : ∀ (j : Nat) {ts : List TV} {vs : List Value} {F U : List Nat}, reps w ts vs F U →
    ∃ F1 F2 U1 U2, F = F1 ++ F2 ∧ U = U1 ++ U2 ∧ reps w (ts.take j) (vs.take j) F1 U1 ∧ reps w (ts.drop j) (vs.drop j) F2 U2
  | 0, ts, vs, F, U, h => ⟨[], F, [], U, rfl, rfl, by simp [reps], by simpa using h⟩
  | j + 1, [], vs, F, U, h => by
    simp only [reps] at h
    obtain ⟨rfl, rfl, rfl⟩ := h
    exact ⟨[], [], [], [], rfl, rfl, by simp [reps], by simp [reps]⟩
  | j + 1, t :: ts, vs, F, U, h => by
    simp only [reps] at h
    obtain ⟨v, vs', F1, F2, U1, U2, rfl, rfl, rfl, h1, h2⟩ := h
    obtain ⟨F3, F4, U3, U4, rfl, rfl, h3, h4⟩ := reps_split j h2
    refine ⟨F1 ++ F3, F4, U1 ++ U3, U4, by simp, by simp, ?_, by simpa using h4⟩
    simp only [List.take_succ_cons, reps]
    exact ⟨v, _, F1, F3, U1, U3, rfl, rfl, rfl, h1, h3⟩

theorem setRow_length {α : Type} {cs xs : List α} {j : Nat} (h : j + xs.length ≤ cs.length) : (setRow cs j xs).length = cs.length := by
  simp only [setRow, List.length_append, List.length_take, List.length_drop]
  omega

/-- A row with a part turned. -/
theorem reps_setRow {w : World} {ts xs : List TV} {vs us : List Value} {F U G V : List Nat} {j : Nat} (h : reps w ts vs F U) (k : reps w xs us G V) :
    ∃ Fa Fm Fb Ua Um Ub, F = Fa ++ Fm ++ Fb ∧ U = Ua ++ Um ++ Ub ∧ reps w (setRow ts j xs) (setRow vs j us) (Fa ++ G ++ Fb) (Ua ++ V ++ Ub) := by
  obtain ⟨Fa, F2, Ua, U2, rfl, rfl, h1, h2⟩ := reps_split j h
  obtain ⟨Fm, Fb, Um, Ub, rfl, rfl, h3, h4⟩ := reps_split xs.length h2
  refine ⟨Fa, Fm, Fb, Ua, Um, Ub, by simp, by simp, ?_⟩
  have hl := reps_len k
  rw [List.drop_drop, List.drop_drop] at h4
  have := reps_append (reps_append h1 k) h4
  simp only [setRow]
  rw [hl]
  exact this

section
variable (P : Program)
def effStore (E : St) (t : TypeId) (ad x : Operand) : Option St := match E.val P t x with
  | some s => match takeSV E s with
    | some (xs, E1) => match E1.ptr? ad with
      | some (r, q, j) => match E1.root r with
        | some cs => match cont cs q with
          | some row => if ownP cs q = true ∧ xs.length = P.cellsOf t ∧ 0 < xs.length ∧ j + xs.length ≤ row.length then
              (let E2 := E1.setRoot r (updC cs q fun row => setRow row j xs)
              if q.isEmpty = true ∧ ((row.drop j).take xs.length).any TV.isSl = false then some E2 else some (E2.bump r))
            else none
          | none => none
        | none => none
      | none => none
    | none => none
  | none => none
end


section
variable {w0 : World} {FA UA : List Nat} {N : Nat} {w : World} {a : Act} {E : St} {blk : Root → Nat} {FS US : Root → List Nat} {P : Program}

theorem setRow_other_cell {α : Type} {cs xs : List α} {j c : Nat} (h : c < j ∨ j + xs.length ≤ c) (hj : j + xs.length ≤ cs.length) : (setRow cs j xs)[c]? = cs[c]? := by
  have hl : (cs.take j).length = j := by rw [List.length_take]; omega
  simp only [setRow]
  rcases h with h | h
  · rw [List.append_assoc, List.getElem?_append_left (by omega), List.getElem?_take]
    simp [h]
  · rw [List.getElem?_append_right (by rw [List.length_append, hl]; omega), List.getElem?_drop, List.length_append, hl]
    congr 1
    omega

theorem run_storeVar {t : TypeId} {g j : Nat} {T : TypeId} {cur : Array Value} {v : Value} (hg : w.heap[g]? = some (.cells cur T (0, 0))) (hv : v.cells.size = P.cellsOf t) (hp : 0 < v.cells.size) (hfit : j + v.cells.size ≤ cur.size) (h1 : ∀ u ∈ v.cells.toList, u.oneCell' = true) :
    (storeVar t ⟨g, j, none⟩ v).run P w = .ok () (w.setRow g (setRow cur.toList j v.cells.toList).toArray) := by
  obtain ⟨i, hi, _⟩ := info_of_cells (P := P) (t := t) (by omega)
  have hs := run_storeCells_at P g j T v.cells.toList 0 cur w hg (by simpa using hfit) h1
  simp only [storeVar, Sem.run_bind, run_sizeOf w hi, Result.andThen_ok]
  rw [if_neg (by simp [hv])]
  rw [hs]
  simp [setRow]


theorem cellsX_upd_step : ∀ {ts : List TV} {vs : List Value} {F U : List Nat} (c : Nat) {t : TV}, cellsX w a E blk ts vs F U → ts[c]? = some t →
    ∃ v A B C D F1 U1, vs[c]? = some v ∧ cellX w a E blk t v F1 U1 ∧ F = A ++ F1 ++ B ∧ U = C ++ U1 ++ D ∧
      ∀ (w' : World) (a' : Act) (E' : St) (blk' : Root → Nat), (∀ r, Steady w w' a a' E E' blk blk' r) → ∀ t' F1' U1', cellX w' a' E' blk' t' v F1' U1' → (∀ b ∈ A ++ B, w'.heap[b]? = w.heap[b]?) → (∀ b ∈ C ++ D, w'.heap[b]? = w.heap[b]?) → cellsX w' a' E' blk' (ts.set c t') vs (A ++ F1' ++ B) (C ++ U1' ++ D)
  | [], _, _, _, c, t, _, hc => by simp at hc
  | t0 :: ts, vs, F, U, 0, t, h, hc => by
    obtain ⟨v, vs', F1, F2, U1, U2, rfl, rfl, rfl, h1, h2⟩ := h
    simp at hc
    subst hc
    refine ⟨v, [], F2, [], U2, F1, U1, rfl, h1, rfl, rfl, fun w' a' E' blk' hs t' F1' U1' hx hA hC => ?_⟩
    exact ⟨v, vs', F1', F2, U1', U2, rfl, rfl, rfl, hx, cellsX_step hs h2 (by simpa using hA) (by simpa using hC)⟩
  | t0 :: ts, vs, F, U, c + 1, t, h, hc => by
    obtain ⟨v, vs', F1, F2, U1, U2, rfl, rfl, rfl, h1, h2⟩ := h
    simp at hc
    obtain ⟨u, A, B, C, D, G, V, h3, h4, rfl, rfl, hk⟩ := cellsX_upd_step c h2 hc
    refine ⟨u, F1 ++ A, B, U1 ++ C, D, G, V, by simpa using h3, h4, by simp, by simp, fun w' a' E' blk' hs t' F1' U1' hx hA hC => ?_⟩
    refine ⟨v, vs', F1, A ++ F1' ++ B, U1, C ++ U1' ++ D, rfl, by simp, by simp, cellX_step hs h1 (fun b hb => hA b (by simp [hb])) (fun b hb => hC b (by simp [hb])), hk w' a' E' blk' hs t' F1' U1' hx (fun b hb => hA b ?_) (fun b hb => hC b ?_)⟩
    · simp at hb ⊢; rcases hb with hb | hb <;> simp [hb]
    · simp at hb ⊢; rcases hb with hb | hb <;> simp [hb]

theorem nodup_mid {A F B : List Nat} (h : (A ++ F ++ B).Nodup) : F.Nodup ∧ (∀ b ∈ F, b ∉ A ∧ b ∉ B) ∧ (A ++ B).Nodup := by
  rw [List.append_assoc, List.nodup_append, List.nodup_append] at h
  obtain ⟨h1, ⟨h2, h3, h4⟩, h5⟩ := h
  refine ⟨h2, fun b hb => ⟨fun e => h5 b e b (List.mem_append_left _ hb) rfl, fun e => h4 b hb b e rfl⟩, ?_⟩
  rw [List.nodup_append]
  exact ⟨h1, h3, fun x hx y hy => h5 x hx y (List.mem_append_right _ hy)⟩
theorem nodup_swap {A F B G : List Nat} (h : (A ++ F ++ B).Nodup) (hG : G.Nodup) (hd : ∀ b ∈ G, b ∉ A ∧ b ∉ B) : (A ++ G ++ B).Nodup := by
  obtain ⟨_, _, h1⟩ := nodup_mid h
  rw [List.nodup_append] at h1
  rw [List.append_assoc, List.nodup_append, List.nodup_append]
  refine ⟨h1.1, ⟨hG, h1.2.1, fun x hx y hy e => (hd x hx).2 (e ▸ hy)⟩, fun x hx y hy e => ?_⟩
  subst e
  rcases List.mem_append.1 hy with hy | hy
  · exact (hd x hy).1 hx
  · exact h1.2.2 x hx x hy rfl

theorem take_setRow {α : Type} {l vs : List α} {j m : Nat} (h1 : j + vs.length ≤ m) (h2 : m ≤ l.length) : (setRow l j vs).take m = setRow (l.take m) j vs := by
  apply List.ext_getElem?
  intro i
  have hl : (l.take j).length = j := by rw [List.length_take]; omega
  have hl2 : ((l.take m).take j).length = j := by rw [List.length_take, List.length_take]; omega
  rw [List.getElem?_take]
  simp only [setRow]
  rcases Nat.lt_or_ge i j with hi | hi
  · rw [if_pos (by omega), List.append_assoc, List.getElem?_append_left (by omega), List.append_assoc, List.getElem?_append_left (by omega)]
    simp only [List.getElem?_take, if_pos hi, if_pos (show i < m by omega)]
  · rcases Nat.lt_or_ge i (j + vs.length) with hi2 | hi2
    · rw [if_pos (by omega), List.append_assoc, List.getElem?_append_right (by omega), List.getElem?_append_left (by omega), List.append_assoc, List.getElem?_append_right (by omega), List.getElem?_append_left (by omega), hl, hl2]
    · split
      · rw [List.getElem?_append_right (by rw [List.length_append]; omega), List.getElem?_append_right (by rw [List.length_append]; omega)]
        simp only [List.length_append, hl, hl2, List.getElem?_drop, List.getElem?_take]
        rw [if_pos (by omega)]
      · rw [List.getElem?_append_right (by rw [List.length_append]; omega)]
        simp only [List.length_append, hl2, List.getElem?_drop, List.getElem?_take]
        rw [if_neg (by omega)]

/-- The store at the end of a path of owned headers behind one cell. -/
theorem store_path {w : World} {o : Bool} {e sz : Nat} {cells row xs : List TV} {hv : Value} {F1 U1 Fh Uh : List Nat} {q : List Nat} {j : Nat} {ad0 : Addr} {vs : List Value} (hn : rep w (.sl o e sz cells) hv F1 U1) (ho : (o && ownP cells q) = true) (hc : cont cells q = some row)
    (hb : baseV w hv q = some ad0) (hx : reps w xs vs Fh Uh) (hpos : 0 < xs.length) (hfit : j + xs.length ≤ row.length) (hnd : F1.Nodup) (hFh : ∀ b ∈ Fh, b ∉ F1) (hUU : ∀ b, b ∈ U1 ∨ b ∈ Uh → b ∉ F1) :
    ∃ g T cur X Fm Y Xu Um Yu, ad0.add j = ⟨g, j, none⟩ ∧ w.heap[g]? = some (.cells cur T (0, 0)) ∧ j + xs.length ≤ cur.size ∧ F1 = X ++ Fm ++ Y ∧ U1 = Xu ++ Um ++ Yu ∧ g ∈ X ∧
      rep (w.setRow g (setRow cur.toList j vs).toArray) (.sl o e sz (updC cells q fun row => setRow row j xs)) hv (X ++ Fh ++ Y) (Xu ++ Uh ++ Yu) := by
  have h1 : reps w [.sl o e sz cells] [hv] F1 U1 := by simp only [reps]; exact ⟨hv, [], F1, [], U1, [], rfl, by simp, by simp, hn, rfl, rfl, rfl⟩
  have h2 : ownP [.sl o e sz cells] (0 :: q) = true := by simpa [ownP] using ho
  have h3 : cont [.sl o e sz cells] (0 :: q) = some row := by simpa [cont] using hc
  obtain ⟨v0, hv', n, e0, sz0, rvs, A, B, C, D, F2, U2, k1, k2, k3, rfl, rfl, k4, k5⟩ := upd_rep q 0 h1 h2 h3
  simp at k1
  subst k1
  have hl := reps_len k3
  have hvl := reps_len hx
  rcases k2.2 with ⟨_, hn0⟩ | ⟨g, cap, cur, rfl, _, hg, hnc, hcm, hcs, htk⟩
  · have := k2.1
    rw [hn0] at this
    omega
  · have hba := k4 _ _ _ rfl
    rw [hb] at hba
    injection hba with hba
    subst hba
    have hrl := k2.1
    have hle : n * sz0 ≤ cur.size := by rw [hcs]; exact Nat.mul_le_mul_right _ hnc
    obtain ⟨Fa, Fm, Fb, Ua, Um, Ub, rfl, rfl, k6⟩ := reps_setRow (j := j) k3 hx
    simp only [blkOf, Value.ownBlock, Option.toList_some] at hnd hFh hUU k5 ⊢
    have hgA : g ∉ A ++ (Fa ++ Fm ++ Fb) ++ B := by
      intro hb
      have := (nodup_mid (A := A) (F := g :: (Fa ++ Fm ++ Fb)) (B := B) (by simpa using hnd))
      simp only [List.nodup_cons] at this
      obtain ⟨⟨n1, n2⟩, n3, n4⟩ := this
      have n5 := n3 g (by simp)
      simp only [List.mem_append] at hb n1
      rcases hb with (hb | hb) | hb
      · exact n5.1 hb
      · exact n1 hb
      · exact n5.2 hb
    have hgF : g ∈ A ++ ([g] ++ (Fa ++ Fm ++ Fb)) ++ B := by simp
    have hkeep : ∀ b, b ≠ g → (w.setRow g (setRow cur.toList j vs).toArray).heap[b]? = w.heap[b]? := fun b hb => setRow_other w g b _ hb
    have k7 := reps_move (w' := w.setRow g (setRow cur.toList j vs).toArray) k6 (fun b hm => hkeep b (by
      intro hbg
      rw [hbg] at hm
      rcases List.mem_append.1 hm with hm | hm
      · rcases List.mem_append.1 hm with hm | hm
        · exact hgA (by simp [hm])
        · exact hFh g hm hgF
      · exact hgA (by simp [hm]))) (fun b hm => hkeep b (by
      intro hbg
      rw [hbg] at hm
      rcases List.mem_append.1 hm with hm | hm
      · rcases List.mem_append.1 hm with hm | hm
        · exact hUU g (.inl (by simp [hm])) hgF
        · exact hUU g (.inr hm) hgF
      · exact hUU g (.inl (by simp [hm])) hgF))
    have k8 : (w.setRow g (setRow cur.toList j vs).toArray).ownsRow 0 e0 sz0 (.slice (some ⟨g, 0, none⟩) n cap) n (setRow rvs j vs) := by
      refine ⟨by rw [setRow_length (by omega)]; exact hrl, .inr ⟨g, cap, _, rfl, Nat.zero_le _, setRow_heap w g cur _ e0 _ hg, hnc, hcm, ?_, ?_⟩⟩
      · simp only [List.size_toArray]
        rw [setRow_length (by simp; omega)]
        simpa using hcs
      · simp only []
        rw [take_setRow (by omega) (by simpa using hle), htk]
    have k9 := k5 _ _ _ _ _ k8 k7 (fun b hm => hkeep b (by intro hbg; rw [hbg] at hm; exact hgA (by simp at hm ⊢; rcases hm with hm | hm <;> simp [hm]))) (fun b hm => hkeep b (by intro hbg; rw [hbg] at hm; exact hUU g (.inl (by simp at hm ⊢; rcases hm with hm | hm <;> simp [hm])) hgF)) (fun row => setRow row j xs) rfl
    simp only [updC, List.getElem?_cons_zero, List.set_cons_zero, reps] at k9
    obtain ⟨v2, vs2, G1, G2, V1, V2, hh, hF, hU, k10, rfl, rfl, rfl⟩ := k9
    injection hh with hh _
    subst hh
    simp only [List.append_nil] at hF hU
    refine ⟨g, e0, cur, A ++ g :: Fa, Fm, Fb ++ B, C ++ Ua, Um, Ub ++ D, ?_, hg, by omega, by simp, by simp, by simp, ?_⟩
    · unfold Addr.add
      split <;> simp_all
    · have e1 : A ++ g :: Fa ++ Fh ++ (Fb ++ B) = G1 := by rw [← hF]; simp
      have e2 : C ++ Ua ++ Uh ++ (Ub ++ D) = V1 := by rw [← hU]; simp
      rw [e1, e2]
      exact k10

set_option maxHeartbeats 4000000 in
/-- A store, the address's row owned: the machine's step and the state behind it. -/
theorem store_core (h : Rel w0 FA UA N w a E blk FS US) {r : Root} {q : List Nat} {j : Nat} {ad : Addr} {cs row xs : List TV} {v : Value} {t : TypeId} (hr : E.root r = some cs) (hc : cont cs q = some row) (ho : ownP cs q = true) (hpa : pa w a blk r q j = some ad)
    (hx : reps w xs v.cells.toList (FS .hand) (US .hand)) (hpos : 0 < xs.length) (hfit : j + xs.length ≤ row.length) (ht : xs.length = P.cellsOf t) {E' : St} (hE : E' = (E.setRoot r (updC cs q fun row => setRow row j xs)).bump r ∨ (q = [] ∧ ((row.drop j).take xs.length).any TV.isSl = false ∧ E' = E.setRoot r (updC cs q fun row => setRow row j xs))) :
    ∃ w' FS' US', (storeVar t ad v).run P w = .ok () w' ∧ Rel w0 FA UA N w' a E' blk FS' US' ∧ FS' .hand = [] ∧ US' .hand = [] := by
  have hrh : r ≠ .hand := by
    rintro rfl
    simp [St.root, h.nohand] at hr
  have hxl := reps_len hx
  have hvl : v.cells.size = xs.length := by simpa using hxl
  have hone := reps_one hx
  have hFh := h.nodup .hand
  have hver : E'.ver r = E.ver r + 1 ∨ (E'.ver r = E.ver r ∧ q = [] ∧ ((row.drop j).take xs.length).any TV.isSl = false) := by
    rcases hE with rfl | ⟨h1, h2, rfl⟩
    · exact .inl (by rw [bump_ver_eq, setRoot_ver])
    · exact .inr ⟨by rw [setRoot_ver], h1, h2⟩
  have hverne : ∀ s, s ≠ r → E'.ver s = E.ver s := by
    intro s hs
    rcases hE with rfl | ⟨_, _, rfl⟩
    · rw [bump_ver_ne hs, setRoot_ver]
    · rw [setRoot_ver]
  have hgen : E'.gen = E.gen := by
    rcases hE with rfl | ⟨_, _, rfl⟩
    · rw [bump_gen, setRoot_gen]
    · rw [setRoot_gen]
  have hrootne : ∀ s, s ≠ r → E'.root s = E.root s := by
    intro s hs
    rcases hE with rfl | ⟨_, _, rfl⟩
    · rw [bump_root, setRoot_root_ne hs]
    · rw [setRoot_root_ne hs]
  have hslots : E'.slots = (E.setRoot r (updC cs q fun row => setRow row j xs)).slots := by rcases hE with rfl | ⟨_, _, rfl⟩ <;> rfl
  have hboxes : E'.boxes = (E.setRoot r (updC cs q fun row => setRow row j xs)).boxes := by rcases hE with rfl | ⟨_, _, rfl⟩ <;> rfl
  have hrootm : r.mem = true → E'.root r = some (updC cs q fun row => setRow row j xs) := by
    intro hm
    rcases hE with rfl | ⟨_, _, rfl⟩
    · rw [bump_root, setRoot_mem hm]
    · rw [setRoot_mem hm]
  have hlenU : (updC cs q fun row => setRow row j xs).length = cs.length := by
    cases q with
    | nil =>
      simp only [cont, Option.some.injEq] at hc
      subst hc
      simp only [updC]
      exact setRow_length hfit
    | cons c q =>
      simp only [updC]
      split <;> simp
  -- the step of the account, once the block and the content are known
  have fin : ∀ (g : Nat) (T : TypeId) (cur : Array Value) (L V : List Nat), ad = ⟨g, j, none⟩ → w.heap[g]? = some (.cells cur T (0, 0)) → j + xs.length ≤ cur.size → g ∈ FS r → L.Nodup → (∀ b ∈ L, b ∈ FS r ∨ b ∈ FS .hand) → (∀ b ∈ V, ∃ s, b ∈ US s) →
      (∀ s, Steady w (w.setRow g (setRow cur.toList j v.cells.toList).toArray) a a E E' blk blk s) →
      rootOk (w.setRow g (setRow cur.toList j v.cells.toList).toArray) a E' blk r L V →
      ∃ w' FS' US', (storeVar t ad v).run P w = .ok () w' ∧ Rel w0 FA UA N w' a E' blk FS' US' ∧ FS' .hand = [] ∧ US' .hand = [] := by
    intro g T cur L V had hg hsz hgr hL hLi hVi hst hok
    subst had
    refine ⟨_, _, _, run_storeVar hg (by omega) (by omega) (by omega) hone, h.two (r1 := r) (r2 := .hand) (L1 := L) (L2 := []) (V1 := V) (V2 := []) hrh (by simpa using hL) ?_ ?_ ?_ rfl rfl rfl ?_ hst ?_ ?_ hok trivial ?_ h.len h.nodef, ?_, ?_⟩
    · intro b hb
      simp only [List.append_nil] at hb
      refine ⟨(hLi b hb).elim .inl (fun e => .inr (.inl e)), ?_⟩
      simp only [setRow_size]
      rcases hLi b hb with e | e
      · exact (h.inF r b e).2
      · exact (h.inF .hand b e).2
    · intro b hb
      simp only [List.append_nil] at hb
      exact .inl (hVi b hb)
    · simp
    · intro b _ hb1 _
      exact setRow_other w g b _ (fun e => hb1 (e ▸ hgr))
    · intro n hn _
      refine ⟨?_, rfl⟩
      rw [hslots]
      cases r with
      | slot m =>
        have : n ≠ m := fun e => hn (by rw [e])
        simp [St.setRoot, upd, this]
      | _ => rfl
    · intro s _ hs _
      refine ⟨?_, rfl⟩
      rw [hboxes]
      cases r <;> simp [St.setRoot, upd, hs]
    · rw [hboxes]
      cases r <;> simp [St.setRoot, upd, h.nohand] <;> exact absurd rfl hrh
    · rw [upd_eq]
    · rw [upd_eq]
  -- roots other than r stand
  have hothers : ∀ (g : Nat) (c : Array Value), g ∈ FS r → ∀ s, s ≠ r → Steady w (w.setRow g c) a a E E' blk blk s := by
    intro g c hg s hs
    refine steady_other h (hverne s hs) (by rw [hgen]) (hrootne s hs) (fun _ _ => rfl) (fun _ => rfl) (fun b hb => setRow_other w g b c ?_) (fun b hb => setRow_other w g b c ?_)
    · rintro rfl
      exact h.dis s r hs b hb hg
    · rintro rfl
      exact h.disU r s b hg hb
  cases q with
  | nil =>
    simp only [cont, Option.some.injEq] at hc
    subst hc
    have hm : r.mem = true := by cases r <;> simp_all [pa, Root.mem]
    have had : ad = ⟨blk r, j, none⟩ := by
      cases r <;> simp only [pa, reduceCtorEq, Option.some.injEq] at hpa <;> subst hpa <;> (unfold Addr.add; split <;> simp_all)
    have hbr : E.boxes r = some cs := by cases r <;> simp_all [St.root, Root.mem]
    rcases h.box r hm with ⟨h1, _⟩ | ⟨cs', cur, T, F, h1, h2, h3, h4⟩
    · rw [h1] at hbr; cases hbr
    · rw [h1] at hbr
      injection hbr with hbr
      subst hbr
      have hl := reps_len h3
      have hcs : cur.size = cs'.length := by simpa using hl
      obtain ⟨Fa, Fm, Fb, Ua, Um, Ub, rfl, hU, h5⟩ := reps_setRow (j := j) h3 hx
      have hnd := h.nodup r
      rw [h4, List.nodup_cons] at hnd
      have hgin : blk r ∈ FS r := by rw [h4]; exact List.mem_cons_self
      have hsubF : ∀ b, b ∈ Fa ++ FS .hand ++ Fb → b ∈ FS r ∨ b ∈ FS .hand := by
        intro b hb
        rw [h4]
        simp at hb ⊢
        rcases hb with hb | hb | hb <;> simp [hb]
      have hgnot : blk r ∉ Fa ++ FS .hand ++ Fb := by
        intro hb
        simp only [List.mem_append] at hb
        rcases hb with (hb | hb) | hb
        · exact hnd.1 (by simp [hb])
        · exact h.dis r .hand hrh _ hgin hb
        · exact hnd.1 (by simp [hb])
      have hsubU : ∀ b, b ∈ Ua ++ US .hand ++ Ub → ∃ s, b ∈ US s := by
        intro b hb
        simp only [List.mem_append] at hb
        rcases hb with (hb | hb) | hb
        · exact ⟨r, by rw [hU]; simp [hb]⟩
        · exact ⟨_, hb⟩
        · exact ⟨r, by rw [hU]; simp [hb]⟩
      have hst : ∀ s, Steady w (w.setRow (blk r) (setRow cur.toList j v.cells.toList).toArray) a a E E' blk blk s := by
        intro s
        by_cases hs : s = r
        · subst hs
          have hrc : ∀ (w : World) c, rootCell w a blk s c = w.cell? ((⟨blk s, 0, none⟩ : Addr).add c) := by intro w c; cases s <;> simp_all [rootCell, Root.mem]
          have hcellw : ∀ c, w.cell? ((⟨blk s, 0, none⟩ : Addr).add c) = cur[c]? := by
            intro c
            unfold World.cell?
            rw [add_block]
            simp only [h2]
            unfold Addr.add
            split
            · rename_i h0; subst h0; rfl
            · simp
          have hcellw' : ∀ c, (w.setRow (blk s) (setRow cur.toList j v.cells.toList).toArray).cell? ((⟨blk s, 0, none⟩ : Addr).add c) = (setRow cur.toList j v.cells.toList)[c]? := by
            intro c
            unfold World.cell?
            rw [add_block]
            simp only [setRow_heap w (blk s) cur _ T (0, 0) h2]
            unfold Addr.add
            split
            · rename_i h0; subst h0; simp
            · simp
          constructor
          · rcases hver with hv | ⟨hv, _, hns⟩
            · exact .inl (by omega)
            · -- no header is turned
              have hcs' : ∀ (c : Nat) (o : Bool) (e sz : Nat) (cells : List TV), cs'[c]? = some (TV.sl o e sz cells) → (setRow cs' j xs)[c]? = some (TV.sl o e sz cells) ∧ (setRow cur.toList j v.cells.toList)[c]? = cur[c]? := by
                intro c o e sz cells hcc
                have hout : c < j ∨ j + xs.length ≤ c := by
                  rcases Nat.lt_or_ge c j with hlt | hge
                  · exact .inl hlt
                  · rcases Nat.lt_or_ge c (j + xs.length) with hlt | hge2
                    · exfalso
                      rw [List.any_eq_false] at hns
                      have hmem : TV.sl o e sz cells ∈ (cs'.drop j).take xs.length := by
                        rw [List.mem_iff_getElem?]
                        refine ⟨c - j, ?_⟩
                        rw [List.getElem?_take, if_pos (by omega), List.getElem?_drop]
                        rw [show j + (c - j) = c from by omega]
                        exact hcc
                      have := hns _ hmem
                      simp [TV.isSl] at this
                    · exact .inr hge2
                refine ⟨by rw [setRow_other_cell hout hfit]; exact hcc, ?_⟩
                rw [setRow_other_cell (by rw [hxl]; exact hout) (by rw [hxl]; simpa [hcs] using hfit)]
                simp
              have hroot' : E'.root s = some (setRow cs' j xs) := by rw [hrootm hm]; rfl
              have hwalk : ∀ (c : Nat) (q' : List Nat) (o : Bool) (e sz : Nat) (cells : List TV), cs'[c]? = some (TV.sl o e sz cells) → ∀ row2 : List TV, cont cells q' = some row2 → ∀ (j2 : Nat) (t2 : TV), row2[j2]? = some t2 →
                  ∃ hv ad2, cur[c]? = some hv ∧ baseV w hv q' = some ad2 ∧ baseV (w.setRow (blk s) (setRow cur.toList j v.cells.toList).toArray) hv q' = some ad2 ∧ (w.setRow (blk s) (setRow cur.toList j v.cells.toList).toArray).cell? (ad2.add j2) = w.cell? (ad2.add j2) := by
                intro c q' o e sz cells hcc row2 hrow2 j2 t2 hj2
                obtain ⟨hv, A, B, C, D, F1, U1, k1, k2, k3, k4, _⟩ := reps_get c h3 hcc
                have k5 : reps w [.sl o e sz cells] [hv] F1 U1 := by simp only [reps]; exact ⟨hv, [], F1, [], U1, [], rfl, by simp, by simp, k2, rfl, rfl, rfl⟩
                have k6 : cont [.sl o e sz cells] (0 :: q') = some row2 := by simpa [cont] using hrow2
                obtain ⟨rvs, F2, U2, k7, k8, k9, hv', k10, k11⟩ := cont_rep (0 :: q') k5 k6
                simp at k10
                subst k10
                have hlr := reps_len k7
                have hjl := (List.getElem?_eq_some_iff.1 hj2).1
                obtain ⟨ad2, k12⟩ := k11 j2 _ (List.getElem?_eq_getElem (by omega))
                obtain ⟨k13, k14⟩ := k12 w (fun _ _ => rfl) (fun _ _ => rfl)
                obtain ⟨k15, k16⟩ := k12 (w.setRow (blk s) (setRow cur.toList j v.cells.toList).toArray) (fun b hb => setRow_other w _ b _ (fun e => hnd.1 (by rw [k3, ← e]; simp [hb]))) (fun b hb => setRow_other w _ b _ (fun e => h.disU s s b (by rw [e]; exact hgin) (by rw [k4]; simp [hb])))
                exact ⟨hv, ad2, by simpa using k1, k13, k15, by rw [k14, k16]⟩
              refine .inr ⟨hv, fun q' j' u hpv hsl => ?_, fun q' j' u hq' hpv hsl => ?_⟩
              · cases q' with
                | nil =>
                  simp only [St.place, hr, Option.bind_some, cont] at hsl
                  cases hcc : cs'[j']? with
                  | none => simp [hcc, isSlO] at hsl
                  | some t0 =>
                    cases t0 <;> simp [hcc, isSlO, TV.isSl] at hsl
                    obtain ⟨e1, e2⟩ := hcs' j' _ _ _ _ hcc
                    refine ⟨?_, by simp [St.place, hroot', cont, e1, isSlO, TV.isSl]⟩
                    simp only [pv, hrc, hcellw] at hpv
                    simp only [pv, hrc, hcellw', e2]
                    exact hpv
                | cons c q' =>
                  simp only [St.place, hr, Option.bind_some, cont] at hsl
                  cases hcc : cs'[c]? with
                  | none => simp [hcc, isSlO] at hsl
                  | some t0 =>
                    cases t0 <;> simp [hcc, isSlO] at hsl
                    rename_i o e sz cells
                    obtain ⟨e1, e2⟩ := hcs' c _ _ _ _ hcc
                    cases hrow2 : cont cells q' with
                    | none => simp [hrow2] at hsl
                    | some row2 =>
                      simp only [hrow2, Option.bind_some] at hsl
                      cases hj2 : row2[j']? with
                      | none => simp [hj2] at hsl
                      | some t2 =>
                        obtain ⟨hv2, ad2, k1, k2, k3, k4⟩ := hwalk c q' _ _ _ _ hcc row2 hrow2 j' t2 hj2
                        refine ⟨?_, ?_⟩
                        · simp only [pv, hrc, hcellw, k1, Option.bind_some, k2] at hpv
                          simp only [pv, hrc, hcellw', e2, k1, Option.bind_some, k3, k4]
                          exact hpv
                        · simp only [St.place, hroot', Option.bind_some, cont, e1, hrow2]
                          rw [hj2] at hsl ⊢
                          exact hsl
              · cases q' with
                | nil => exact absurd rfl hq'
                | cons c q' =>
                  simp only [St.place, hr, Option.bind_some, cont] at hsl
                  cases hcc : cs'[c]? with
                  | none => simp [hcc] at hsl
                  | some t0 =>
                    cases t0 <;> simp [hcc] at hsl
                    rename_i o e sz cells
                    obtain ⟨e1, e2⟩ := hcs' c _ _ _ _ hcc
                    cases hrow2 : cont cells q' with
                    | none => simp [hrow2] at hsl
                    | some row2 =>
                      simp only [hrow2, Option.bind_some] at hsl
                      cases hj2 : row2[j']? with
                      | none => simp [hj2] at hsl
                      | some t2 =>
                        obtain ⟨hv2, ad2, k1, k2, k3, k4⟩ := hwalk c q' _ _ _ _ hcc row2 hrow2 j' t2 hj2
                        refine ⟨?_, ?_⟩
                        · simp only [pa, hrc, hcellw, k1, Option.bind_some, k2, Option.map_some] at hpv
                          simp only [pa, hrc, hcellw', e2, k1, Option.bind_some, k3, Option.map_some]
                          exact hpv
                        · simp [St.place, hroot', cont, e1, hrow2, hj2]
          · refine .inr ⟨by rw [hgen], fun j' ad' h5 h6 => ⟨h5, ?_⟩⟩
            simp only [St.place, hr, Option.bind_some, cont] at h6
            simp only [St.place, hrootm hm, Option.bind_some, cont]
            obtain ⟨x, hxx⟩ := Option.isSome_iff_exists.1 h6
            have := (List.getElem?_eq_some_iff.1 hxx).1
            rw [List.getElem?_eq_getElem (by rw [hlenU]; exact this)]
            rfl
        · exact hothers _ _ hgin s hs
      refine fin (blk r) T cur (blk r :: (Fa ++ FS .hand ++ Fb)) (Ua ++ US .hand ++ Ub) had h2 (by omega) hgin ?_ ?_ hsubU hst ?_
      · rw [List.nodup_cons]
        refine ⟨hgnot, nodup_swap hnd.2 hFh (fun b hb => ?_)⟩
        refine ⟨fun e => h.dis r .hand hrh b (by rw [h4]; simp [e]) hb, fun e => h.dis r .hand hrh b (by rw [h4]; simp [e]) hb⟩
      · intro b hb
        rcases List.mem_cons.1 hb with rfl | hb
        · exact .inl hgin
        · exact hsubF b hb
      · have hE' : E'.boxes r = some (setRow cs' j xs) := by
          rw [hboxes]
          cases r <;> simp_all [St.setRoot, upd, updC, Root.mem]
        have hrep := reps_move (w' := w.setRow (blk r) (setRow cur.toList j v.cells.toList).toArray) h5 (fun b hb => setRow_other w _ b _ (fun e => hgnot (e ▸ hb))) (fun b hb => setRow_other w _ b _ (fun e => by
          obtain ⟨s, hs⟩ := hsubU b hb
          exact h.disU r s b (e ▸ hgin) hs))
        have hfinal : (E'.boxes r = none ∧ blk r :: (Fa ++ FS .hand ++ Fb) = [] ∧ Ua ++ US .hand ++ Ub = []) ∨ ∃ cs cur2 T F0, E'.boxes r = some cs ∧ (w.setRow (blk r) (setRow cur.toList j v.cells.toList).toArray).heap[blk r]? = some (.cells cur2 T (0, 0)) ∧ reps (w.setRow (blk r) (setRow cur.toList j v.cells.toList).toArray) cs cur2.toList F0 (Ua ++ US .hand ++ Ub) ∧ blk r :: (Fa ++ FS .hand ++ Fb) = blk r :: F0 :=
          .inr ⟨_, _, T, _, hE', setRow_heap w (blk r) cur _ T (0, 0) h2, by simpa using hrep, rfl⟩
        cases r <;> first | exact hfinal | cases hm
  | cons c q =>
    have hbump : E' = (E.setRoot r (updC cs (c :: q) fun row => setRow row j xs)).bump r := by
      rcases hE with hE | ⟨h1, _, _⟩
      · exact hE
      · cases h1
    have hnode : ∃ o e sz cells, cs[c]? = some (TV.sl o e sz cells) ∧ cont cells q = some row ∧ (o && ownP cells q) = true := by
      simp only [cont] at hc
      split at hc
      · rename_i o e sz cells hcs
        simp only [ownP, hcs] at ho
        exact ⟨o, e, sz, cells, hcs, hc, ho⟩
      · cases hc
    obtain ⟨o, e, sz, cells, hcs, hcq, hoq⟩ := hnode
    have hupd : (updC cs (c :: q) fun row => setRow row j xs) = cs.set c (.sl o e sz (updC cells q fun row => setRow row j xs)) := by simp only [updC, hcs]
    -- what the store does to the node, its blocks at hand
    have core : ∀ (hv : Value) (F1 U1 : List Nat), rep w (.sl o e sz cells) hv F1 U1 → rootCell w a blk r c = some hv → (∀ b ∈ F1, b ∈ FS r) → (∀ b ∈ U1, b ∈ US r) → F1.Nodup →
        ∃ g T cur X Fm Y Xu Um Yu, ad = ⟨g, j, none⟩ ∧ w.heap[g]? = some (.cells cur T (0, 0)) ∧ j + xs.length ≤ cur.size ∧ F1 = X ++ Fm ++ Y ∧ U1 = Xu ++ Um ++ Yu ∧ g ∈ X ∧
          rep (w.setRow g (setRow cur.toList j v.cells.toList).toArray) (.sl o e sz (updC cells q fun row => setRow row j xs)) hv (X ++ FS .hand ++ Y) (Xu ++ US .hand ++ Yu) := by
      intro hv F1 U1 hn hrc hF1 hU1 hnd1
      simp only [pa, hrc, Option.bind_some] at hpa
      obtain ⟨ad0, hb0, rfl⟩ := Option.map_eq_some_iff.1 hpa
      exact store_path hn hoq hcq hb0 hx hpos hfit hnd1 (fun b hb e => h.dis r .hand hrh b (hF1 b e) hb) (fun b hb e => hb.elim (fun hb => h.disU r r b (hF1 b e) (hU1 b hb)) (fun hb => h.disU r .hand b (hF1 b e) hb))
    have hst : ∀ (g : Nat) (cu : Array Value), g ∈ FS r → ∀ s, Steady w (w.setRow g cu) a a E E' blk blk s := by
      intro g cu hg s
      by_cases hs : s = r
      · subst hs
        refine ⟨.inl ?_, .inr ⟨by rw [hgen], fun j' ad' h5 h6 => ⟨?_, ?_⟩⟩⟩
        · rw [hbump, bump_ver_eq, setRoot_ver]; omega
        · cases s <;> first | exact h5 | (simp [pa] at h5; done)
        · by_cases hm : s.mem = true
          · simp only [St.place, hr, Option.bind_some, cont] at h6
            simp only [St.place, hrootm hm, Option.bind_some, cont]
            obtain ⟨x, hxx⟩ := Option.isSome_iff_exists.1 h6
            have := (List.getElem?_eq_some_iff.1 hxx).1
            rw [List.getElem?_eq_getElem (by rw [hlenU]; exact this)]
            rfl
          · cases s <;> first | (simp [pa] at h5; done) | exact absurd rfl hm
      · exact hothers g cu hg s hs
    have hndr := h.nodup r
    -- the account of the new footprint
    have acc : ∀ (P0 Q0 X Fm Y : List Nat) (g : Nat), FS r = P0 ++ (X ++ Fm ++ Y) ++ Q0 → (P0 ++ (X ++ FS .hand ++ Y) ++ Q0).Nodup ∧ ∀ b ∈ P0 ++ (X ++ FS .hand ++ Y) ++ Q0, b ∈ FS r ∨ b ∈ FS .hand := by
      intro P0 Q0 X Fm Y g hFr
      have h1 : ((P0 ++ X) ++ Fm ++ (Y ++ Q0)).Nodup := by
        have : (P0 ++ X) ++ Fm ++ (Y ++ Q0) = FS r := by rw [hFr]; simp
        rw [this]; exact hndr
      have h2 := nodup_swap h1 hFh (fun b hb => ⟨fun e => h.dis r .hand hrh b (by rw [hFr]; simp at e ⊢; rcases e with e | e <;> simp [e]) hb, fun e => h.dis r .hand hrh b (by rw [hFr]; simp at e ⊢; rcases e with e | e <;> simp [e]) hb⟩)
      refine ⟨by simpa using h2, fun b hb => ?_⟩
      rw [hFr]
      simp at hb ⊢
      rcases hb with hb | hb | hb | hb | hb <;> simp [hb]
    by_cases hm : r.mem = true
    · have hbr : E.boxes r = some cs := by cases r <;> simp_all [St.root, Root.mem]
      rcases h.box r hm with ⟨h1, _⟩ | ⟨cs', cur0, T0, F, h1, h2, h3, h4⟩
      · rw [h1] at hbr; cases hbr
      · rw [h1] at hbr
        injection hbr with hbr
        subst hbr
        obtain ⟨hv, A, B, C, D, F1, U1, k1, k2, rfl, kU, k3⟩ := reps_get c h3 hcs
        have hrc : rootCell w a blk r c = some hv := by
          have : rootCell w a blk r c = w.cell? ((⟨blk r, 0, none⟩ : Addr).add c) := by cases r <;> simp_all [rootCell, Root.mem]
          rw [this]
          unfold World.cell?
          rw [add_block]
          simp only [h2]
          have k1' : cur0[c]? = some hv := by simpa using k1
          unfold Addr.add
          split
          · rename_i h0; subst h0; simpa using k1'
          · simpa using k1'
        have hF1 : ∀ b ∈ F1, b ∈ FS r := fun b hb => by rw [h4]; simp [hb]
        have hnd1 : F1.Nodup := by
          rw [h4, List.nodup_cons] at hndr
          exact (nodup_mid hndr.2).1
        obtain ⟨g, T, cur, X, Fm, Y, Xu, Um, Yu, had, hg, hsz, rfl, rfl, hgX, hrep⟩ := core hv F1 U1 k2 hrc hF1 (fun b hb => by rw [kU]; simp [hb]) hnd1
        have hgr : g ∈ FS r := hF1 g (by simp [hgX])
        have hgb : g ≠ blk r := by
          rintro rfl
          rw [h4, List.nodup_cons] at hndr
          exact hndr.1 (by simp [hgX])
        obtain ⟨a1, a2⟩ := acc (blk r :: A) B X Fm Y g (by rw [h4]; simp)
        have hgAB : g ∉ A ++ B := by
          rw [h4, List.nodup_cons] at hndr
          intro e
          have := ((nodup_mid hndr.2).2.1 g (by simp [hgX]))
          rcases List.mem_append.1 e with e | e
          · exact this.1 e
          · exact this.2 e
        refine fin g T cur (blk r :: A ++ (X ++ FS .hand ++ Y) ++ B) (C ++ (Xu ++ US .hand ++ Yu) ++ D) had hg hsz hgr a1 a2 ?_ (hst g _ hgr) ?_
        · intro b hb
          simp only [List.mem_append] at hb
          rcases hb with (hb | ((hb | hb) | hb)) | hb
          · exact ⟨r, by rw [kU]; simp [hb]⟩
          · exact ⟨r, by rw [kU]; simp [hb]⟩
          · exact ⟨_, hb⟩
          · exact ⟨r, by rw [kU]; simp [hb]⟩
          · exact ⟨r, by rw [kU]; simp [hb]⟩
        · have hE' : E'.boxes r = some (cs'.set c (.sl o e sz (updC cells q fun row => setRow row j xs))) := by
            rw [hboxes, hupd]
            cases r <;> simp_all [St.setRoot, upd, Root.mem]
          have k4 := k3 _ _ hv _ _ hrep (fun b hb => setRow_other w g b _ (fun e => hgAB (e ▸ hb))) (fun b hb => setRow_other w g b _ (fun e => h.disU r r b (e ▸ hgr) (by rw [kU]; simp at hb ⊢; rcases hb with hb | hb <;> simp [hb])))
          rw [set_self k1] at k4
          have hfinal : (E'.boxes r = none ∧ blk r :: A ++ (X ++ FS .hand ++ Y) ++ B = [] ∧ C ++ (Xu ++ US .hand ++ Yu) ++ D = []) ∨ ∃ cs cur2 T F0, E'.boxes r = some cs ∧ (w.setRow g (setRow cur.toList j v.cells.toList).toArray).heap[blk r]? = some (.cells cur2 T (0, 0)) ∧ reps (w.setRow g (setRow cur.toList j v.cells.toList).toArray) cs cur2.toList F0 (C ++ (Xu ++ US .hand ++ Yu) ++ D) ∧ blk r :: A ++ (X ++ FS .hand ++ Y) ++ B = blk r :: F0 :=
            .inr ⟨_, cur0, T0, _, hE', (setRow_other w g _ _ (Ne.symm hgb)).trans h2, k4, by simp⟩
          cases r <;> first | exact hfinal | cases hm
    · cases r with
      | box n => exact absurd rfl hm
      | ext n => exact absurd rfl hm
      | hand => exact absurd rfl hrh
      | slot n =>
        have hs := h.slot n
        simp only [St.root, Option.some.injEq] at hr
        -- the cells, as a list
        have key : ∀ (vs : List Value), cellsX w a E blk cs vs (FS (.slot n)) (US (.slot n)) → (∀ c : Nat, (a.eval (.tmp n)).cells[c]? = vs[c]?) →
            (∀ (w' : World) (L V : List Nat), cellsX w' a E' blk (cs.set c (.sl o e sz (updC cells q fun row => setRow row j xs))) vs L V → rootOk w' a E' blk (.slot n) L V) →
            ∃ w' FS' US', (storeVar t ad v).run P w = .ok () w' ∧ Rel w0 FA UA N w' a E' blk FS' US' ∧ FS' .hand = [] ∧ US' .hand = [] := by
          intro vs hxs hvs hback
          obtain ⟨hv2, A, B, C, D, F1', U1', k5, k6, k7, k8, k9⟩ := cellsX_upd_step c hxs hcs
          have hrc : rootCell w a blk (.slot n) c = some hv2 := by simp only [rootCell, hvs, k5]
          have hF1 : ∀ b ∈ F1', b ∈ FS (.slot n) := fun b hb => by rw [k7]; simp [hb]
          have hnd1 : F1'.Nodup := by rw [k7] at hndr; exact (nodup_mid hndr).1
          obtain ⟨g, T, cur, X, Fm, Y, Xu, Um, Yu, had, hg, hsz, rfl, rfl, hgX, hrep⟩ := core hv2 F1' U1' k6 hrc hF1 (fun b hb => by rw [k8]; simp [hb]) hnd1
          have hgr : g ∈ FS (.slot n) := hF1 g (by simp [hgX])
          have hgAB : g ∉ A ++ B := by
            rw [k7] at hndr
            intro e
            have := ((nodup_mid hndr).2.1 g (by simp [hgX]))
            rcases List.mem_append.1 e with e | e
            · exact this.1 e
            · exact this.2 e
          obtain ⟨a1, a2⟩ := acc A B X Fm Y g k7
          refine fin g T cur (A ++ (X ++ FS .hand ++ Y) ++ B) (C ++ (Xu ++ US .hand ++ Yu) ++ D) had hg hsz hgr a1 a2 ?_ (hst g _ hgr) (hback _ _ _ (k9 _ a E' blk (hst g _ hgr) _ _ _ hrep (fun b hb => setRow_other w g b _ (fun e => hgAB (e ▸ hb))) (fun b hb => setRow_other w g b _ (fun e => h.disU _ _ b (e ▸ hgr) (by rw [k8]; simp at hb ⊢; rcases hb with hb | hb <;> simp [hb])))))
          intro b hb
          simp only [List.mem_append] at hb
          rcases hb with (hb | ((hb | hb) | hb)) | hb
          · exact ⟨.slot n, by rw [k8]; simp [hb]⟩
          · exact ⟨.slot n, by rw [k8]; simp [hb]⟩
          · exact ⟨_, hb⟩
          · exact ⟨.slot n, by rw [k8]; simp [hb]⟩
          · exact ⟨.slot n, by rw [k8]; simp [hb]⟩
        have hslot' : E'.slots n = (E.slots n).withCells (cs.set c (.sl o e sz (updC cells q fun row => setRow row j xs))) := by
          rw [hslots, hupd]
          simp [St.setRoot, upd]
        cases hsl : E.slots n with
        | one t =>
          rw [hsl] at hs hr
          simp only [SV.cells] at hr
          subst hr
          simp only [svX] at hs
          obtain ⟨hx1, hjk⟩ := hs
          have hc0 : c = 0 ∧ t = .sl o e sz cells := by
            cases c with
            | zero => simpa using hcs
            | succ c => simp at hcs
          obtain ⟨rfl, rfl⟩ := hc0
          refine key [a.eval (.tmp n)] ⟨_, [], _, [], _, [], rfl, by simp, by simp, hx1, rfl, rfl, rfl⟩ (fun c => by rw [hjk rfl]; simp) (fun w' L V hxx => ?_)
          simp only [rootOk, hslot', hsl, SV.withCells, List.set_cons_zero, svX]
          obtain ⟨v2, vs2, G1, G2, V1, V2, hh, rfl, rfl, h15, rfl, rfl, rfl⟩ := hxx
          injection hh with hh _
          subst hh
          simp only [List.append_nil]
          exact ⟨h15, fun _ => hjk rfl⟩
        | agg ts =>
          rw [hsl] at hs hr
          simp only [SV.cells] at hr
          subst hr
          simp only [svX] at hs
          obtain ⟨vs, hvs, hx1⟩ := hs
          refine key vs hx1 (fun c => by rw [hvs]; simp [Value.cells]) (fun w' L V hxx => ?_)
          simp only [rootOk, hslot', hsl, SV.withCells, svX]
          exact ⟨vs, hvs, hxx⟩
        | tup ss =>
          rw [hsl] at hr
          simp only [SV.cells] at hr
          subst hr
          simp at hcs
end
end Go.TI
