/- An interpreter of loaded Go code on trees, for every program: places. No condition; no program is in sight. -/
import Derived.Test.YtngfcadblnecpaaTIg
namespace Go.TI
open Go Go.RowKit
set_option linter.unusedSimpArgs false

section
variable {w0 : World} {FA UA : List Nat} {N : Nat} {w : World} {a : Act} {E : St} {blk : Root → Nat} {FS US : Root → List Nat} {P : Program}

theorem cellsX_get : ∀ {ts : List TV} {vs : List Value} {F U : List Nat} (c : Nat) {t : TV}, cellsX w a E blk ts vs F U → ts[c]? = some t →
    ∃ v F1 U1, vs[c]? = some v ∧ cellX w a E blk t v F1 U1 ∧ (∀ b ∈ F1, b ∈ F) ∧ (∀ b ∈ U1, b ∈ U)
  | [], _, _, _, c, t, _, hc => by simp at hc
  | t0 :: ts, vs, F, U, 0, t, h, hc => by
    obtain ⟨v, vs', F1, F2, U1, U2, rfl, rfl, rfl, h1, _⟩ := h
    simp at hc
    subst hc
    exact ⟨v, F1, U1, rfl, h1, fun b hb => by simp [hb], fun b hb => by simp [hb]⟩
  | t0 :: ts, vs, F, U, c + 1, t, h, hc => by
    obtain ⟨v, vs', F1, F2, U1, U2, rfl, rfl, rfl, _, h2⟩ := h
    simp at hc
    obtain ⟨u, G, V, h3, h4, h5, h6⟩ := cellsX_get c h2 hc
    exact ⟨u, G, V, by simpa using h3, h4, fun b hb => by simp [h5 b hb], fun b hb => by simp [h6 b hb]⟩

/-- A root's cell that is a slice, in the machine. -/
theorem root_sl (h : Rel w0 FA UA N w a E blk FS US) {r : Root} {cs : List TV} {c : Nat} {o : Bool} {e sz : Nat} {cells : List TV} (hr : E.root r = some cs) (hc : cs[c]? = some (.sl o e sz cells)) :
    ∃ v F1 U1, rootCell w a blk r c = some v ∧ rep w (.sl o e sz cells) v F1 U1 ∧ (∀ b ∈ F1, b ∈ FS r) ∧ (∀ b ∈ U1, b ∈ US r) := by
  have hbox : ∀ r, r.mem = true → E.boxes r = some cs → ∃ v F1 U1, w.cell? ((⟨blk r, 0, none⟩ : Addr).add c) = some v ∧ rep w (.sl o e sz cells) v F1 U1 ∧ (∀ b ∈ F1, b ∈ FS r) ∧ (∀ b ∈ U1, b ∈ US r) := by
    intro r hm hr
    rcases h.box r hm with ⟨h1, _⟩ | ⟨cs', cur, T, F, h1, h2, h3, h4⟩
    · rw [h1] at hr; cases hr
    · rw [h1] at hr
      injection hr with hr
      subst hr
      obtain ⟨v, A, B, C, D, F1, U1, hv, hrp, hF, hU, _⟩ := reps_get c h3 hc
      refine ⟨v, F1, U1, ?_, hrp, fun b hb => by rw [h4, hF]; simp [hb], fun b hb => by rw [hU]; simp [hb]⟩
      have hv' : cur[c]? = some v := by simpa using hv
      unfold World.cell?
      rw [add_block]
      simp only [h2]
      unfold Addr.add
      split
      · rename_i h0; subst h0; simpa using hv'
      · simpa using hv'
  cases r with
  | slot n =>
    have hs := h.slot n
    simp only [St.root, Option.some.injEq] at hr
    cases hsl : E.slots n with
    | one t =>
      rw [hsl] at hs hr
      simp only [SV.cells] at hr
      subst hr
      simp only [svX] at hs
      obtain ⟨hx, hj⟩ := hs
      cases c with
      | succ c => simp at hc
      | zero =>
        simp at hc
        subst hc
        exact ⟨_, _, _, by simp [rootCell, hj rfl], hx, fun _ hb => hb, fun _ hb => hb⟩
    | agg ts =>
      rw [hsl] at hs hr
      simp only [SV.cells] at hr
      subst hr
      simp only [svX] at hs
      obtain ⟨vs, hvs, hx⟩ := hs
      obtain ⟨v, F1, U1, h1, h2, h3, h4⟩ := cellsX_get c hx hc
      exact ⟨v, F1, U1, by simp [rootCell, hvs, Value.cells, h1], h2, h3, h4⟩
    | tup ss =>
      rw [hsl] at hr
      simp only [SV.cells] at hr
      subst hr
      simp at hc
  | box n => exact hbox (.box n) rfl hr
  | ext n => exact hbox (.ext n) rfl hr
  | hand => simp only [St.root, h.nohand, reduceCtorEq] at hr

/-- What stands at a path. -/
theorem place_path (h : Rel w0 FA UA N w a E blk FS US) {r : Root} {cs : List TV} {c : Nat} {q : List Nat} {row : List TV} (hr : E.root r = some cs) (hc : cont cs (c :: q) = some row) :
    ∃ rvs F1 U1, reps w row rvs F1 U1 ∧ (∀ b ∈ F1, b ∈ FS r) ∧ (∀ b ∈ U1, b ∈ US r) ∧
      ∃ hv, rootCell w a blk r c = some hv ∧ ∀ j u, rvs[j]? = some u → ∃ ad, ∀ w2 : World, (∀ b ∈ FS r, w2.heap[b]? = w.heap[b]?) → (∀ b ∈ US r, w2.heap[b]? = w.heap[b]?) → baseV w2 hv q = some ad ∧ w2.cell? (ad.add j) = some u := by
  simp only [cont] at hc
  split at hc
  · rename_i o e sz cells hcs
    obtain ⟨v, F1, U1, h1, h2, h3, h4⟩ := root_sl h hr hcs
    have h5 : reps w [.sl o e sz cells] [v] F1 U1 := by simp only [reps]; exact ⟨v, [], F1, [], U1, [], rfl, by simp, by simp, h2, rfl, rfl, rfl⟩
    have h6 : cont [.sl o e sz cells] (0 :: q) = some row := by simpa [cont] using hc
    obtain ⟨rvs, F2, U2, h7, h8, h9, hv, h10, h11⟩ := cont_rep (0 :: q) h5 h6
    simp at h10
    subst h10
    refine ⟨rvs, F2, U2, h7, fun b hb => h3 b (h8 b hb), fun b hb => h4 b (h9 b hb), v, h1, fun j u hj => ?_⟩
    obtain ⟨ad, hk⟩ := h11 j u hj
    exact ⟨ad, fun w2 hA hC => hk w2 (fun b hb => hA b (h3 b hb)) (fun b hb => hC b (h4 b hb))⟩
  · cases hc

/-- The row at a place in memory: its values, by address. -/
theorem place_row (h : Rel w0 FA UA N w a E blk FS US) {r : Root} {q : List Nat} {j : Nat} {ad : Addr} {cs row : List TV} (hr : E.root r = some cs) (hc : cont cs q = some row) (hp : pa w a blk r q j = some ad) :
    ∃ rvs F1 U1, reps w row rvs F1 U1 ∧ (∀ b ∈ F1, b ∈ FS r) ∧ (∀ b ∈ U1, b ∈ US r) ∧
      ∀ i u, rvs[j + i]? = some u → pv w a blk r q (j + i) = some u ∧ ∀ w2 : World, (∀ b ∈ FS r, w2.heap[b]? = w.heap[b]?) → (∀ b ∈ US r, w2.heap[b]? = w.heap[b]?) → w2.cell? (ad.add i) = some u := by
  have hadd : ∀ (x : Addr) (m n : Nat), (x.add m).add n = x.add (m + n) := by
    intro x m n
    unfold Addr.add
    split <;> split <;> simp_all <;> omega
  cases q with
  | nil =>
    simp only [cont, Option.some.injEq] at hc
    subst hc
    have hbox : ∀ r : Root, r.mem = true → E.boxes r = some cs → ∃ rvs F1 U1, reps w cs rvs F1 U1 ∧ (∀ b ∈ F1, b ∈ FS r) ∧ (∀ b ∈ U1, b ∈ US r) ∧
        ∀ i u, rvs[j + i]? = some u → w.cell? ((⟨blk r, 0, none⟩ : Addr).add (j + i)) = some u ∧ ∀ w2 : World, (∀ b ∈ FS r, w2.heap[b]? = w.heap[b]?) → w2.cell? (((⟨blk r, 0, none⟩ : Addr).add j).add i) = some u := by
      intro r hm hr
      rcases h.box r hm with ⟨h1, _⟩ | ⟨cs', cur, T, F, h1, h2, h3, h4⟩
      · rw [h1] at hr; cases hr
      · rw [h1] at hr
        injection hr with hr
        subst hr
        refine ⟨cur.toList, F, US r, h3, fun b hb => by rw [h4]; exact List.mem_cons_of_mem _ hb, fun _ hb => hb, fun i u hu => ?_⟩
        have hu' : cur[j + i]? = some u := by simpa using hu
        have hone : ∀ w2 : World, w2.heap[blk r]? = w.heap[blk r]? → w2.cell? ((⟨blk r, 0, none⟩ : Addr).add (j + i)) = some u := by
          intro w2 hw2
          unfold World.cell?
          rw [add_block]
          simp only [hw2, h2]
          unfold Addr.add
          split
          · rename_i h0; rw [h0] at hu'; simpa using hu'
          · simpa using hu'
        refine ⟨hone w rfl, fun w2 hA => ?_⟩
        rw [hadd]
        exact hone w2 (hA _ (by rw [h4]; exact List.mem_cons_self))
    cases r with
    | slot n => simp [pa] at hp
    | box n =>
      simp only [pa, Option.some.injEq] at hp
      subst hp
      obtain ⟨rvs, F1, U1, h1, h2, h3, h4⟩ := hbox (.box n) rfl hr
      exact ⟨rvs, F1, U1, h1, h2, h3, fun i u hu => ⟨(h4 i u hu).1, fun w2 hA _ => (h4 i u hu).2 w2 hA⟩⟩
    | ext n =>
      simp only [pa, Option.some.injEq] at hp
      subst hp
      obtain ⟨rvs, F1, U1, h1, h2, h3, h4⟩ := hbox (.ext n) rfl hr
      exact ⟨rvs, F1, U1, h1, h2, h3, fun i u hu => ⟨(h4 i u hu).1, fun w2 hA _ => (h4 i u hu).2 w2 hA⟩⟩
    | hand => simp only [St.root, h.nohand, reduceCtorEq] at hr
  | cons c q =>
    obtain ⟨rvs, F1, U1, h1, h2, h3, hv, h4, h5⟩ := place_path h hr hc
    refine ⟨rvs, F1, U1, h1, h2, h3, fun i u hu => ?_⟩
    obtain ⟨ad', hk⟩ := h5 (j + i) u hu
    obtain ⟨h6, h7⟩ := hk w (fun _ _ => rfl) (fun _ _ => rfl)
    simp only [pa, h4, Option.bind_some, h6, Option.map_some, Option.some.injEq] at hp
    subst hp
    refine ⟨by simp only [pv, h4, Option.bind_some, h6]; exact h7, fun w2 hA hC => ?_⟩
    rw [hadd]
    exact (hk w2 hA hC).2
end
end Go.TI
