/- An interpreter of loaded Go code on trees, for every program: an owned tree is taken. No condition; no program is in sight. -/
import Derived.Test.YtngfcadblnecpaaTIn
namespace Go.TI
open Go Go.RowKit
set_option linter.unusedSimpArgs false
set_option linter.unusedVariables false

section
variable {w0 : World} {FA UA : List Nat} {N : Nat} {w : World} {a : Act} {E : St} {blk : Root → Nat} {FS US : Root → List Nat} {P : Program}

/-- What is shared is copied into the hand. -/
theorem Rel.handU (h : Rel w0 FA UA N w a E blk FS US) {U1 : List Nat} (hU : ∀ b ∈ U1, ∃ r, b ∈ US r) :
    Rel w0 FA UA N w a E blk FS (upd US .hand (US .hand ++ U1)) := by
  have hin : ∀ s, ∀ b ∈ upd US .hand (US .hand ++ U1) s, ∃ s', b ∈ US s' := by
    intro s b hb
    by_cases hs : s = .hand
    · subst hs
      rw [upd_eq] at hb
      rcases List.mem_append.1 hb with hb | hb
      · exact ⟨_, hb⟩
      · exact hU b hb
    · rw [upd_ne hs] at hb
      exact ⟨_, hb⟩
  constructor
  · intro n
    rw [upd_ne (by simp)]
    exact h.slot n
  · intro r hr
    have hne : r ≠ Root.hand := by rintro rfl; cases hr
    rw [upd_ne hne]
    exact h.box r hr
  · exact h.nohand
  · exact h.nodup
  · exact h.dis
  · intro r s b hb hb'
    obtain ⟨t, ht⟩ := hin s b hb'
    exact h.disU r t b hb ht
  · exact h.inF
  · intro r b hb
    obtain ⟨t, ht⟩ := hin r b hb
    exact h.inU t b ht
  · exact h.disA
  · exact h.os
  · exact h.tape
  · exact h.output
  · exact h.size
  · exact h.keep
  · exact h.len
  · exact h.nodef

theorem upd_comm_ne {α β : Type} [DecidableEq α] {f : α → β} {x y : α} {b c : β} (h : x ≠ y) : upd (upd f x b) y c = upd (upd f y c) x b := by
  funext z
  simp only [upd]
  by_cases h1 : z = y
  · by_cases h2 : z = x
    · exact absurd (h2.symm.trans h1) h
    · simp [h1, Ne.symm h]
  · simp [h1]

/-- The tree of an owned place, out of its root. -/
theorem take_own (h : Rel w0 FA UA N w a E blk FS US) {r : Root} {q : List Nat} {j : Nat} {e sz : Nat} {cells cs : List TV} {v : Value} (hp : E.place r q j = some (.sl true e sz cells)) (ho : ownP cs q = true) (hr : E.root r = some cs) (hv : pv w a blk r q j = some v) :
    ∃ F1 U1 G V, rep w (.sl true e sz cells) v F1 U1 ∧ (∀ b ∈ US r, b ∈ V ∨ b ∈ U1) ∧
      Rel w0 FA UA N w a ((E.setRoot r (updC cs q fun row => row.set j .junk)).bump r) blk (upd (upd FS r G) .hand (FS .hand ++ F1)) (upd (upd US r V) .hand (US .hand ++ U1)) := by
  have hrh : r ≠ .hand := by
    rintro rfl
    simp [St.root, h.nohand] at hr
  unfold St.place at hp
  rw [hr] at hp
  simp only [Option.bind_some] at hp
  obtain ⟨row, hc, hj⟩ := Option.bind_eq_some_iff.1 hp
  have hjunk : ∀ {v : Value}, v.oneCell' = true → rep w .junk v [] [] := fun h => by simp only [rep]; exact ⟨h, trivial, trivial⟩
  -- at a header's row: the row with junk in the tree's place, the container as it was
  have inner : ∀ {ts : List TV} {vs : List Value} {F U : List Nat} (c : Nat) (q' : List Nat), reps w ts vs F U → ownP ts (c :: q') = true → cont ts (c :: q') = some row → ∀ {hv0 : Value}, vs[c]? = some hv0 → ∀ {ad : Addr}, baseV w hv0 q' = some ad → w.cell? (ad.add j) = some v →
      ∃ A B C D F1 U1, F = A ++ F1 ++ B ∧ U = C ++ U1 ++ D ∧ rep w (.sl true e sz cells) v F1 U1 ∧ reps w (updC ts (c :: q') fun row => row.set j .junk) vs (A ++ B) (C ++ D) := by
    intro ts vs F U c q' hrs hown hcont hv0 hvs ad hba hcell
    obtain ⟨vc, hv1, n, e1, sz1, rvs, A, B, C, D, F1, U1, h1, h2, h3, rfl, rfl, h4, h5⟩ := upd_rep q' c hrs hown hcont
    rw [hvs] at h1
    injection h1 with h1
    subst h1
    obtain ⟨v', A2, B2, C2, D2, F2, U2, h6, h7, rfl, rfl, h8⟩ := reps_get j h3 hj
    have hvv : v' = v := by
      obtain ⟨ad', n', c', hvc, hcell'⟩ := own_Reads h2 j v' h6
      have := h4 ad' n' c' hvc
      rw [hba] at this
      injection this with this
      subst this
      rw [hcell] at hcell'
      injection hcell' with hcell'
      exact hcell'.symm
    subst hvv
    refine ⟨A ++ (blkOf vc ++ A2), B2 ++ B, C ++ C2, D2 ++ D, F2, U2, by simp, by simp, h7, ?_⟩
    have h9 := h8 w .junk v' [] [] (hjunk (rep_one h7)) (fun _ _ => rfl) (fun _ _ => rfl)
    rw [set_self h6] at h9
    have := h5 w _ rvs _ _ h2 h9 (fun _ _ => rfl) (fun _ _ => rfl) (fun row => row.set j .junk) rfl
    simpa using this
  have hmemcase : r.mem = true → ∃ A B C D F1 U1, FS r = A ++ F1 ++ B ∧ US r = C ++ U1 ++ D ∧ rep w (.sl true e sz cells) v F1 U1 ∧
      ∃ cur T F, w.heap[blk r]? = some (.cells cur T (0, 0)) ∧ reps w (updC cs q fun row => row.set j .junk) cur.toList F (C ++ D) ∧ A ++ B = blk r :: F := by
    intro hm
    have hbr : E.boxes r = some cs := by cases r <;> simp_all [St.root, Root.mem]
    have hrc : ∀ c, rootCell w a blk r c = w.cell? ((⟨blk r, 0, none⟩ : Addr).add c) := by intro c; cases r <;> simp_all [rootCell, Root.mem]
    rcases h.box r hm with ⟨h1, _⟩ | ⟨cs', cur, T, F, h1, h2, h3, h4⟩
    · rw [h1] at hbr; cases hbr
    · rw [h1] at hbr
      injection hbr with hbr
      subst hbr
      have hcellcur : ∀ c u, cur.toList[c]? = some u → w.cell? ((⟨blk r, 0, none⟩ : Addr).add c) = some u := by
        intro c u hu
        have hu' : cur[c]? = some u := by simpa using hu
        unfold World.cell?
        rw [add_block]
        simp only [h2]
        unfold Addr.add
        split
        · rename_i h0; subst h0; simpa using hu'
        · simpa using hu'
      cases q with
      | nil =>
        simp only [cont, Option.some.injEq] at hc
        subst hc
        obtain ⟨v', A, B, C, D, F1, U1, h5, h6, rfl, hU, h7⟩ := reps_get j h3 hj
        have hvv : v' = v := by
          simp only [pv] at hv
          rw [hrc, hcellcur j v' h5] at hv
          injection hv
        subst hvv
        have h8 := h7 w .junk v' [] [] (hjunk (rep_one h6)) (fun _ _ => rfl) (fun _ _ => rfl)
        rw [set_self h5] at h8
        exact ⟨blk r :: A, B, C, D, F1, U1, by rw [h4]; simp, hU, h6, cur, T, A ++ B, h2, by simpa [updC] using h8, rfl⟩
      | cons c q =>
        simp only [pv] at hv
        obtain ⟨hv0, h5, hv⟩ := Option.bind_eq_some_iff.1 hv
        obtain ⟨ad, h6, h7⟩ := Option.bind_eq_some_iff.1 hv
        rw [hrc] at h5
        have hlen := reps_len h3
        have hcc : ∃ u, cur.toList[c]? = some u := by
          have hcl : c < cs'.length := by
            simp only [cont] at hc
            split at hc
            · rename_i hcs
              exact (List.getElem?_eq_some_iff.1 hcs).1
            · cases hc
          exact ⟨_, List.getElem?_eq_getElem (by omega)⟩
        obtain ⟨u, hu⟩ := hcc
        have : u = hv0 := by
          rw [hcellcur c u hu] at h5
          injection h5
        subst this
        obtain ⟨A, B, C, D, F1, U1, rfl, hU, h8, h9⟩ := inner c q h3 ho hc hu h6 h7
        exact ⟨blk r :: A, B, C, D, F1, U1, by rw [h4]; simp, hU, h8, cur, T, A ++ B, h2, h9, rfl⟩
  have hslotcase : ∀ n, r = .slot n → ∃ A B C D F1 U1, FS r = A ++ F1 ++ B ∧ US r = C ++ U1 ++ D ∧ rep w (.sl true e sz cells) v F1 U1 ∧
      svX w a E blk ((E.slots n).withCells (updC cs q fun row => row.set j .junk)) (a.eval (.tmp n)) (A ++ B) (C ++ D) := by
    intro n hn
    subst hn
    have hs := h.slot n
    simp only [St.root, Option.some.injEq] at hr
    -- the cells, as a list
    have key : ∀ (vs : List Value) (F U : List Nat), cellsX w a E blk cs vs F U → (∀ c : Nat, (a.eval (.tmp n)).cells[c]? = vs[c]?) →
        ∃ A B C D F1 U1, F = A ++ F1 ++ B ∧ U = C ++ U1 ++ D ∧ rep w (.sl true e sz cells) v F1 U1 ∧ cellsX w a E blk (updC cs q fun row => row.set j .junk) vs (A ++ B) (C ++ D) := by
      intro vs F U hx hvs
      cases q with
      | nil =>
        simp only [cont, Option.some.injEq] at hc
        subst hc
        obtain ⟨v', A, B, C, D, F1, U1, h5, h6, rfl, rfl, h7⟩ := cellsX_upd j hx hj
        have hvv : v' = v := by
          simp only [pv, rootCell] at hv
          rw [hvs, h5] at hv
          injection hv
        subst hvv
        have := h7 .junk [] [] ⟨rfl, rfl⟩
        exact ⟨A, B, C, D, F1, U1, rfl, rfl, h6, by simpa [updC] using this⟩
      | cons c q =>
        have hcs : ∃ o1 e1 s1 cl1, cs[c]? = some (.sl o1 e1 s1 cl1) := by
          simp only [cont] at hc
          split at hc
          · exact ⟨_, _, _, _, by assumption⟩
          · cases hc
        obtain ⟨o1, e1, s1, cl1, hcs⟩ := hcs
        obtain ⟨v', A, B, C, D, F1, U1, h5, h6, rfl, rfl, h7⟩ := cellsX_upd c hx hcs
        simp only [pv, rootCell] at hv
        rw [hvs, h5] at hv
        simp only [Option.bind_some] at hv
        obtain ⟨ad, h8, h9⟩ := Option.bind_eq_some_iff.1 hv
        have h10 : reps w [.sl o1 e1 s1 cl1] [v'] F1 U1 := by simp only [reps]; exact ⟨v', [], F1, [], U1, [], rfl, by simp, by simp, h6, rfl, rfl, rfl⟩
        have h11 : cont [.sl o1 e1 s1 cl1] (0 :: q) = some row := by
          simp only [cont, hcs] at hc
          simpa [cont] using hc
        have h12 : ownP [.sl o1 e1 s1 cl1] (0 :: q) = true := by
          simp only [ownP, hcs] at ho
          simpa [ownP] using ho
        obtain ⟨A2, B2, C2, D2, F2, U2, rfl, rfl, h13, h14⟩ := inner 0 q h10 h12 h11 (by rfl) h8 h9
        refine ⟨A ++ A2, B2 ++ B, C ++ C2, D2 ++ D, F2, U2, by simp, by simp, h13, ?_⟩
        simp only [updC, List.getElem?_cons_zero, List.set_cons_zero] at h14
        simp only [reps] at h14
        obtain ⟨v2, vs2, G1, G2, V1, V2, hh, hF, hU, h15, rfl, rfl, rfl⟩ := h14
        injection hh with hh _
        subst hh
        have := h7 _ _ _ (cellX_of_rep h15)
        simp only [updC, hcs]
        simp only [List.append_nil] at hF hU
        rw [← hF, ← hU] at this
        simpa using this
    cases hsl : E.slots n with
    | one t =>
      rw [hsl] at hs hr
      simp only [SV.cells] at hr
      subst hr
      simp only [svX] at hs
      obtain ⟨hx, hjk⟩ := hs
      have hnj : t.isJunk = false := by
        cases t with
        | junk =>
          cases q with
          | nil => simp [cont] at hc; subst hc; cases j <;> simp at hj
          | cons c q => simp [cont] at hc; cases c <;> simp at hc
        | _ => rfl
      obtain ⟨A, B, C, D, F1, U1, h1, h2, h3, h4⟩ := key [a.eval (.tmp n)] (FS (.slot n)) (US (.slot n)) ⟨_, [], _, [], _, [], rfl, by simp, by simp, hx, rfl, rfl, rfl⟩ (fun c => by rw [hjk hnj]; simp)
      refine ⟨A, B, C, D, F1, U1, h1, h2, h3, ?_⟩
      have hlen : (updC [t] q fun row => row.set j .junk).length = 1 := by
        cases q with
        | nil => simp [updC]
        | cons c q =>
          simp only [updC]
          split <;> simp
      match hu : updC [t] q fun row => row.set j .junk, hlen with
      | [t'], _ =>
        rw [hu] at h4
        obtain ⟨v2, vs2, G1, G2, V1, V2, hh, hF, hU, h15, rfl, rfl, rfl⟩ := h4
        injection hh with hh _
        subst hh
        simp only [List.append_nil] at hF hU
        rw [hF, hU]
        simp only [SV.withCells, svX]
        exact ⟨h15, fun _ => hjk hnj⟩
    | agg ts =>
      rw [hsl] at hs hr
      simp only [SV.cells] at hr
      subst hr
      simp only [svX] at hs
      obtain ⟨vs, hvs, hx⟩ := hs
      obtain ⟨A, B, C, D, F1, U1, h1, h2, h3, h4⟩ := key vs _ _ hx (fun c => by rw [hvs]; simp [Value.cells])
      refine ⟨A, B, C, D, F1, U1, h1, h2, h3, ?_⟩
      simp only [SV.withCells, svX]
      exact ⟨vs, hvs, h4⟩
    | tup ss =>
      rw [hsl] at hr
      simp only [SV.cells] at hr
      subst hr
      cases q with
      | nil => simp [cont] at hc; subst hc; simp at hj
      | cons c q => simp [cont] at hc
  have hlenU : r.mem = true → ∀ cs0, E.root r = some cs0 → (updC cs q fun row => row.set j .junk).length = cs0.length := by
    intro _ cs0 h0
    rw [hr] at h0
    injection h0 with h0
    subst h0
    cases q with
    | nil => simp [updC]
    | cons c q =>
      simp only [updC]
      split <;> simp
  have fin : ∀ A B C D F1 U1, FS r = A ++ F1 ++ B → US r = C ++ U1 ++ D → rep w (.sl true e sz cells) v F1 U1 →
      (∀ n, r = .slot n → svX w a E blk ((E.slots n).withCells (updC cs q fun row => row.set j .junk)) (a.eval (.tmp n)) (A ++ B) (C ++ D)) →
      (r.mem = true → ∃ cur T F, w.heap[blk r]? = some (.cells cur T (0, 0)) ∧ reps w (updC cs q fun row => row.set j .junk) cur.toList F (C ++ D) ∧ A ++ B = blk r :: F) →
      ∃ F1 U1 G V, rep w (.sl true e sz cells) v F1 U1 ∧ (∀ b ∈ US r, b ∈ V ∨ b ∈ U1) ∧
        Rel w0 FA UA N w a ((E.setRoot r (updC cs q fun row => row.set j .junk)).bump r) blk (upd (upd FS r G) .hand (FS .hand ++ F1)) (upd (upd US r V) .hand (US .hand ++ U1)) := by
    intro A B C D F1 U1 h1 h2 h3 h4 h5
    exact ⟨F1, U1, A ++ B, C ++ D, h3, fun b hb => by { rw [h2] at hb; simp at hb ⊢; rcases hb with hb | hb | hb <;> simp [hb] }, h.out hrh h1 hlenU (fun b hb => by rw [h2]; simp at hb ⊢; rcases hb with hb | hb <;> simp [hb]) (fun b hb => by rw [h2]; simp [hb]) h4 h5⟩
  cases hm : r.mem with
  | true =>
    obtain ⟨A, B, C, D, F1, U1, h1, h2, h3, h4⟩ := hmemcase hm
    exact fin A B C D F1 U1 h1 h2 h3 (fun n hn => by subst hn; cases hm) (fun _ => h4)
  | false =>
    cases r with
    | slot n =>
      obtain ⟨A, B, C, D, F1, U1, h1, h2, h3, h4⟩ := hslotcase n rfl
      exact fin A B C D F1 U1 h1 h2 h3 (fun m hm' => by injection hm' with hm'; subst hm'; exact h4) (fun hm' => by cases hm')
    | hand => exact absurd rfl hrh
    | box n => cases hm
    | ext n => cases hm
end
end Go.TI
