/- An interpreter of loaded Go code on trees, for every program: loads are sound. No condition; no program is in sight. -/
import Derived.Test.YtngfcadblnecpaaTIk
namespace Go.TI
open Go Go.RowKit
set_option linter.unusedSimpArgs false
set_option linter.unusedVariables false

section
variable {w0 : World} {FA UA : List Nat} {N : Nat} {w : World} {a : Act} {E : St} {blk : Root → Nat} {FS US : Root → List Nat} {P : Program}

theorem reps_drop {w : World} : ∀ (j : Nat) {ts : List TV} {vs F U}, reps w ts vs F U → ∃ F1 U1, reps w (ts.drop j) (vs.drop j) F1 U1 ∧ (∀ b ∈ F1, b ∈ F) ∧ (∀ b ∈ U1, b ∈ U)
  | 0, ts, vs, F, U, h => ⟨F, U, h, fun _ hb => hb, fun _ hb => hb⟩
  | j + 1, [], vs, F, U, h => by
    simp only [reps] at h
    obtain ⟨rfl, rfl, rfl⟩ := h
    exact ⟨[], [], by simp [reps], by simp, by simp⟩
  | j + 1, t :: ts, vs, F, U, h => by
    simp only [reps] at h
    obtain ⟨v, vs', F1, F2, U1, U2, rfl, rfl, rfl, h1, h2⟩ := h
    obtain ⟨F3, U3, h3, h4, h5⟩ := reps_drop j h2
    exact ⟨F3, U3, by simpa using h3, fun b hb => by simp [h4 b hb], fun b hb => by simp [h5 b hb]⟩
theorem reps_take {w : World} : ∀ (n : Nat) {ts : List TV} {vs F U}, reps w ts vs F U → ∃ F1 U1, reps w (ts.take n) (vs.take n) F1 U1 ∧ (∀ b ∈ F1, b ∈ F) ∧ (∀ b ∈ U1, b ∈ U)
  | 0, ts, vs, F, U, h => ⟨[], [], by simp [reps], by simp, by simp⟩
  | n + 1, [], vs, F, U, h => by
    simp only [reps] at h
    obtain ⟨rfl, rfl, rfl⟩ := h
    exact ⟨[], [], by simp [reps], by simp, by simp⟩
  | n + 1, t :: ts, vs, F, U, h => by
    simp only [reps] at h
    obtain ⟨v, vs', F1, F2, U1, U2, rfl, rfl, rfl, h1, h2⟩ := h
    obtain ⟨F3, U3, h3, h4, h5⟩ := reps_take n h2
    refine ⟨F1 ++ F3, U1 ++ U3, by simp only [List.take_succ_cons, reps]; exact ⟨v, _, F1, F3, U1, U3, rfl, rfl, rfl, h1, h3⟩, fun b hb => ?_, fun b hb => ?_⟩
    · rcases List.mem_append.1 hb with hb | hb
      · simp [hb]
      · simp [h4 b hb]
    · rcases List.mem_append.1 hb with hb | hb
      · simp [hb]
      · simp [h5 b hb]
theorem cellsX_of_reps {w : World} {a : Act} {E : St} {blk : Root → Nat} : ∀ {ts : List TV} {vs : List Value} {F U : List Nat}, reps w ts vs F U → cellsX w a E blk ts vs F U
  | [], vs, F, U, h => by simpa only [reps, cellsX] using h
  | t :: ts, vs, F, U, h => by
    simp only [reps] at h
    obtain ⟨v, vs', F1, F2, U1, U2, rfl, rfl, rfl, h1, h2⟩ := h
    exact ⟨v, vs', F1, F2, U1, U2, rfl, rfl, rfl, cellX_of_rep h1, cellsX_of_reps h2⟩
theorem rep_one {w : World} {t : TV} {v : Value} {F U : List Nat} (h : rep w t v F U) : v.oneCell' = true := by
  cases t with
  | int _ _ => simp only [rep] at h; obtain ⟨rfl, _⟩ := h; rfl
  | bool _ => simp only [rep] at h; obtain ⟨rfl, _⟩ := h; rfl
  | str _ => simp only [rep] at h; obtain ⟨rfl, _⟩ := h; rfl
  | junk => simp only [rep] at h; exact h.1
  | view _ _ _ _ => simp only [rep] at h
  | ptr _ _ _ _ => simp only [rep] at h
  | sl o e sz cells =>
    obtain ⟨A, n, c, rfl, _⟩ := rep_sl_form h
    rfl
theorem reps_one {w : World} : ∀ {ts : List TV} {vs : List Value} {F U : List Nat}, reps w ts vs F U → ∀ v ∈ vs, v.oneCell' = true
  | [], vs, F, U, h, v, hv => by
    simp only [reps] at h
    rw [h.1] at hv
    cases hv
  | t :: ts, vs, F, U, h, v, hv => by
    simp only [reps] at h
    obtain ⟨u, vs', F1, F2, U1, U2, rfl, rfl, rfl, h1, h2⟩ := h
    rcases List.mem_cons.1 hv with rfl | hv
    · exact rep_one h1
    · exact reps_one h2 v hv
theorem cells_one {v : Value} (h : v.oneCell' = true) : v.cells = #[v] := by cases v <;> first | rfl | cases h

theorem run_isAgg {t : TypeId} {w2 : World} (h : P.underlying t ≠ none) : (isAgg t).run P w2 = .ok (aggT P t) w2 := by
  cases hu : P.underlying t with
  | none => exact absurd hu h
  | some d => cases d <;> simp [isAgg, run_underlying hu, aggT, hu]

theorem underlying_of_cells {t : TypeId} (h : P.cellsOf t ≠ 0) (hd : aggT P t = true) : P.underlying t ≠ none := by
  intro e
  simp [aggT, e] at hd

theorem ok_load (h : Rel w0 FA UA N w a E blk FS US) {o : Oper} {t : TypeId} {x : Operand} (ho : o.op = .load t x) {s : SV} (hp : pureOp P E o = some s) : PureOk P w a E blk FS US o s := by
  simp only [pureOp, ho] at hp
  split at hp
  · rename_i r q j hpt
    split at hp
    · rename_i row hrow
      obtain ⟨cs, hr, hc⟩ := Option.bind_eq_some_iff.1 hrow
      obtain ⟨_, ad, h1, h2⟩ := ptr_rel h hpt
      obtain ⟨rvs, F1, U1, h3, h4, h5, h6⟩ := place_row h hr hc h1
      have hrd : readRoot E o = some r := by simp [readRoot, ho, hpt]
      have hlen := reps_len h3
      split at hp
      · rename_i hfit
        split at hp
        · rename_i hag
          injection hp with hp
          subst hp
          have hun : P.underlying t ≠ none := by intro e; simp [aggT, e] at hag
          obtain ⟨F2, U2, h7, h8, h9⟩ := reps_drop j h3
          obtain ⟨F3, U3, h10, h11, h12⟩ := reps_take (P.cellsOf t) h7
          have hcx := cellsX_of_reps (a := a) (E := E) (blk := blk) h10
          obtain ⟨U4, h13, h14⟩ := sees_rel (r := r) (q := q) j hcx (fun i t' v' hi hv e sz cells he => by
            have hi' : row[j + i]? = some t' := by
              rw [List.getElem?_take] at hi
              split at hi
              · rwa [List.getElem?_drop] at hi
              · cases hi
            have hv' : rvs[j + i]? = some v' := by
              rw [List.getElem?_take] at hv
              split at hv
              · rwa [List.getElem?_drop] at hv
              · cases hv
            refine ⟨(h6 i v' hv').1, ?_⟩
            simp only [St.place, hr, Option.bind_some, hc, hi'])
          refine ⟨.agg ((rvs.drop j).take (P.cellsOf t)).toArray, U4, fun w2 hw2 => ?_, ?_, fun b hb => ⟨r, h5 b (h9 b (h12 b (h14 b hb)))⟩⟩
          · obtain ⟨hA, hC⟩ := hw2 r hrd
            have hl : ((rvs.drop j).take (P.cellsOf t)).length = P.cellsOf t := by
              rw [List.length_take, List.length_drop]
              omega
            have hcells := run_loadCells_list (P := P) w2 ad ((rvs.drop j).take (P.cellsOf t)) (fun i u hu => by
              rw [List.getElem?_take] at hu
              split at hu
              · rw [List.getElem?_drop] at hu
                exact (h6 i u hu).2 w2 hA hC
              · cases hu)
            rw [hl] at hcells
            have hsz : (sizeOf t).run P w2 = .ok (P.cellsOf t) w2 := by
              cases hi : P.info? t with
              | some i => exact run_sizeOf w2 hi
              | none =>
                exfalso
                apply hun
                simp [Program.underlying, hi]
            simp [execOp, ho, h2, Instr.loadAt, Instr.sureAddr, loadVar, run_isAgg hun, hag, hsz, hcells]
          · simp only [svX]
            exact ⟨_, rfl, h13⟩
        · split at hp
          · rename_i hag hone
            obtain ⟨x', hx', rfl⟩ := Option.map_eq_some_iff.1 hp
            obtain ⟨hone, hsome⟩ := hone
            have hun : P.underlying t ≠ none := by
              intro e
              rw [e] at hsome
              cases hsome
            obtain ⟨v, A, B, C, D, F2, U2, hv, hrp, hF, hU, _⟩ := reps_get j h3 hx'
            obtain ⟨hpv, hcell⟩ := h6 0 v hv
            obtain ⟨U4, h13, h14⟩ := see_rel (r := r) (q := q) (c := j) (cellX_of_rep (a := a) (E := E) (blk := blk) hrp) (fun e sz cells he => ⟨hpv, by simp only [St.place, hr, Option.bind_some, hc, hx']⟩)
            refine ⟨v, U4, fun w2 hw2 => ?_, ?_, fun b hb => ⟨r, h5 b (by rw [hU]; simp [h14 b hb])⟩⟩
            · obtain ⟨hA, hC⟩ := hw2 r hrd
              have := hcell w2 hA hC
              have h0 : ad.add 0 = ad := by simp [Addr.add]
              rw [h0] at this
              have hagf : aggT P t = false := by simpa using hag
              simp [execOp, ho, h2, Instr.loadAt, Instr.sureAddr, loadVar, run_isAgg hun, hagf, this]
            · simp only [svX]
              exact ⟨h13, fun _ => cells_one (rep_one hrp)⟩
          · cases hp
      · cases hp
    · cases hp
  · cases hp
end
end Go.TI
