/- An interpreter of loaded Go code on trees, for every program: results; a function from its body. No condition; no program is in sight. -/
import Derived.Test.YtngfcadblnecpaaTJc
namespace Go.TI
open Go Go.RowKit
set_option linter.unusedSimpArgs false
set_option linter.unusedVariables false

variable (P : Program) in
/-- The results, taken out of the frame. -/
def resTake (E : St) : List ResultVar → Option (List SV × St)
  | [] => some ([], E)
  | .tmp t :: rs => match E.val P 0 (.tmp t) with
    | some s => match takeSV E s with
      | some (xs, E1) => match resTake E1 rs with
        | some (ss, E2) => some (s.withCells xs :: ss, E2)
        | none => none
      | none => none
    | none => none
  | .cell t ty :: rs => match pureOp P E { dst := none, op := .load ty (.tmp t), type := ty, pos := "", after := #[], guard := none } with
    | some s => match takeSV E s with
      | some (xs, E1) => match resTake E1 rs with
        | some (ss, E2) => some (s.withCells xs :: ss, E2)
        | none => none
      | none => none
    | none => none
def packRes : List SV → SV
  | [s] => s
  | ss => .tup ss

section
variable {w0 : World} {FA UA : List Nat} {N : Nat} {w : World} {a : Act} {E : St} {blk : Root → Nat} {FS US : Root → List Nat} {P : Program}

def resOne (P : Program) (tmps : Array Value) : ResultVar → Sem Value
  | .tmp t => pure (tmps.getD t undef)
  | .cell a t => do loadVar t (← asAddr (tmps.getD a undef))

theorem results_eq (fn : Func) (tmps : Array Value) : results fn tmps = (do
    let vs ← fn.results.mapM (resOne P tmps)
    pure (if h : vs.size = 1 then vs[0] else .tuple vs)) := by
  unfold results
  congr 1

theorem resTake_rel : ∀ {rs : List ResultVar} {ss : List SV} {E E' : St} {FS US : Root → List Nat}, Rel w0 FA UA N w a E blk FS US → resTake P E rs = some (ss, E') →
    ∃ vs FS' US' F U, (rs.mapM (resOne P a.tmps)).run P w = .ok vs w ∧ tupR w ss vs F U ∧ Rel w0 FA UA N w a E' blk FS' US' ∧ FS' .hand = FS .hand ++ F ∧ US' .hand = US .hand ++ U
  | [], ss, E, E', FS, US, h, ht => by
    simp only [resTake, Option.some.injEq, Prod.mk.injEq] at ht
    obtain ⟨rfl, rfl⟩ := ht
    exact ⟨[], FS, US, [], [], by simp, by simp [tupR], h, by simp, by simp⟩
  | .tmp t :: rs, ss, E, E', FS, US, h, ht => by
    simp only [resTake] at ht
    split at ht
    · rename_i s hs
      split at ht
      · rename_i xs E1 hx
        split at ht
        · rename_i ss' E2 hss
          simp only [Option.some.injEq, Prod.mk.injEq] at ht
          obtain ⟨rfl, rfl⟩ := ht
          obtain ⟨U, h1, h2⟩ := val_rel h hs
          obtain ⟨FS1, US1, F1, U1, h3, h4, h5, h6, _, _⟩ := takeSV_rel h h1 h2 hx
          obtain ⟨vs, FS2, US2, F2, U2, k1, k2, k3, k4, k5⟩ := resTake_rel h4 hss
          obtain ⟨hp, hl⟩ := takeSV_len hx
          refine ⟨a.eval (.tmp t) :: vs, FS2, US2, F1 ++ F2, U1 ++ U2, ?_, ?_, k3, by rw [k4, h5, List.append_assoc], by rw [k5, h6, List.append_assoc]⟩
          · rw [List.mapM_cons]
            simp [resOne, k1, Act.eval]
          · simp only [tupR]
            exact ⟨_, vs, F1, F2, U1, U2, rfl, rfl, rfl, svR_of_cells h1 hp hl h3, k2⟩
        · cases ht
      · cases ht
    · cases ht
  | .cell t ty :: rs, ss, E, E', FS, US, h, ht => by
    simp only [resTake] at ht
    split at ht
    · rename_i s hs
      split at ht
      · rename_i xs E1 hx
        split at ht
        · rename_i ss' E2 hss
          simp only [Option.some.injEq, Prod.mk.injEq] at ht
          obtain ⟨rfl, rfl⟩ := ht
          obtain ⟨v, U, h0, h1, h2⟩ := pure_sound h hs
          obtain ⟨FS1, US1, F1, U1, h3, h4, h5, h6, _, _⟩ := takeSV_rel h h1 h2 hx
          obtain ⟨vs, FS2, US2, F2, U2, k1, k2, k3, k4, k5⟩ := resTake_rel h4 hss
          obtain ⟨hp, hl⟩ := takeSV_len hx
          have hrun := h0 w (fun r _ => ⟨fun _ _ => rfl, fun _ _ => rfl⟩)
          have hload : (resOne P a.tmps (.cell t ty)).run P w = .ok v w := by
            have hpt : ∃ r q j, E.ptr? (.tmp t) = some (r, q, j) := by
              simp only [pureOp] at hs
              split at hs
              · rename_i r q j hpt; exact ⟨r, q, j, hpt⟩
              · cases hs
            obtain ⟨r, q, j, hpt⟩ := hpt
            obtain ⟨_, ad, _, hev⟩ := ptr_rel h hpt
            simp only [execOp, Instr.loadAt, hev, Instr.sureAddr] at hrun
            simp only [Act.eval] at hev
            simp only [resOne, hev, asAddr]
            simp only [Sem.run_bind, Sem.run_pure, Result.andThen_ok] at hrun ⊢
            cases hl : (loadVar ty ad).run P w with
            | ok u w2 =>
              rw [hl] at hrun
              simp only [Result.andThen_ok, Result.ok.injEq, Next.value.injEq] at hrun
              obtain ⟨rfl, rfl⟩ := hrun
              rfl
            | halt x w2 =>
              rw [hl] at hrun
              simp at hrun
          refine ⟨v :: vs, FS2, US2, F1 ++ F2, U1 ++ U2, ?_, ?_, k3, by rw [k4, h5, List.append_assoc], by rw [k5, h6, List.append_assoc]⟩
          · rw [List.mapM_cons]
            simp [hload, k1]
          · simp only [tupR]
            exact ⟨_, vs, F1, F2, U1, U2, rfl, rfl, rfl, svR_of_cells h1 hp hl h3, k2⟩
        · cases ht
      · cases ht
    · cases ht

theorem run_results {fn : Func} {vs : List Value} (h : (fn.results.toList.mapM (resOne P a.tmps)).run P w = .ok vs w) : (results fn a.tmps).run P w = .ok (if h : vs.length = 1 then vs[0] else .tuple vs.toArray) w := by
  rw [results_eq (P := P)]
  have : fn.results.mapM (resOne P a.tmps) = List.toArray <$> fn.results.toList.mapM (resOne P a.tmps) := by
    rw [← List.mapM_toArray]
  rw [this]
  simp [h]

theorem packRes_rel {ss : List SV} {vs : List Value} {F U : List Nat} (h : tupR w ss vs F U) : svR w (packRes ss) (if h : vs.length = 1 then vs[0] else .tuple vs.toArray) F U := by
  unfold packRes
  split
  · rename_i s
    simp only [tupR] at h
    obtain ⟨v, vs', F1, F2, U1, U2, rfl, rfl, rfl, h1, rfl, rfl, rfl⟩ := h
    simpa using h1
  · rename_i hne
    have hl : vs.length = ss.length := by
      have : ∀ {ss : List SV} {vs : List Value} {F U : List Nat}, tupR w ss vs F U → vs.length = ss.length := by
        intro ss
        induction ss with
        | nil => intro vs F U h; simp only [tupR] at h; simp [h.1]
        | cons s ss ih =>
          intro vs F U h
          simp only [tupR] at h
          obtain ⟨v, vs', F1, F2, U1, U2, rfl, rfl, rfl, h1, h2⟩ := h
          simp [ih h2]
      exact this h
    have : ¬ vs.length = 1 := by
      intro h1
      rw [h1] at hl
      match ss, hl with
      | [s], _ => exact hne s rfl
    rw [dif_neg this]
    simp only [svR]
    exact ⟨vs, rfl, h⟩
end

/-- A function without variables handed in: from its body. -/
theorem gives_of {P : Program} {f : FuncId} {fn : Func} {c : Code} {as : List AV} {res : SV} (hf : P.funcs[f]? = some fn) (hb : fn.body = some c)
    (h : Wp P fn.ntmps c (St.init as) fun e E => (e = .normal ∨ e = .ret) ∧ ∃ ss E', resTake P E fn.results.toList = some (ss, E') ∧ packRes ss = res) :
    Gives P f as res (List.replicate as.length .gone) := by
  intro w vs FA UA ha hnd hdis hlt
  obtain ⟨blk, FS, US, hr, hF, hU⟩ := Rel.init (N := fn.ntmps) ha hnd hdis hlt
  refine calls_of_wp hf hb (wp_mono (h _ _ _ _ _ _ _ _ hr hF hU) ?_)
  rintro e a w' ⟨E, blk', FS', US', ⟨he, ss, E', h1, rfl⟩, h2, h3, h4⟩
  obtain ⟨us, FS2, US2, F, U, k1, k2, k3, k4, k5⟩ := resTake_rel h2 h1
  rw [h3, List.nil_append] at k4
  rw [h4, List.nil_append] at k5
  have hgone : ∀ (n : Nat) (vs : List Value), vs.length = n → argsR w' (List.replicate n .gone) vs [] [] := by
    intro n
    induction n with
    | zero => intro vs hv; simp at hv; subst hv; exact ⟨rfl, rfl, rfl⟩
    | succ n ih =>
      intro vs hv
      cases vs with
      | nil => simp at hv
      | cons v vs => exact ⟨v, vs, [], [], [], [], rfl, rfl, rfl, ⟨rfl, rfl⟩, ih vs (by simpa using hv)⟩
  have hvl : vs.length = as.length := by
    obtain ⟨_, _, _, _, h5, _⟩ := argsR_get ha
    exact h5
  have hpost : a.defers = [] ∧ ∃ v, (results fn a.tmps).run P w' = .ok v w' ∧ ∃ v' F U G V, Ending.returned v = .returned v' ∧ Left w w' FA UA (packRes ss) (List.replicate as.length .gone) vs v' F U G V := by
    refine ⟨h2.nodef, _, run_results k1, _, F, U, [], [], rfl, ?_⟩
    exact {
      res := packRes_rel k2
      fin := hgone _ _ hvl
      nodup := by simpa [← k4] using k3.nodup .hand
      dis := by
        intro b hb hb'
        simp only [List.append_nil] at hb hb'
        rw [← k4] at hb
        rw [← k5] at hb'
        exact k3.disU .hand .hand b hb hb'
      inF := by
        intro b hb
        simp only [List.append_nil] at hb
        rw [← k4] at hb
        exact k3.inF .hand b hb
      inU := by
        intro b hb
        simp only [List.append_nil] at hb
        rw [← k5] at hb
        exact k3.inU .hand b hb
      os := k3.os
      tape := k3.tape
      output := k3.output
      size := k3.size
      keep := k3.keep }
  rcases he with rfl | rfl
  · exact hpost
  · exact hpost
end Go.TI
