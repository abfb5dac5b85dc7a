/- An interpreter of loaded Go code on trees, for every program: the arguments of a call. No condition; no program is in sight. -/
import Derived.Test.YtcjepealfaimfaaGreatPOTIB
import Derived.LoopN
import Derived.Orders
import Derived.Still
import Derived.StillTail
import Derived.OrdersHeld
namespace Go.TI
open Go Go.RowKit
set_option linter.unusedSimpArgs false
set_option linter.unusedVariables false
def sh1 : TV → TV
  | .sl true e sz cells => .sl false e sz (shares cells)
  | t => t
theorem rep_sh1 {w : World} {t : TV} {v : Value} {F U : List Nat} (h : rep w t v F U) : ∃ U', rep w (sh1 t) v [] U' ∧ ∀ b ∈ U', b ∈ F ∨ b ∈ U := by
  cases t with
  | sl o e sz cells =>
    cases o with
    | true => exact rep_share h
    | false =>
      have h' := h
      simp only [rep] at h
      obtain ⟨_, _, _, _, _, _, _, _, _, _, _, rfl, _⟩ := h
      exact ⟨U, h', fun b hb => .inr hb⟩
  | _ => exact rep_share h
def shCell (E : St) : TV → Option TV
  | .view r v q j => if E.ver r = v then (match E.place r q j with
      | some (.sl o e sz cells) => some (sh1 (.sl o e sz cells))
      | _ => none) else none
  | .ptr .. => none
  | .junk => none
  | t => some (sh1 t)
def shCells (E : St) : List TV → Option (List TV)
  | [] => some []
  | t :: ts => match shCell E t, shCells E ts with
    | some x, some xs => some (x :: xs)
    | _, _ => none
def shSV (E : St) (s : SV) : Option SV := if s.plain = true then (shCells E s.cells).map s.withCells else none
def TV.isView : TV → Bool
  | .view .. => true
  | _ => false
def SV.noViews (s : SV) : Bool := s.cells.all fun t => !t.isView
mutual
def svShared : SV → Bool
  | .one t => hasShared t
  | .agg cs => hasShareds cs
  | .tup ss => svShareds ss
def svShareds : List SV → Bool
  | [] => false
  | s :: ss => svShared s || svShareds ss
end
mutual
theorem rep_noshare {w : World} : ∀ {t : TV} {v : Value} {F U : List Nat}, rep w t v F U → hasShared t = false → U = []
  | .int .., v, F, U, h, _ => by simp only [rep] at h; exact h.2.2
  | .bool _, v, F, U, h, _ => by simp only [rep] at h; exact h.2.2
  | .str _, v, F, U, h, _ => by simp only [rep] at h; exact h.2.2
  | .fn .., v, F, U, h, _ => by simp only [rep] at h; exact h.2.2
  | .adr .., v, F, U, h, _ => by simp only [rep] at h; exact h.2.2
  | .hdr .., v, F, U, h, _ => by simp only [rep] at h; exact h.2.2
  | .junk, v, F, U, h, _ => by simp only [rep] at h; exact h.2.2
  | .view .., v, F, U, h, _ => by simp only [rep] at h
  | .ptr .., v, F, U, h, _ => by simp only [rep] at h
  | .sl true e sz cells, v, F, U, h, k => by
    simp only [rep] at h
    obtain ⟨n, vs, F', h1, h2, h3⟩ := h
    exact reps_noshare h2 (by simpa [hasShared] using k)
  | .sl false e sz cells, v, F, U, h, k => by simp [hasShared] at k
theorem reps_noshare {w : World} : ∀ {ts : List TV} {vs : List Value} {F U : List Nat}, reps w ts vs F U → hasShareds ts = false → U = []
  | [], vs, F, U, h, _ => by simp only [reps] at h; exact h.2.2
  | t :: ts, vs, F, U, h, k => by
    simp only [reps] at h
    obtain ⟨v, vs', F1, F2, U1, U2, rfl, rfl, rfl, h1, h2⟩ := h
    simp only [hasShareds, Bool.or_eq_false_iff] at k
    rw [rep_noshare h1 k.1, reps_noshare h2 k.2]
    rfl
end
mutual
theorem svR_noshare {w : World} : ∀ {s : SV} {v : Value} {F U : List Nat}, svR w s v F U → svShared s = false → U = []
  | .one t, v, F, U, h, k => by
    simp only [svR] at h
    exact rep_noshare h.1 (by simpa [svShared] using k)
  | .agg cs, v, F, U, h, k => by
    simp only [svR] at h
    obtain ⟨vs, _, h⟩ := h
    exact reps_noshare h (by simpa [svShared] using k)
  | .tup ss, v, F, U, h, k => by
    simp only [svR] at h
    obtain ⟨vs, _, h⟩ := h
    exact tupR_noshare h (by simpa [svShared] using k)
theorem tupR_noshare {w : World} : ∀ {ss : List SV} {vs : List Value} {F U : List Nat}, tupR w ss vs F U → svShareds ss = false → U = []
  | [], vs, F, U, h, _ => by simp only [tupR] at h; exact h.2.2
  | s :: ss, vs, F, U, h, k => by
    simp only [tupR] at h
    obtain ⟨v, vs', F1, F2, U1, U2, rfl, rfl, rfl, h1, h2⟩ := h
    simp only [svShareds, Bool.or_eq_false_iff] at k
    rw [svR_noshare h1 k.1, tupR_noshare h2 k.2]
    rfl
end
section
variable {w0 : Base} {FA UA : List Nat} {N : Nat} {w : World} {a : Act} {E : St} {blk : Root → Nat} {FS US : Root → List Nat} {P : Program}
theorem shCell_rel (h : Rel w0 FA UA N w a E blk FS US) {t x : TV} {v : Value} {U : List Nat} (hc : cellX w a E blk t v [] U) (hU : ∀ b ∈ U, ∃ r, b ∈ US r) (ht : shCell E t = some x) :
    ∃ U', rep w x v [] U' ∧ ∀ b ∈ U', (∃ r, b ∈ US r) ∨ (t.isView = true ∧ ∃ r, r ≠ .hand ∧ b ∈ FS r) := by
  have easy : ∀ {t : TV}, rep w t v [] U → ∃ U', rep w (sh1 t) v [] U' ∧ ∀ b ∈ U', (∃ r, b ∈ US r) := by
    intro t hr
    obtain ⟨U', h1, h2⟩ := rep_sh1 hr
    exact ⟨U', h1, fun b hb => by
      rcases h2 b hb with h3 | h3
      · cases h3
      · exact hU b h3⟩
  cases t with
  | view r ver q j =>
    simp only [shCell] at ht
    split at ht
    · rename_i hver
      split at ht
      · rename_i o e sz cells hpl
        injection ht with ht
        subst ht
        obtain ⟨_, _, _, hcc⟩ := hc
        obtain ⟨hpv, _⟩ := hcc hver
        obtain ⟨F, U2, h1, h2, h3⟩ := place_sl h hpl hpv
        obtain ⟨U', h4, h5⟩ := rep_sh1 h1
        have hrh : r ≠ .hand := by
          rintro rfl
          simp [St.place, St.root, h.nohand] at hpl
        exact ⟨U', h4, fun b hb => by
          rcases h5 b hb with h6 | h6
          · exact .inr ⟨rfl, r, hrh, h2 b h6⟩
          · exact .inl ⟨r, h3 b h6⟩⟩
      · cases ht
    · cases ht
  | ptr r ver q j => cases ht
  | junk => cases ht
  | int k n =>
    simp only [shCell, Option.some.injEq] at ht
    subst ht
    obtain ⟨U', h1, h2⟩ := easy hc
    exact ⟨U', h1, fun b hb => .inl (h2 b hb)⟩
  | bool b =>
    simp only [shCell, Option.some.injEq] at ht
    subst ht
    obtain ⟨U', h1, h2⟩ := easy hc
    exact ⟨U', h1, fun b hb => .inl (h2 b hb)⟩
  | str b =>
    simp only [shCell, Option.some.injEq] at ht
    subst ht
    obtain ⟨U', h1, h2⟩ := easy hc
    exact ⟨U', h1, fun b hb => .inl (h2 b hb)⟩
  | fn f ta cap =>
    simp only [shCell, Option.some.injEq] at ht
    subst ht
    obtain ⟨U', h1, h2⟩ := easy hc
    exact ⟨U', h1, fun b hb => .inl (h2 b hb)⟩
  | adr _ =>
    simp only [shCell, Option.some.injEq] at ht
    subst ht
    obtain ⟨U', h1, h2⟩ := easy hc
    exact ⟨U', h1, fun b hb => .inl (h2 b hb)⟩
  | hdr _ _ _ =>
    simp only [shCell, Option.some.injEq] at ht
    subst ht
    obtain ⟨U', h1, h2⟩ := easy hc
    exact ⟨U', h1, fun b hb => .inl (h2 b hb)⟩
  | sl o e sz cells =>
    simp only [shCell, Option.some.injEq] at ht
    subst ht
    obtain ⟨U', h1, h2⟩ := easy hc
    exact ⟨U', h1, fun b hb => .inl (h2 b hb)⟩
theorem shCells_rel (h : Rel w0 FA UA N w a E blk FS US) : ∀ {ts xs : List TV} {vs : List Value} {U : List Nat}, cellsX w a E blk ts vs [] U → (∀ b ∈ U, ∃ r, b ∈ US r) → shCells E ts = some xs →
    ∃ U', reps w xs vs [] U' ∧ ∀ b ∈ U', (∃ r, b ∈ US r) ∨ (ts.all (fun t => !t.isView) = false ∧ ∃ r, r ≠ .hand ∧ b ∈ FS r)
  | [], xs, vs, U, hc, hU, ht => by
    simp only [shCells, Option.some.injEq] at ht
    subst ht
    obtain ⟨rfl, _, rfl⟩ := hc
    exact ⟨[], by simp [reps], by simp⟩
  | t :: ts, xs, vs, U, hc, hU, ht => by
    simp only [shCells] at ht
    split at ht
    · rename_i x xs' hx hxs
      injection ht with ht
      subst ht
      obtain ⟨v, vs', F1, F2, U1, U2, rfl, hF, rfl, h1, h2⟩ := hc
      obtain ⟨rfl, rfl⟩ := List.append_eq_nil_iff.1 hF.symm
      obtain ⟨Ua, a1, a2⟩ := shCell_rel h h1 (fun b hb => hU b (by simp [hb])) hx
      obtain ⟨Ub, b1, b2⟩ := shCells_rel h h2 (fun b hb => hU b (by simp [hb])) hxs
      refine ⟨Ua ++ Ub, ?_, fun b hb => ?_⟩
      · simp only [reps]
        exact ⟨v, vs', [], [], Ua, Ub, rfl, rfl, rfl, a1, b1⟩
      · rcases List.mem_append.1 hb with hb | hb
        · rcases a2 b hb with h3 | ⟨h3, h4⟩
          · exact .inl h3
          · exact .inr ⟨by simp [h3], h4⟩
        · rcases b2 b hb with h3 | ⟨h3, h4⟩
          · exact .inl h3
          · exact .inr ⟨by simp only [List.all_cons, h3, Bool.and_false], h4⟩
    · cases ht
theorem svR_of_cells {w : World} {a : Act} {E : St} {blk : Root → Nat} {s : SV} {v : Value} {U F1 U1 : List Nat} {xs : List TV} (h1 : svX w a E blk s v [] U) (hp : s.plain = true) (hl : xs.length = s.cells.length) (h3 : reps w xs v.cells.toList F1 U1) : svR w (s.withCells xs) v F1 U1 := by
  cases s with
  | one t =>
    simp only [SV.cells, List.length_singleton] at hl
    simp only [svX] at h1
    have hj : t.isJunk = false := by cases t <;> first | rfl | cases hp
    have hc := h1.2 hj
    match xs, hl with
    | [x'], _ =>
      rw [hc] at h3
      simp only [reps] at h3
      obtain ⟨v2, vs2, G1, G2, V1, V2, hh, rfl, rfl, h15, rfl, rfl, rfl⟩ := h3
      injection hh with hh _
      subst hh
      simp only [SV.withCells, svR, List.append_nil]
      exact ⟨h15, hc⟩
  | agg cs =>
    simp only [svX] at h1
    obtain ⟨vs, hv, _⟩ := h1
    simp only [SV.withCells, svR]
    rw [hv] at h3
    exact ⟨vs, hv, by simpa [Value.cells] using h3⟩
  | tup ss => cases hp
theorem shSV_rel (h : Rel w0 FA UA N w a E blk FS US) {s s' : SV} {v : Value} {U : List Nat} (hs : svX w a E blk s v [] U) (hU : ∀ b ∈ U, ∃ r, b ∈ US r) (ht : shSV E s = some s') :
    ∃ U', svR w s' v [] U' ∧ ∀ b ∈ U', (∃ r, b ∈ US r) ∨ (s.noViews = false ∧ ∃ r, r ≠ .hand ∧ b ∈ FS r) := by
  unfold shSV at ht
  split at ht
  · rename_i hp
    obtain ⟨xs, hx, rfl⟩ := Option.map_eq_some_iff.1 ht
    have hc := sv_cells hs hp
    obtain ⟨U', h1, h2⟩ := shCells_rel h hc hU hx
    have hl := reps_len h1
    have hl2 := cellsX_len hc
    exact ⟨U', svR_of_cells hs hp (by omega) h1, h2⟩
  · cases ht
def mvArgs (P : Program) (E : St) : List (Bool × TypeId × Operand) → Option (List (Option SV) × St)
  | [] => some ([], E)
  | (true, t, x) :: l => match E.val P t x with
    | some s => match takeSV E s with
      | some (xs, E1) => match mvArgs P E1 l with
        | some (ss, E2) => some (some (s.withCells xs) :: ss, E2)
        | none => none
      | none => none
    | none => none
  | (false, _, _) :: l => match mvArgs P E l with
    | some (ss, E2) => some (none :: ss, E2)
    | none => none
def shArgs (P : Program) (E : St) : List (Bool × TypeId × Operand) → List (Option SV) → Option (List AV × Bool)
  | [], [] => some ([], true)
  | _ :: l, some s :: ss => match shArgs P E l ss with
    | some (as, b) => some (.sv s :: as, b)
    | none => none
  | (_, t, x) :: l, none :: ss => match E.val P t x with
    | some s => match shSV E s, shArgs P E l ss with
      | some s', some (as, b) => some (.sv s' :: as, s.noViews && b)
      | _, _ => none
    | none => none
  | _, _ => none
def mvR (w : World) (a : Act) : List (Bool × TypeId × Operand) → List (Option SV) → List Nat → List Nat → Prop
  | [], [], F, U => F = [] ∧ U = []
  | (_, _, x) :: l, some s :: ss, F, U => ∃ F1 F2 U1 U2, F = F1 ++ F2 ∧ U = U1 ++ U2 ∧ svR w s (a.eval x) F1 U1 ∧ mvR w a l ss F2 U2
  | _ :: l, none :: ss, F, U => mvR w a l ss F U
  | _, _, _, _ => False
theorem takeSV_len {E E' : St} {s : SV} {xs : List TV} (h : takeSV E s = some (xs, E')) : s.plain = true ∧ xs.length = s.cells.length := by
  unfold takeSV at h
  split at h
  · rename_i hp
    exact ⟨hp, takeCells_len h⟩
  · cases h
theorem mvArgs_rel : ∀ {l : List (Bool × TypeId × Operand)} {ss : List (Option SV)} {E E' : St} {FS US : Root → List Nat}, Rel w0 FA UA N w a E blk FS US → mvArgs P E l = some (ss, E') →
    ∃ FS' US' F U, mvR w a l ss F U ∧ Rel w0 FA UA N w a E' blk FS' US' ∧ FS' .hand = FS .hand ++ F ∧ US' .hand = US .hand ++ U ∧ (∀ s, Steady w w a a E E' blk blk s)
  | [], ss, E, E', FS, US, h, ht => by
    simp only [mvArgs, Option.some.injEq, Prod.mk.injEq] at ht
    obtain ⟨rfl, rfl⟩ := ht
    exact ⟨FS, US, [], [], ⟨rfl, rfl⟩, h, by simp, by simp, fun s => Steady.refl⟩
  | (true, t, x) :: l, ss, E, E', FS, US, h, ht => by
    simp only [mvArgs] at ht
    split at ht
    · rename_i s hs
      split at ht
      · rename_i xs E1 hx
        split at ht
        · rename_i ss' E2 hss
          simp only [Option.some.injEq, Prod.mk.injEq] at ht
          obtain ⟨rfl, rfl⟩ := ht
          obtain ⟨U, h1, h2⟩ := val_rel h hs
          obtain ⟨FS1, US1, F1, U1, h3, h4, h5, h6, h7, _⟩ := takeSV_rel h h1 h2 hx
          obtain ⟨FS2, US2, F2, U2, k1, k2, k3, k4, k5⟩ := mvArgs_rel h4 hss
          obtain ⟨hp, hl⟩ := takeSV_len hx
          refine ⟨FS2, US2, F1 ++ F2, U1 ++ U2, ⟨F1, F2, U1, U2, rfl, rfl, svR_of_cells h1 hp hl h3, k1⟩, k2, by rw [k3, h5, List.append_assoc], by rw [k4, h6, List.append_assoc], fun s => (h7 s).trans (k5 s)⟩
        · cases ht
      · cases ht
    · cases ht
  | (false, t, x) :: l, ss, E, E', FS, US, h, ht => by
    simp only [mvArgs] at ht
    split at ht
    · rename_i ss' E2 hss
      simp only [Option.some.injEq, Prod.mk.injEq] at ht
      obtain ⟨rfl, rfl⟩ := ht
      obtain ⟨FS2, US2, F2, U2, k1, k2, k3, k4, k5⟩ := mvArgs_rel h hss
      exact ⟨FS2, US2, F2, U2, k1, k2, k3, k4, k5⟩
    · cases ht
theorem shArgs_rel (h : Rel w0 FA UA N w a E blk FS US) : ∀ {l : List (Bool × TypeId × Operand)} {ss : List (Option SV)} {as : List AV} {c : Bool} {F U : List Nat}, mvR w a l ss F U → shArgs P E l ss = some (as, c) →
    ∃ U', argsR w as (l.map fun x => a.eval x.2.2) F U' ∧ ∀ b ∈ U', b ∈ U ∨ (∃ r, b ∈ US r) ∨ (c = false ∧ ∃ r, r ≠ .hand ∧ b ∈ FS r)
  | [], [], as, c, F, U, hm, ht => by
    simp only [shArgs, Option.some.injEq, Prod.mk.injEq] at ht
    obtain ⟨rfl, rfl⟩ := ht
    obtain ⟨rfl, rfl⟩ := hm
    exact ⟨[], ⟨rfl, rfl, rfl⟩, by simp⟩
  | (m, t, x) :: l, some s :: ss, as, c, F, U, hm, ht => by
    simp only [shArgs] at ht
    split at ht
    · rename_i as' b' hss
      simp only [Option.some.injEq, Prod.mk.injEq] at ht
      obtain ⟨rfl, rfl⟩ := ht
      obtain ⟨F1, F2, U1, U2, rfl, rfl, h1, h2⟩ := hm
      obtain ⟨U', k1, k2⟩ := shArgs_rel h h2 hss
      refine ⟨U1 ++ U', ⟨_, _, F1, F2, U1, U', rfl, rfl, rfl, h1, k1⟩, fun b hb => ?_⟩
      rcases List.mem_append.1 hb with hb | hb
      · exact .inl (by simp [hb])
      · rcases k2 b hb with k | k
        · exact .inl (by simp [k])
        · exact .inr k
    · cases ht
  | (m, t, x) :: l, none :: ss, as, c, F, U, hm, ht => by
    simp only [shArgs] at ht
    split at ht
    · rename_i s hs
      split at ht
      · rename_i s' as' b' hs' hss
        simp only [Option.some.injEq, Prod.mk.injEq] at ht
        obtain ⟨rfl, rfl⟩ := ht
        obtain ⟨U0, h1, h2⟩ := val_rel h hs
        obtain ⟨U1, h3, h4⟩ := shSV_rel h h1 h2 hs'
        have hm' : mvR w a l ss F U := by simpa only [mvR] using hm
        obtain ⟨U', k1, k2⟩ := shArgs_rel h hm' hss
        refine ⟨U1 ++ U', ⟨_, _, [], F, U1, U', rfl, rfl, rfl, h3, k1⟩, fun b hb => ?_⟩
        rcases List.mem_append.1 hb with hb | hb
        · rcases h4 b hb with h5 | ⟨h5, h6⟩
          · exact .inr (.inl h5)
          · exact .inr (.inr ⟨by simp [h5], h6⟩)
        · rcases k2 b hb with k | k | ⟨k, k'⟩
          · exact .inl k
          · exact .inr (.inl k)
          · exact .inr (.inr ⟨by simp [k], k'⟩)
      · cases ht
    · cases ht
  | [], some s :: ss, as, c, F, U, hm, ht => by simp [mvR] at hm
  | [], none :: ss, as, c, F, U, hm, ht => by simp [mvR] at hm
  | _ :: _, [], as, c, F, U, hm, ht => by simp [mvR] at hm
end
end Go.TI
namespace Go.TI
open Go Go.RowKit
set_option linter.unusedSimpArgs false
set_option linter.unusedVariables false
section
variable {w0 : Base} {FA UA : List Nat} {N : Nat} {w : World} {a : Act} {E : St} {blk : Root → Nat} {FS US : Root → List Nat} {P : Program}
def goFn (P : Program) (f : FuncId) : Prop := ∃ fn, P.funcs[f]? = some fn ∧ fn.name ≠ "runtime.NumGoroutine" ∧ fn.body.isNone = false
theorem run_call_fn {o : Oper} {f : FuncId} {args : Array Operand} {tys : Array TypeId} (ho : o.op = .call { callee := .value (.func f), args := args, argTypes := tys }) (hf : goFn P f) :
    (execOp a.eval o).run P w = .ok (.enter f (args.map a.eval)) w := by
  obtain ⟨fn, h1, h2, h3⟩ := hf
  have h4 : fn.body ≠ none := by intro e; simp [e] at h3
  simp [execOp, ho, resolve, Deferred.ofValue, invoke, callFunc, Act.eval, h1, h2, h4]
theorem argsR_gone {w : World} : ∀ {n : Nat} {vs : List Value} {F U : List Nat}, argsR w (List.replicate n .gone) vs F U → F = [] ∧ U = []
  | 0, vs, F, U, h => by
    simp only [List.replicate, argsR] at h
    exact ⟨h.2.1, h.2.2⟩
  | n + 1, vs, F, U, h => by
    simp only [List.replicate, argsR] at h
    obtain ⟨v, vs', F1, F2, U1, U2, rfl, rfl, rfl, h1, h2⟩ := h
    obtain ⟨rfl, rfl⟩ := h1
    obtain ⟨rfl, rfl⟩ := argsR_gone h2
    exact ⟨rfl, rfl⟩
variable (P) in
def effCall (E : St) (d : Option Nat) (l : List (Bool × TypeId × Operand)) (as : List AV) (res : SV) (E' : St) : Prop :=
  ∃ ss E1 c, mvArgs P E l = some (ss, E1) ∧ shArgs P E1 l ss = some (as, c) ∧ (c = true ∨ svShared res = false) ∧ E' = E1.put d res
theorem Rel.drop (h : Rel w0 FA UA N w a E blk FS US) {w' : World}
    (hsize : w.heap.size ≤ w'.heap.size) (hos : w'.os = w.os) (htape : w'.tape = w.tape) (hout : w'.output = w.output)
    (hkeep : ∀ b, b < w.heap.size → b ∉ FS .hand → w'.heap[b]? = w.heap[b]?) :
    ∃ FS' US', Rel w0 FA UA N w' a E blk FS' US' ∧ FS' .hand = [] ∧ US' .hand = [] := by
  have hst : ∀ r, Steady w w' a a E E blk blk r := by
    intro r
    by_cases hh : r = .hand
    · subst hh
      exact steady_none rfl rfl (by simp [St.root, h.nohand])
    · exact steady_other h rfl rfl rfl (fun _ _ => rfl) (fun _ => rfl)
        (fun b hb => hkeep b (h.inF r b hb).2 (h.dis r .hand hh b hb)) (fun b hb => hkeep b (h.inU r b hb).2 (fun e => h.disU .hand r b e hb))
  have h1 := h.two (w' := w') (a' := a) (E' := E) (blk' := blk) (r1 := .slot 0) (r2 := .hand) (L1 := FS (.slot 0)) (L2 := []) (V1 := US (.slot 0)) (V2 := []) (by simp)
    (by simpa using h.nodup _)
    (fun b hb => ⟨.inl (by simpa using hb), Nat.lt_of_lt_of_le (h.inF (.slot 0) b (by simpa using hb)).2 hsize⟩)
    (fun b hb => .inl ⟨.slot 0, by simpa using hb⟩)
    hsize hos htape hout (fun b hb _ hb2 => hkeep b hb hb2) hst
    (fun _ _ _ => ⟨rfl, rfl⟩) (fun _ _ _ _ => ⟨rfl, rfl⟩)
    (rootOk_step hst (h.root (.slot 0)) (fun _ _ => ⟨rfl, rfl⟩) (fun hm => by cases hm)
      (fun b hb => hkeep b (h.inF _ b hb).2 (h.dis _ .hand (by simp) b hb)) (fun b hb => hkeep b (h.inU _ b hb).2 (fun e => h.disU .hand _ b e hb)))
    trivial h.nohand h.len h.nodef
  exact ⟨_, _, h1, by rw [upd_eq], by rw [upd_eq]⟩
theorem mvR_kept : ∀ {l : List (Bool × TypeId × Operand)} {ss : List (Option SV)} {E E1 : St} {F U : List Nat}, l.all (fun x => !x.1) = true → mvArgs P E l = some (ss, E1) → mvR w a l ss F U → F = []
  | [], ss, E, E1, F, U, _, hm, h => by
    simp only [mvArgs, Option.some.injEq, Prod.mk.injEq] at hm
    obtain ⟨rfl, _⟩ := hm
    exact h.1
  | (b, t, x) :: l, ss, E, E1, F, U, hb, hm, h => by
    simp only [List.all_cons, Bool.and_eq_true, Bool.not_eq_true'] at hb
    obtain ⟨rfl, hb⟩ := hb
    simp only [mvArgs] at hm
    split at hm
    · rename_i ss' E2 hss
      simp only [Option.some.injEq, Prod.mk.injEq] at hm
      obtain ⟨rfl, _⟩ := hm
      exact mvR_kept hb hss h
    · cases hm
theorem call_step (h : Rel w0 FA UA N w a E blk FS US) (hF : FS .hand = []) (hU : US .hand = []) {o : Oper} {f : FuncId} {args : Array Operand} {tys : Array TypeId} (ho : o.op = .call { callee := .value (.func f), args := args, argTypes := tys }) (hf : goFn P f)
    (hN : ∀ d, o.dst = some d → d < N) {l : List (Bool × TypeId × Operand)} (hl : l.map (fun x => x.2.2) = args.toList) {as : List AV} {res : SV} {n : Nat} (hg : Gives P f as res (List.replicate n .gone)) {E' : St} (he : effCall P E o.dst l as res E')
    {K : Act → World → Prop} {Q : Exit → Act → World → Prop} (hK : ∀ w' v blk' FS' US', Rel w0 FA UA N w' (a.put o.dst v) E' blk' FS' US' → FS' .hand = [] → US' .hand = [] → (l.all (fun x => !x.1) = true → KeptW w w') → K (a.put o.dst v) w') : o.wp P a w K Q := by
  obtain ⟨ss, E1, c, h1, h2, h3, rfl⟩ := he
  obtain ⟨FS1, US1, F, U, k1, k2, k3, k4, _⟩ := mvArgs_rel h h1
  rw [hF, List.nil_append] at k3
  rw [hU, List.nil_append] at k4
  obtain ⟨U', k5, k6⟩ := shArgs_rel k2 k1 h2
  have hvs : l.map (fun x => a.eval x.2.2) = (args.map a.eval).toList := by
    rw [Array.toList_map, ← hl, List.map_map]
    rfl
  rw [hvs] at k5
  have hdisj : ∀ b ∈ F, b ∉ U' := by
    intro b hb hb'
    rw [← k3] at hb
    rcases k6 b hb' with h4 | ⟨r, h4⟩ | ⟨_, r, h5, h4⟩
    · rw [← k4] at h4
      exact k2.disU .hand .hand b hb h4
    · exact k2.disU .hand r b hb h4
    · exact k2.dis .hand r (Ne.symm h5) b hb h4
  have hcall := hg w _ F U' k5 (by rw [← k3]; exact k2.nodup .hand) hdisj (by
    intro b hb
    rcases List.mem_append.1 hb with hb | hb
    · exact (k2.inF .hand b (by rw [k3]; exact hb)).2
    · rcases k6 b hb with h4 | ⟨r, h4⟩ | ⟨_, r, h5, h4⟩
      · exact (k2.inU .hand b (by rw [k4]; exact h4)).2
      · exact (k2.inU r b h4).2
      · exact (k2.inF r b h4).2)
  unfold Oper.wp
  rw [run_call_fn ho hf]
  simp only [Oper.upon]
  rw [Array.toArray_toList] at hcall
  refine Calls.mono hcall ?_
  rintro e w' ⟨v, Fr, Ur, G, V, rfl, hleft⟩
  obtain ⟨rfl, rfl⟩ := argsR_gone hleft.fin
  have hin : ∀ b ∈ Fr, (b ∈ FS1 .hand ∨ w.heap.size ≤ b) ∧ b < w'.heap.size := by
    intro b hb
    have := hleft.inF b (by simpa using hb)
    rw [k3]
    exact this
  have hinU : ∀ b ∈ Ur, (∃ s, b ∈ US1 s) ∨ ((b ∈ FS1 .hand ∨ w.heap.size ≤ b) ∧ b ∉ Fr ∧ b < w'.heap.size) := by
    intro b hb
    obtain ⟨h4, h5⟩ := hleft.inU b (by simpa using hb)
    have hnot : b ∉ Fr := fun e => hleft.dis b (by simpa using e) (by simpa using hb)
    rcases h4 with h4 | h4 | h4
    · rcases k6 b h4 with h6 | h6 | ⟨h6, r, h7, h8⟩
      · exact .inl ⟨.hand, by rw [k4]; exact h6⟩
      · exact .inl h6
      · rcases h3 with h3 | h3
        · rw [h3] at h6; cases h6
        · have := svR_noshare hleft.res h3
          subst this
          cases hb
    · exact .inr ⟨.inl (by rw [k3]; exact h4), hnot, h5⟩
    · exact .inr ⟨.inr h4, hnot, h5⟩
  have hkeep : ∀ b, b < w.heap.size → b ∉ FS1 .hand → w'.heap[b]? = w.heap[b]? := fun b hb hb2 => hleft.keep b hb (by rw [← k3]; exact hb2)
  have hkw : l.all (fun x => !x.1) = true → KeptW w w' := fun hl => ⟨hleft.size, fun b hb => hleft.keep b hb (by rw [mvR_kept hl h1 k1]; simp)⟩
  cases hd : o.dst with
  | some d =>
    obtain ⟨FS', US', g1, g2, g3⟩ := k2.land (w' := w') (d := d) (s := res) (v := v) (F := Fr) (U := Ur) (hN d hd) (svX_of_svR hleft.res) (by simpa using hleft.nodup) hin hinU hleft.size hleft.os hleft.tape hleft.output hkeep
    have := hK w' v blk FS' US' (by rw [hd]; exact g1) g2 g3 hkw
    rw [hd] at this
    exact this
  | none =>
    obtain ⟨FS', US', g1, g2, g3⟩ := k2.drop (w' := w') hleft.size hleft.os hleft.tape hleft.output hkeep
    have := hK w' v blk FS' US' (by rw [hd]; exact g1) g2 g3 hkw
    rw [hd] at this
    exact this
end
end Go.TI
namespace Go.TI
open Go Go.RowKit
set_option linter.unusedSimpArgs false
set_option linter.unusedVariables false
def Post (w0 : Base) (FA UA : List Nat) (N : Nat) (Q : Exit → St → Prop) : Exit → Act → World → Prop :=
  fun e a w => ∃ E blk FS US, Q e E ∧ Rel w0 FA UA N w a E blk FS US ∧ FS .hand = [] ∧ US .hand = []
def Wp (P : Program) (N : Nat) (c : Code) (E : St) (Q : Exit → St → Prop) : Prop :=
  ∀ (w0 : Base) (FA UA : List Nat) (w : World) (a : Act) (blk : Root → Nat) (FS US : Root → List Nat), Rel w0 FA UA N w a E blk FS US → FS .hand = [] → US .hand = [] → c.wp P (Post w0 FA UA N Q) a w
def LWp (P : Program) (N : Nat) (ops : Array Oper) (l : List Oper) (E : St) (Q : Exit → St → Prop) : Prop :=
  ∀ (w0 : Base) (FA UA : List Nat) (w : World) (a : Act) (blk : Root → Nat) (FS US : Root → List Nat), Rel w0 FA UA N w a E blk FS US → FS .hand = [] → US .hand = [] → wpList P ops (Post w0 FA UA N Q) l a w
def thenQ (next : St → Prop) (Q : Exit → St → Prop) : Exit → St → Prop
  | .normal, E => next E
  | e, E => Q e E
def blockQ (id : Nat) (Q : Exit → St → Prop) : Exit → St → Prop
  | .exit id', E => if id' = id then Q .normal E else Q (.exit id') E
  | e, E => Q e E
def stepOp (P : Program) (N : Nat) (mv : Bool) (E : St) (o : Oper) : Option St := match o.dst with
  | none => match o.op with
    | .store t ad x => effStore P E t ad x
    | _ => (pureOp P E o).map fun _ => E
  | some d => if d < N then (match o.op with
    | .box t x => effBox P E d t x
    | .alloc t => effAlloc P E d t
    | .makeSlice t l c => effMake P E d t l c
    | .buildSlice t len parts => effBuildSlice P E d t len parts.toList
    | .extract t ix => effExtract E d t ix
    | .build t parts => (buildOp P E t parts.toList).map fun s => E.put (some d) s
    | .call c => match c.callee, c.args.toList, c.argTypes.toList with
      | .builtin .append, [s, x], [t, t'] => if t = t' then effAppend P E d t s x else effAppendS P E d t t' s x
      | _, _, _ => (pureOp P E o).map fun s => E.put (some d) s
    | .convert src dst x => match effConv P E d src dst x with
      | some E' => some E'
      | none => (pureOp P E o).map fun s => E.put (some d) s
    | .assign x => if mv = true then (match effMoveTup E d x with | some E' => some E' | none => effAssign P E d o.type x) else (pureOp P E o).map fun s => E.put (some d) s
    | .move x => if mv = true then (match effMoveTup E d x with | some E' => some E' | none => effAssign P E d o.type x) else (pureOp P E o).map fun s => E.put (some d) s
    | _ => (pureOp P E o).map fun s => E.put (some d) s) else none
section
variable {w0 : Base} {FA UA : List Nat} {N : Nat} {w : World} {a : Act} {E : St} {blk : Root → Nat} {FS US : Root → List Nat} {P : Program}
theorem Done.pure (h : Rel w0 FA UA N w a E blk FS US) (hF : FS .hand = []) (hU : US .hand = []) {o : Oper} {d : Nat} {s : SV} (hp : PureOk P w a E blk FS US o s) (hd : o.dst = some d) (hN : d < N) : Done P w0 FA UA N w a o (E.put (some d) s) := by
  obtain ⟨v, U, h1, h2, h3⟩ := hp
  refine ⟨.value v, w, v, blk, upd FS (.slot d) [], upd US (.slot d) U, h1 w (fun r _ => ⟨fun _ _ => rfl, fun _ _ => rfl⟩), .inl rfl, ?_, ?_, ?_, fun _ => KeptW.refl⟩
  · rw [hd]
    exact h.put hN h2 (fits_copy h h3 _)
  · rw [upd_ne (by simp), hF]
  · rw [upd_ne (by simp), hU]
theorem Done.pureNone (h : Rel w0 FA UA N w a E blk FS US) (hF : FS .hand = []) (hU : US .hand = []) {o : Oper} {s : SV} (hp : PureOk P w a E blk FS US o s) (hd : o.dst = none) : Done P w0 FA UA N w a o E := by
  obtain ⟨v, U, h1, h2, h3⟩ := hp
  refine ⟨.value v, w, v, blk, FS, US, h1 w (fun r _ => ⟨fun _ _ => rfl, fun _ _ => rfl⟩), .inl rfl, ?_, hF, hU, fun _ => KeptW.refl⟩
  rw [hd]
  exact h
theorem stepOp_done (h : Rel w0 FA UA N w a E blk FS US) (hF : FS .hand = []) (hU : US .hand = []) {mv : Bool} {o : Oper} {E' : St} (hs : stepOp P N mv E o = some E') : Done P w0 FA UA N w a o E' := by
  have pr : ∀ {s : SV}, pureOp P E o = some s → PureOk P w a E blk FS US o s := fun hp => pure_sound h hp
  unfold stepOp at hs
  split at hs
  · rename_i hd
    split at hs
    · rename_i ho
      exact Done.store h hF hU ho hd hs
    · obtain ⟨s, h1, rfl⟩ := Option.map_eq_some_iff.1 hs
      exact Done.pureNone h hF hU (pr h1) hd
  · rename_i d hd
    split at hs
    · rename_i hN
      split at hs
      · rename_i ho; exact Done.box h hF hU ho hd hN hs
      · rename_i ho; exact Done.alloc h hF hU ho hd hN hs
      · rename_i ho; exact Done.make h hF hU ho hd hN hs
      · rename_i ho; exact Done.buildSlice h hF hU ho hd hN hs
      · rename_i ho; exact Done.extract h hF hU ho hd hN hs
      · rename_i ho
        obtain ⟨s, h1, rfl⟩ := Option.map_eq_some_iff.1 hs
        exact Done.pure h hF hU (ok_build h ho h1) hd hN
      · rename_i c ho
        split at hs
        · rename_i s x t t' hc ha ht
          split at hs
          · rename_i htt
            subst htt
            obtain ⟨callee, args, types⟩ := c
            simp only at hc ha ht
            subst hc
            obtain rfl : args = #[s, x] := by cases args; simp_all
            obtain rfl : types = #[t, t] := by cases types; simp_all
            exact Done.append h hF hU ho hd hN hs
          · obtain ⟨callee, args, types⟩ := c
            simp only at hc ha ht
            subst hc
            obtain rfl : args = #[s, x] := by cases args; simp_all
            obtain rfl : types = #[t, t'] := by cases types; simp_all
            exact Done.appendS h hF hU ho hd hN hs
        · obtain ⟨s, h1, rfl⟩ := Option.map_eq_some_iff.1 hs
          exact Done.pure h hF hU (pr h1) hd hN
      · rename_i src dst x ho
        split at hs
        · rename_i E1 hc
          injection hs with hs
          subst hs
          exact Done.conv h hF hU ho hd hN hc
        · obtain ⟨s, h1, rfl⟩ := Option.map_eq_some_iff.1 hs
          exact Done.pure h hF hU (pr h1) hd hN
      · rename_i x ho
        split at hs
        · split at hs
          · rename_i hm
            injection hs with hs
            subst hs
            exact Done.moveTup h hF hU (.inl ho) hd hN hm
          · exact Done.assign h hF hU (.inl ho) hd hN hs
        · obtain ⟨s, h1, rfl⟩ := Option.map_eq_some_iff.1 hs
          exact Done.pure h hF hU (pr h1) hd hN
      · rename_i x ho
        split at hs
        · split at hs
          · rename_i hm
            injection hs with hs
            subst hs
            exact Done.moveTup h hF hU (.inr ho) hd hN hm
          · exact Done.assign h hF hU (.inr ho) hd hN hs
        · obtain ⟨s, h1, rfl⟩ := Option.map_eq_some_iff.1 hs
          exact Done.pure h hF hU (pr h1) hd hN
      · obtain ⟨s, h1, rfl⟩ := Option.map_eq_some_iff.1 hs
        exact Done.pure h hF hU (pr h1) hd hN
    · cases hs
theorem Done.wp {o : Oper} {E' : St} (hd : Done P w0 FA UA N w a o E') {K : Act → World → Prop} {Q : Exit → Act → World → Prop}
    (hK : ∀ w' v blk' FS' US', Rel w0 FA UA N w' (a.put o.dst v) E' blk' FS' US' → FS' .hand = [] → US' .hand = [] → (kp o = true → KeptW w w') → K (a.put o.dst v) w') : o.wp P a w K Q := by
  obtain ⟨nx, w', v, blk', FS', US', h1, h2, h3, h4, h5, h6⟩ := hd
  unfold Oper.wp
  rw [h1]
  rcases h2 with rfl | ⟨rfl, rfl⟩
  · exact hK w' v blk' FS' US' h3 h4 h5 h6
  · exact hK w' _ blk' FS' US' h3 h4 h5 h6
end
def guardOpen (P : Program) (ops : Array Oper) (E : St) (o : Oper) : Option Bool := match o.guard with
  | none => some true
  | some (g, want) => match (ops[g]?).bind (·.dst) with
    | some t => match E.slots t with
      | .tup _ => some false
      | _ => match E.cell1 P 0 (.tmp t) with
        | some (.bool b) => some (b == want)
        | _ => none
    | none => none
section
variable {w0 : Base} {FA UA : List Nat} {N : Nat} {w : World} {a : Act} {E : St} {blk : Root → Nat} {FS US : Root → List Nat} {P : Program}
theorem guard_rel (h : Rel w0 FA UA N w a E blk FS US) {ops : Array Oper} {o : Oper} {b : Bool} (hg : guardOpen P ops E o = some b) : Region.wanted o (yielded ops a.tmps) = b := by
  unfold guardOpen at hg
  unfold Region.wanted
  split at hg
  · rename_i hn
    injection hg with hg
    subst hg
    rw [hn]
  · rename_i g want hs
    split at hg
    · rename_i t ht
      split at hg
      · rename_i ts hts
        injection hg with hg
        subst hg
        have h1 := h.slot t
        rw [hts] at h1
        simp only [svX] at h1
        obtain ⟨vs, h1, _⟩ := h1
        have hy : yielded ops a.tmps g = none := by
          unfold yielded
          rw [ht]
          simp only [Act.eval, Array.getD_eq_getD_getElem?] at h1
          simp only [Option.bind_some]
          cases hx : a.tmps[t]? with
          | none => rfl
          | some u =>
            rw [hx] at h1
            simp only [Option.getD_some] at h1
            rw [h1]
        rw [hs]
        simp only [hy]
        rfl
      · split at hg
        · rename_i b' hb
          injection hg with hg
          subst hg
          have hev := cell1_bool h hb
          have hy : yielded ops a.tmps g = some b' := by
            unfold yielded
            rw [ht]
            simp only [Act.eval, Array.getD_eq_getD_getElem?] at hev
            simp only [Option.bind_some]
            cases hx : a.tmps[t]? with
            | none => rw [hx] at hev; simp [undef] at hev
            | some u =>
              rw [hx] at hev
              simp only [Option.getD_some] at hev
              rw [hev]
          rw [hs]
          simp only [hy]
          cases b' <;> cases want <;> rfl
        · cases hg
    · cases hg
theorem lZ {ops : Array Oper} {Q : Exit → St → Prop} (h : Q .normal E) : LWp P N ops [] E Q :=
  fun w0 FA UA w a blk FS US hr hF hU => ⟨E, blk, FS, US, h, hr, hF, hU⟩
theorem LWp.op {ops : Array Oper} {Q : Exit → St → Prop} {o : Oper} {rest : List Oper} (mv : Bool) {E' : St} (hg : guardOpen P ops E o = some true) (hs : stepOp P N mv E o = some E') (h : LWp P N ops rest E' Q) : LWp P N ops (o :: rest) E Q := by
  intro w0 FA UA w a blk FS US hr hF hU
  simp only [wpList, guard_rel hr hg, if_true]
  exact .inl ((stepOp_done hr hF hU hs).wp fun w' v blk' FS' US' k1 k2 k3 _ => h _ _ _ _ _ _ _ _ k1 k2 k3)
theorem LWp.shut {ops : Array Oper} {Q : Exit → St → Prop} {o : Oper} {rest : List Oper} {d : Nat} (hd : o.dst = some d) (hN : d < N) (hg : guardOpen P ops E o = some false) (h : LWp P N ops rest (E.put (some d) (.tup [])) Q) : LWp P N ops (o :: rest) E Q := by
  intro w0 FA UA w a blk FS US hr hF hU
  simp only [wpList, guard_rel hr hg]
  rw [if_neg (by simp), hd]
  refine h _ _ _ _ _ _ _ _ (hr.put (F := []) (U := []) hN (by simp only [svX]; exact ⟨[], rfl, by simp [tupX]⟩) Fits.none) ?_ ?_
  · rw [upd_ne (by simp), hF]
  · rw [upd_ne (by simp), hU]
theorem LWp.call {ops : Array Oper} {Q : Exit → St → Prop} {o : Oper} {rest : List Oper} {f : FuncId} {args : Array Operand} {tys : Array TypeId} (ho : o.op = .call { callee := .value (.func f), args := args, argTypes := tys }) (hf : goFn P f)
    (hg : guardOpen P ops E o = some true) (hN : ∀ d, o.dst = some d → d < N) (l : List (Bool × TypeId × Operand)) (hl : l.map (fun x => x.2.2) = args.toList) {as : List AV} {res : SV} {n : Nat} (hgv : Gives P f as res (List.replicate n .gone)) {E' : St} (he : effCall P E o.dst l as res E')
    (h : LWp P N ops rest E' Q) : LWp P N ops (o :: rest) E Q := by
  intro w0 FA UA w a blk FS US hr hF hU
  simp only [wpList, guard_rel hr hg, if_true]
  exact .inl (call_step hr hF hU ho hf hN hl hgv he fun w' v blk' FS' US' k1 k2 k3 _ => h _ _ _ _ _ _ _ _ k1 k2 k3)
theorem Wp.region {id : Nat} {l : List Oper} {Q : Exit → St → Prop} (h : LWp P N l.toArray l E Q) : Wp P N (.region id l.toArray false) E Q :=
  fun w0 FA UA w a blk FS US hr hF hU => wp_region_lit (h _ _ _ _ _ _ _ _ hr hF hU)
theorem Wp.skip {Q : Exit → St → Prop} (h : Q .normal E) : Wp P N .skip E Q :=
  fun w0 FA UA w a blk FS US hr hF hU => wp_skip ⟨E, blk, FS, US, h, hr, hF, hU⟩
theorem Wp.ret {Q : Exit → St → Prop} (h : Q .ret E) : Wp P N .ret E Q :=
  fun w0 FA UA w a blk FS US hr hF hU => wp_ret ⟨E, blk, FS, US, h, hr, hF, hU⟩
theorem Wp.exit {id : Nat} {Q : Exit → St → Prop} (h : Q (.exit id) E) : Wp P N (.exit id) E Q :=
  fun w0 FA UA w a blk FS US hr hF hU => wp_exit ⟨E, blk, FS, US, h, hr, hF, hU⟩
theorem Wp.seq {x y : Code} {Q : Exit → St → Prop} (h : Wp P N x E (thenQ (fun E' => Wp P N y E' Q) Q)) : Wp P N (.seq x y) E Q :=
  fun w0 FA UA w a blk FS US hr hF hU => wp_seq (wp_mono (h _ _ _ _ _ _ _ _ hr hF hU) fun e a w hq => by
    obtain ⟨E', blk', FS', US', h1, h2, h3, h4⟩ := hq
    cases e <;> first | exact ⟨E', blk', FS', US', h1, h2, h3, h4⟩ | exact h1 _ _ _ _ _ _ _ _ h2 h3 h4)
theorem Wp.block {id : Nat} {c : Code} {Q : Exit → St → Prop} (h : Wp P N c E (blockQ id Q)) : Wp P N (.block id c) E Q :=
  fun w0 FA UA w a blk FS US hr hF hU => wp_block (wp_mono (h _ _ _ _ _ _ _ _ hr hF hU) fun e a w hq => by
    obtain ⟨E', blk', FS', US', h1, h2, h3, h4⟩ := hq
    cases e <;> first
      | exact ⟨E', blk', FS', US', h1, h2, h3, h4⟩
      | (simp only [Exit.inBlock]
         simp only [blockQ] at h1
         split <;> rename_i hid
         · rw [if_pos hid] at h1; exact ⟨E', blk', FS', US', h1, h2, h3, h4⟩
         · rw [if_neg hid] at h1; exact ⟨E', blk', FS', US', h1, h2, h3, h4⟩))
theorem Wp.cond {c : Operand} {x y : Code} {b : Bool} {Q : Exit → St → Prop} (hc : E.cell1 P 0 c = some (.bool b)) (ht : b = true → Wp P N x E Q) (hf : b = false → Wp P N y E Q) : Wp P N (.cond c x y) E Q :=
  fun w0 FA UA w a blk FS US hr hF hU => wp_cond_split (cell1_bool hr hc) (fun e => ht e _ _ _ _ _ _ _ _ hr hF hU) (fun e => hf e _ _ _ _ _ _ _ _ hr hF hU)
theorem Wp.mono {c : Code} {Q Q' : Exit → St → Prop} (h : Wp P N c E Q) (hq : ∀ e E, Q e E → Q' e E) : Wp P N c E Q' :=
  fun w0 FA UA w a blk FS US hr hF hU => wp_mono (h _ _ _ _ _ _ _ _ hr hF hU) fun e a w ⟨E', blk', FS', US', h1, h2, h3, h4⟩ => ⟨E', blk', FS', US', hq _ _ h1, h2, h3, h4⟩
def Rounds (P : Program) (N : Nat) (c : Code) (Q : Exit → St → Prop) : Nat → St → Prop
  | 0, _ => False
  | n + 1, E => Wp P N c E (thenQ (Rounds P N c Q n) Q)
theorem rounds_of {c : Code} {Q : Exit → St → Prop} : ∀ {n : Nat} {E : St}, Rounds P N c Q n E → ∀ {w0 : Base} {FA UA : List Nat} {w : World} {a : Act} {blk : Root → Nat} {FS US : Root → List Nat}, Rel w0 FA UA N w a E blk FS US → FS .hand = [] → US .hand = [] → Code.rounds P c (Post w0 FA UA N Q) n a w
  | 0, E, h, _, _, _, _, _, _, _, _, _, _, _ => h.elim
  | n + 1, E, h, w0, FA, UA, w, a, blk, FS, US, hr, hF, hU => by
    rw [rounds_succ]
    refine wp_mono (h _ _ _ _ _ _ _ _ hr hF hU) fun e a w hq => ?_
    obtain ⟨E', blk', FS', US', h1, h2, h3, h4⟩ := hq
    cases e <;> first | exact ⟨E', blk', FS', US', h1, h2, h3, h4⟩ | exact rounds_of h1 h2 h3 h4
theorem Wp.loop {c : Code} {Q : Exit → St → Prop} (n : Nat) (h : Rounds P N c Q n E) : Wp P N (.loop c) E Q :=
  fun w0 FA UA w a blk FS US hr hF hU => wp_loop_rounds n (rounds_of h hr hF hU)
end
end Go.TI
namespace Go.TI
open Go Go.RowKit
set_option linter.unusedSimpArgs false
set_option linter.unusedVariables false
variable (P : Program) in
def resTake (E : St) : List ResultVar → Option (List SV × St)
  | [] => some ([], E)
  | .tmp t :: rs => match E.val P 0 (.tmp t) with
    | some s => match takeSV E s with
      | some (xs, E1) => match resTake E1 rs with
        | some (ss, E2) => some (s.withCells xs :: ss, E2)
        | none => none
      | none => none
    | none => none
  | .cell t ty :: rs => match pureOp P E { dst := none, op := .load ty (.tmp t), type := ty, pos := "", after := #[], guard := none } with
    | some s => match takeSV E s with
      | some (xs, E1) => match resTake E1 rs with
        | some (ss, E2) => some (s.withCells xs :: ss, E2)
        | none => none
      | none => none
    | none => none
def packRes : List SV → SV
  | [s] => s
  | ss => .tup ss
section
variable {w0 : Base} {FA UA : List Nat} {N : Nat} {w : World} {a : Act} {E : St} {blk : Root → Nat} {FS US : Root → List Nat} {P : Program}
def resOne (P : Program) (tmps : Array Value) : ResultVar → Sem Value
  | .tmp t => pure (tmps.getD t undef)
  | .cell a t => do loadVar t (← asAddr (tmps.getD a undef))
theorem results_eq (fn : Func) (tmps : Array Value) : results fn tmps = (do
    let vs ← fn.results.mapM (resOne P tmps)
    pure (if h : vs.size = 1 then vs[0] else .tuple vs)) := by
  unfold results
  congr 1
theorem resTake_rel : ∀ {rs : List ResultVar} {ss : List SV} {E E' : St} {FS US : Root → List Nat}, Rel w0 FA UA N w a E blk FS US → resTake P E rs = some (ss, E') →
    ∃ vs FS' US' F U, (rs.mapM (resOne P a.tmps)).run P w = .ok vs w ∧ tupR w ss vs F U ∧ Rel w0 FA UA N w a E' blk FS' US' ∧ FS' .hand = FS .hand ++ F ∧ US' .hand = US .hand ++ U
  | [], ss, E, E', FS, US, h, ht => by
    simp only [resTake, Option.some.injEq, Prod.mk.injEq] at ht
    obtain ⟨rfl, rfl⟩ := ht
    exact ⟨[], FS, US, [], [], by simp, by simp [tupR], h, by simp, by simp⟩
  | .tmp t :: rs, ss, E, E', FS, US, h, ht => by
    simp only [resTake] at ht
    split at ht
    · rename_i s hs
      split at ht
      · rename_i xs E1 hx
        split at ht
        · rename_i ss' E2 hss
          simp only [Option.some.injEq, Prod.mk.injEq] at ht
          obtain ⟨rfl, rfl⟩ := ht
          obtain ⟨U, h1, h2⟩ := val_rel h hs
          obtain ⟨FS1, US1, F1, U1, h3, h4, h5, h6, _, _⟩ := takeSV_rel h h1 h2 hx
          obtain ⟨vs, FS2, US2, F2, U2, k1, k2, k3, k4, k5⟩ := resTake_rel h4 hss
          obtain ⟨hp, hl⟩ := takeSV_len hx
          refine ⟨a.eval (.tmp t) :: vs, FS2, US2, F1 ++ F2, U1 ++ U2, ?_, ?_, k3, by rw [k4, h5, List.append_assoc], by rw [k5, h6, List.append_assoc]⟩
          · rw [List.mapM_cons]
            simp [resOne, k1, Act.eval]
          · simp only [tupR]
            exact ⟨_, vs, F1, F2, U1, U2, rfl, rfl, rfl, svR_of_cells h1 hp hl h3, k2⟩
        · cases ht
      · cases ht
    · cases ht
  | .cell t ty :: rs, ss, E, E', FS, US, h, ht => by
    simp only [resTake] at ht
    split at ht
    · rename_i s hs
      split at ht
      · rename_i xs E1 hx
        split at ht
        · rename_i ss' E2 hss
          simp only [Option.some.injEq, Prod.mk.injEq] at ht
          obtain ⟨rfl, rfl⟩ := ht
          obtain ⟨v, U, h0, h1, h2⟩ := pure_sound h hs
          obtain ⟨FS1, US1, F1, U1, h3, h4, h5, h6, _, _⟩ := takeSV_rel h h1 h2 hx
          obtain ⟨vs, FS2, US2, F2, U2, k1, k2, k3, k4, k5⟩ := resTake_rel h4 hss
          obtain ⟨hp, hl⟩ := takeSV_len hx
          have hrun := h0 w (fun r _ => ⟨fun _ _ => rfl, fun _ _ => rfl⟩)
          have hload : (resOne P a.tmps (.cell t ty)).run P w = .ok v w := by
            have hpt : ∃ r q j, E.ptr? (.tmp t) = some (r, q, j) := by
              simp only [pureOp] at hs
              split at hs
              · rename_i r q j hpt; exact ⟨r, q, j, hpt⟩
              · cases hs
            obtain ⟨r, q, j, hpt⟩ := hpt
            obtain ⟨_, ad, _, hev⟩ := ptr_rel h hpt
            simp only [execOp, Instr.loadAt, hev, Instr.sureAddr] at hrun
            simp only [Act.eval] at hev
            simp only [resOne, hev, asAddr]
            simp only [Sem.run_bind, Sem.run_pure, Result.andThen_ok] at hrun ⊢
            cases hl : (loadVar ty ad).run P w with
            | ok u w2 =>
              rw [hl] at hrun
              simp only [Result.andThen_ok, Result.ok.injEq, Next.value.injEq] at hrun
              obtain ⟨rfl, rfl⟩ := hrun
              rfl
            | halt x w2 =>
              rw [hl] at hrun
              simp at hrun
          refine ⟨v :: vs, FS2, US2, F1 ++ F2, U1 ++ U2, ?_, ?_, k3, by rw [k4, h5, List.append_assoc], by rw [k5, h6, List.append_assoc]⟩
          · rw [List.mapM_cons]
            simp [hload, k1]
          · simp only [tupR]
            exact ⟨_, vs, F1, F2, U1, U2, rfl, rfl, rfl, svR_of_cells h1 hp hl h3, k2⟩
        · cases ht
      · cases ht
    · cases ht
theorem run_results {fn : Func} {vs : List Value} (h : (fn.results.toList.mapM (resOne P a.tmps)).run P w = .ok vs w) : (results fn a.tmps).run P w = .ok (if h : vs.length = 1 then vs[0] else .tuple vs.toArray) w := by
  rw [results_eq (P := P)]
  have : fn.results.mapM (resOne P a.tmps) = List.toArray <$> fn.results.toList.mapM (resOne P a.tmps) := by
    rw [← List.mapM_toArray]
  rw [this]
  simp [h]
theorem packRes_rel {ss : List SV} {vs : List Value} {F U : List Nat} (h : tupR w ss vs F U) : svR w (packRes ss) (if h : vs.length = 1 then vs[0] else .tuple vs.toArray) F U := by
  unfold packRes
  split
  · rename_i s
    simp only [tupR] at h
    obtain ⟨v, vs', F1, F2, U1, U2, rfl, rfl, rfl, h1, rfl, rfl, rfl⟩ := h
    simpa using h1
  · rename_i hne
    have hl : vs.length = ss.length := by
      have : ∀ {ss : List SV} {vs : List Value} {F U : List Nat}, tupR w ss vs F U → vs.length = ss.length := by
        intro ss
        induction ss with
        | nil => intro vs F U h; simp only [tupR] at h; simp [h.1]
        | cons s ss ih =>
          intro vs F U h
          simp only [tupR] at h
          obtain ⟨v, vs', F1, F2, U1, U2, rfl, rfl, rfl, h1, h2⟩ := h
          simp [ih h2]
      exact this h
    have : ¬ vs.length = 1 := by
      intro h1
      rw [h1] at hl
      match ss, hl with
      | [s], _ => exact hne s rfl
    rw [dif_neg this]
    simp only [svR]
    exact ⟨vs, rfl, h⟩
end
theorem gives_of {P : Program} {f : FuncId} {fn : Func} {c : Code} {as : List AV} {res : SV} (hf : P.funcs[f]? = some fn) (hb : fn.body = some c)
    (h : Wp P fn.ntmps c (St.init as) fun e E => (e = .normal ∨ e = .ret) ∧ ∃ ss E', resTake P E fn.results.toList = some (ss, E') ∧ packRes ss = res) :
    Gives P f as res (List.replicate as.length .gone) := by
  intro w vs FA UA ha hnd hdis hlt
  obtain ⟨blk, FS, US, hr, hF, hU⟩ := Rel.init (N := fn.ntmps) ha hnd hdis hlt (A := Amb.none) trivial (fun b hb => by cases hb)
  refine calls_of_wp hf hb (wp_mono (h _ _ _ _ _ _ _ _ hr hF hU) ?_)
  rintro e a w' ⟨E, blk', FS', US', ⟨he, ss, E', h1, rfl⟩, h2, h3, h4⟩
  obtain ⟨us, FS2, US2, F, U, k1, k2, k3, k4, k5⟩ := resTake_rel h2 h1
  rw [h3, List.nil_append] at k4
  rw [h4, List.nil_append] at k5
  have hgone : ∀ (n : Nat) (vs : List Value), vs.length = n → argsR w' (List.replicate n .gone) vs [] [] := by
    intro n
    induction n with
    | zero => intro vs hv; simp at hv; subst hv; exact ⟨rfl, rfl, rfl⟩
    | succ n ih =>
      intro vs hv
      cases vs with
      | nil => simp at hv
      | cons v vs => exact ⟨v, vs, [], [], [], [], rfl, rfl, rfl, ⟨rfl, rfl⟩, ih vs (by simpa using hv)⟩
  have hvl : vs.length = as.length := by
    obtain ⟨_, _, _, _, h5, _⟩ := argsR_get ha
    exact h5
  have hpost : a.defers = [] ∧ ∃ v, (results fn a.tmps).run P w' = .ok v w' ∧ ∃ v' F U G V, Ending.returned v = .returned v' ∧ Left w w' FA UA (packRes ss) (List.replicate as.length .gone) vs v' F U G V := by
    refine ⟨h2.nodef, _, run_results k1, _, F, U, [], [], rfl, ?_⟩
    exact {
      res := packRes_rel k2
      fin := hgone _ _ hvl
      nodup := by simpa [← k4] using k3.nodup .hand
      dis := by
        intro b hb hb'
        simp only [List.append_nil] at hb hb'
        rw [← k4] at hb
        rw [← k5] at hb'
        exact k3.disU .hand .hand b hb hb'
      inF := by
        intro b hb
        simp only [List.append_nil] at hb
        rw [← k4] at hb
        exact k3.inF .hand b hb
      inU := by
        intro b hb
        simp only [List.append_nil] at hb
        rw [← k5] at hb
        exact k3.inU .hand b hb
      os := k3.os
      tape := k3.tape
      output := k3.output
      size := k3.size
      keep := fun b hb hF => k3.keep b hb hF (fun e => by cases e) }
  rcases he with rfl | rfl
  · exact hpost
  · exact hpost
end Go.TI
namespace Go.TI
open Go
set_option linter.unusedSimpArgs false
section
variable {E : St} {d n : Nat} {s : SV} {r : Root} {xs : List TV} {P : Program} {N : Nat}
theorem LWp.split {ops : Array Oper} {l : List Oper} {Q : Exit → St → Prop} (t : Nat) {b : Bool} (_ : E.cell1 P 0 (.tmp t) = some (.bool b)) (ht : b = true → LWp P N ops l E Q) (hf : b = false → LWp P N ops l E Q) : LWp P N ops l E Q := by
  cases b
  · exact hf rfl
  · exact ht rfl
theorem LWp.callS {ops : Array Oper} {Q : Exit → St → Prop} {o : Oper} {rest : List Oper} {f : FuncId} {args : Array Operand} {tys : Array TypeId} (ho : o.op = .call { callee := .value (.func f), args := args, argTypes := tys }) {fn : Func} (hf : P.funcs[f]? = some fn) (hn : fn.name ≠ "runtime.NumGoroutine") (hb : fn.body.isNone = false)
    (hg : guardOpen P ops E o = some true) {d : Nat} (hd : o.dst = some d) (hN : d < N) (hz : tys.size = args.size) {l : List AV} {res : SV} {n : Nat} (hgv : Gives P f l res (List.replicate n .gone)) {c : Bool}
    (hsh : shArgs P E ((tys.toList.zip args.toList).map fun (t, x) => (false, t, x)) (List.replicate args.size none) = some (l, c)) (hc : c = true ∨ svShared res = false)
    (h : LWp P N ops rest (E.put (some d) res) Q) : LWp P N ops (o :: rest) E Q := by
  have hmv : ∀ (l : List (TypeId × Operand)), mvArgs P E (l.map fun (t, x) => (false, t, x)) = some (List.replicate l.length none, E) := by
    intro l
    induction l with
    | nil => rfl
    | cons x l ih =>
      obtain ⟨t, x⟩ := x
      simp only [List.map_cons, mvArgs, ih, List.length_cons, List.replicate_succ]
  have hlen : (tys.toList.zip args.toList).length = args.size := by simp [hz]
  refine LWp.call ho ⟨fn, hf, hn, hb⟩ hg (fun d' hd' => by rw [hd] at hd'; injection hd' with hd'; subst hd'; exact hN) ((tys.toList.zip args.toList).map fun (t, x) => (false, t, x)) ?_ hgv ⟨_, E, c, hmv _, by rw [hlen]; exact hsh, hc, by rw [hd]⟩ h
  rw [List.map_map]
  have : ((fun x : Bool × TypeId × Operand => x.2.2) ∘ fun (x : TypeId × Operand) => (false, x.1, x.2)) = Prod.snd := rfl
  exact (congrArg (fun g => List.map g _) this).trans (List.map_snd_zip (by simp [hz]))
end
end Go.TI
namespace Go.TI
open Go Go.RowKit
set_option linter.unusedSimpArgs false
set_option linter.unusedVariables false
def mkSt (ls : List (Nat × SV)) (bs : List (Root × List TV)) : St where
  slots := fun n => (ls.lookup n).getD (.one .junk)
  boxes := fun r => bs.lookup r
  ver := fun _ => 0
  gen := fun _ => 0
def keepR (ls : List Nat) (bs : List Root) : Root → Bool
  | .slot n => ls.contains n
  | r => bs.contains r
def nCell (E : St) (ls : List Nat) (bs : List Root) : TV → TV
  | .view r v q j => if E.ver r = v ∧ keepR ls bs r = true then .view r 0 q j else .junk
  | .ptr r v q j => if E.stamp r q = v ∧ keepR ls bs r = true then .ptr r 0 q j else .junk
  | t => t
def nSV (E : St) (ls : List Nat) (bs : List Root) : SV → SV
  | .one t => .one (nCell E ls bs t)
  | .agg cs => .agg (cs.map (nCell E ls bs))
  | .tup _ => .one .junk
def normSt (E : St) (ls : List Nat) (bs : List Root) : St := { mkSt (ls.map fun n => (n, nSV E ls bs (E.slots n))) (bs.map fun r => (r, (E.boxes r).getD [])) with amb := E.amb, fz := E.fz }
theorem lookup_slots {f : Nat → SV} : ∀ {ls : List Nat} {n : Nat}, ((ls.map fun n => (n, f n)).lookup n) = if ls.contains n = true then some (f n) else none
  | [], n => rfl
  | m :: ls, n => by
    simp only [List.map_cons, List.lookup_cons, List.contains_cons]
    by_cases h : n = m
    · subst h; simp
    · have : (n == m) = false := by simpa using h
      rw [this, lookup_slots]
      simp
theorem lookup_boxes {f : Root → List TV} : ∀ {bs : List Root} {r : Root}, ((bs.map fun r => (r, f r)).lookup r) = if bs.contains r = true then some (f r) else none
  | [], r => rfl
  | s :: bs, r => by
    simp only [List.map_cons, List.lookup_cons, List.contains_cons]
    by_cases h : r = s
    · subst h; simp
    · have : (r == s) = false := by simpa using h
      rw [this, lookup_boxes]
      simp
section
variable {w0 : Base} {FA UA : List Nat} {N : Nat} {w : World} {a : Act} {E : St} {blk : Root → Nat} {FS US : Root → List Nat} {P : Program}
theorem nCell_sl {ls : List Nat} {bs : List Root} {o : Bool} {e sz : Nat} {cells : List TV} : nCell E ls bs (.sl o e sz cells) = .sl o e sz cells := rfl
theorem cont_map {ls : List Nat} {bs : List Root} {cs row : List TV} {c : Nat} {q : List Nat} (h : cont cs (c :: q) = some row) : cont (cs.map (nCell E ls bs)) (c :: q) = some row := by
  simp only [cont, List.getElem?_map] at h ⊢
  split at h
  · rename_i o e sz cells hc
    simp only [hc, Option.map_some, nCell_sl]
    exact h
  · cases h
theorem norm_root {ls : List Nat} {bs : List Root} {r : Root} (hk : keepR ls bs r = true) (hb : ∀ r ∈ bs, r.mem = true ∧ (E.boxes r).isSome = true) (hno : E.boxes .hand = none) :
    (∀ n, r ≠ .slot n) → (normSt E ls bs).root r = E.root r := by
  intro hn
  have hbr : ∀ r, bs.contains r = true → (bs.map fun r => (r, (E.boxes r).getD [])).lookup r = E.boxes r := by
    intro r hr
    rw [lookup_boxes, if_pos hr]
    obtain ⟨cs, hcs⟩ := Option.isSome_iff_exists.1 (hb r (by simpa using hr)).2
    rw [hcs]
    rfl
  cases r with
  | slot n => exact absurd rfl (hn n)
  | box n => exact hbr _ hk
  | ext n => exact hbr _ hk
  | hand => exact hbr _ hk
theorem norm_slot {ls : List Nat} {bs : List Root} {n : Nat} : (normSt E ls bs).slots n = if ls.contains n = true then nSV E ls bs (E.slots n) else .one .junk := by
  simp only [normSt, mkSt]
  rw [lookup_slots]
  split <;> rfl
theorem norm_place {ls : List Nat} {bs : List Root} {r : Root} {q : List Nat} {j : Nat} (hk : keepR ls bs r = true) (hb : ∀ r ∈ bs, r.mem = true ∧ (E.boxes r).isSome = true) (hno : E.boxes .hand = none)
    (hq : q = [] → r.mem = true ∨ isSlO (E.place r q j) = true) (hs : (E.place r q j).isSome = true) : (normSt E ls bs).place r q j = E.place r q j := by
  by_cases hsl : ∃ n, r = .slot n
  · obtain ⟨n, rfl⟩ := hsl
    have hk' : ls.contains n = true := hk
    simp only [St.place, St.root, Option.bind_some] at hs hq ⊢
    rw [norm_slot, if_pos hk']
    have hcells : (nSV E ls bs (E.slots n)).cells = (E.slots n).cells.map (nCell E ls bs) ∨ (E.slots n).cells = [] := by
      cases E.slots n with
      | one t => exact .inl rfl
      | agg cs => exact .inl rfl
      | tup ss => exact .inr rfl
    rcases hcells with hc | hc
    · rw [hc]
      cases q with
      | nil =>
        rcases hq rfl with h1 | h1
        · cases h1
        · simp only [cont, Option.bind_some] at h1 ⊢
          rw [List.getElem?_map]
          cases hx : (E.slots n).cells[j]? with
          | none => rw [hx] at h1; cases h1
          | some t =>
            rw [hx] at h1
            cases t <;> first | rfl | cases h1
      | cons c q =>
        cases hx : cont (E.slots n).cells (c :: q) with
        | none => rw [hx] at hs; cases hs
        | some row => rw [cont_map hx]
    · rw [hc] at hs
      exfalso
      cases q with
      | nil => simp [cont] at hs
      | cons c q => simp [cont] at hs
  · simp only [St.place, norm_root hk hb hno (fun n e => hsl ⟨n, e⟩)]
theorem cellX_norm {ls : List Nat} {bs : List Root} (hb : ∀ r ∈ bs, r.mem = true ∧ (E.boxes r).isSome = true) (hno : E.boxes .hand = none) {t : TV} {v : Value} {F U : List Nat} (h : cellX w a E blk t v F U) : cellX w a (normSt E ls bs) blk (nCell E ls bs t) v F U := by
  cases t with
  | view r ver q j =>
    obtain ⟨rfl, rfl, _, hc⟩ := h
    simp only [nCell]
    split
    · rename_i hcond
      obtain ⟨h1, h2⟩ := hc hcond.1
      refine ⟨rfl, rfl, Nat.zero_le _, fun _ => ⟨h1, ?_⟩⟩
      rw [norm_place hcond.2 hb hno (fun _ => .inr h2) (by cases hx : E.place r q j with | none => rw [hx] at h2; cases h2 | some _ => rfl)]
      exact h2
    · exact ⟨rfl, rfl⟩
  | ptr r ver q j =>
    obtain ⟨rfl, rfl, _, hc⟩ := h
    simp only [nCell]
    split
    · rename_i hcond
      obtain ⟨h1, ad, h2, h3⟩ := hc hcond.1
      refine ⟨rfl, rfl, Nat.zero_le _, fun _ => ⟨?_, ad, h2, h3⟩⟩
      rw [norm_place hcond.2 hb hno (fun hq => .inl (by subst hq; cases r <;> first | rfl | (simp [pa] at h2; done))) h1]
      exact h1
    · exact ⟨rfl, rfl⟩
  | junk => exact h
  | int k n => exact h
  | bool b => exact h
  | str s => exact h
  | fn _ _ _ => exact h
  | adr _ => exact h
  | hdr _ _ _ => exact h
  | sl o e sz cells => exact h
theorem cellsX_norm {ls : List Nat} {bs : List Root} (hb : ∀ r ∈ bs, r.mem = true ∧ (E.boxes r).isSome = true) (hno : E.boxes .hand = none) : ∀ {ts : List TV} {vs : List Value} {F U : List Nat}, cellsX w a E blk ts vs F U → cellsX w a (normSt E ls bs) blk (ts.map (nCell E ls bs)) vs F U
  | [], _, _, _, h => h
  | t :: ts, vs, F, U, h => by
    obtain ⟨v, vs', F1, F2, U1, U2, h1, h2, h3, h4, h5⟩ := h
    exact ⟨v, vs', F1, F2, U1, U2, h1, h2, h3, cellX_norm hb hno h4, cellsX_norm hb hno h5⟩
theorem Rel.norm (h : Rel w0 FA UA N w a E blk FS US) (ls : List Nat) (bs : List Root) (hb : ∀ r ∈ bs, r.mem = true ∧ (E.boxes r).isSome = true) :
    ∃ FS' US', Rel w0 FA UA N w a (normSt E ls bs) blk FS' US' ∧ FS' .hand = [] ∧ US' .hand = [] := by
  have hno := h.nohand
  -- which roots stay
  let st : Root → Bool := fun r => match r with
    | .slot n => ls.contains n && (match E.slots n with | .tup _ => false | _ => true)
    | .hand => false
    | r => bs.contains r
  let FS' : Root → List Nat := fun r => if st r = true then FS r else []
  let US' : Root → List Nat := fun r => if st r = true then US r else []
  have hF : ∀ r b, b ∈ FS' r → b ∈ FS r := by intro r b hx; simp only [FS'] at hx; split at hx; exact hx; cases hx
  have hU : ∀ r b, b ∈ US' r → b ∈ US r := by intro r b hx; simp only [US'] at hx; split at hx; exact hx; cases hx
  refine ⟨FS', US', ?_, by simp [FS', st], by simp [US', st]⟩
  constructor
  · intro n
    rw [norm_slot]
    have hs := h.slot n
    cases hc : ls.contains n with
    | false =>
      have : st (.slot n) = false := by show (ls.contains n && _) = false; rw [hc]; rfl
      simp [svX, cellX, TV.isJunk, FS', US', this]
    | true =>
      rw [if_pos rfl]
      cases hsl : E.slots n with
      | one t =>
        have : st (.slot n) = true := by show (ls.contains n && _) = true; rw [hc, hsl]; rfl
        rw [hsl] at hs
        simp only [svX] at hs
        simp only [nSV, svX, FS', US', this, if_true]
        refine ⟨cellX_norm hb hno hs.1, fun hj => hs.2 ?_⟩
        cases t <;> first | rfl | cases hj
      | agg cs =>
        have : st (.slot n) = true := by show (ls.contains n && _) = true; rw [hc, hsl]; rfl
        rw [hsl] at hs
        simp only [svX] at hs
        obtain ⟨vs, h1, h2⟩ := hs
        simp only [nSV, svX, FS', US', this, if_true]
        exact ⟨vs, h1, cellsX_norm hb hno h2⟩
      | tup ss =>
        have : st (.slot n) = false := by show (ls.contains n && _) = false; rw [hc, hsl]; rfl
        simp [nSV, svX, cellX, TV.isJunk, FS', US', this]
  · intro r hr
    cases hc : bs.contains r with
    | false =>
      have hst : st r = false := by cases r <;> first | exact hc | cases hr
      refine .inl ⟨?_, by simp [FS', hst], by simp [US', hst]⟩
      show (bs.map fun r => (r, (E.boxes r).getD [])).lookup r = none
      rw [lookup_boxes, if_neg (by rw [hc]; simp)]
    | true =>
      have hst : st r = true := by cases r <;> first | exact hc | cases hr
      have hbx : (normSt E ls bs).boxes r = E.boxes r := by
        show (bs.map fun r => (r, (E.boxes r).getD [])).lookup r = _
        rw [lookup_boxes, if_pos hc]
        obtain ⟨cs, hcs⟩ := Option.isSome_iff_exists.1 (hb r (by simpa using hc)).2
        rw [hcs]
        rfl
      rw [hbx]
      simp only [FS', US', hst, if_true]
      exact h.box r hr
  · show (bs.map fun r => (r, (E.boxes r).getD [])).lookup .hand = none
    rw [lookup_boxes, if_neg]
    intro hx
    have := (hb .hand (by simpa using hx)).1
    cases this
  · intro r
    simp only [FS']
    split
    · exact h.nodup r
    · exact List.nodup_nil
  · exact fun r s hrs b hx hy => h.dis r s hrs b (hF r b hx) (hF s b hy)
  · exact fun r s b hx hy => h.disU r s b (hF r b hx) (hU s b hy)
  · exact fun r b hx => h.inF r b (hF r b hx)
  · exact fun r b hx => h.inU r b (hU r b hx)
  · exact h.disA
  · exact h.os
  · exact h.tape
  · exact h.output
  · exact h.size
  · exact h.keep
  · exact h.len
  · exact h.nodef
  · exact h.xblk
  · exact h.ambB
  · exact h.ambI
  · exact h.frz
  · exact h.ambF
theorem Wp.norm {c : Code} {Q : Exit → St → Prop} (ls : List Nat) (bs : List Root) (E' : St) (hb : bs.all (fun r => r.mem && (E.boxes r).isSome) = true) (hE : normSt E ls bs = E') (h : Wp P N c E' Q) : Wp P N c E Q := by
  intro w0 FA UA w a blk FS US hr hF hU
  obtain ⟨FS', US', h1, h2, h3⟩ := hr.norm ls bs (fun r hm => by
    have := List.all_eq_true.1 hb r hm
    simpa using this)
  rw [hE] at h1
  exact h _ _ _ _ _ _ _ _ h1 h2 h3
end
end Go.TI
namespace Go.TI
open Go Go.RowKit
set_option linter.unusedSimpArgs false
set_option linter.unusedVariables false
def AWp (P : Program) (N : Nat) (ops : Array Oper) (fuel : Nat) (listed : Array Bool) (E : St) (Q : Exit → St → Prop) : Prop :=
  ∀ (w0 : Base) (FA UA : List Nat) (w : World) (a : Act) (blk : Root → Nat) (FS US : Root → List Nat), Rel w0 FA UA N w a E blk FS US → FS .hand = [] → US .hand = [] → wpAny P .any ops (Post w0 FA UA N Q) fuel listed a w
def AOp (P : Program) (N : Nat) (ops : Array Oper) (i : Nat) (E : St) (K : St → Prop) (Q : Exit → St → Prop) : Prop :=
  ∀ (w0 : Base) (FA UA : List Nat) (w : World) (a : Act) (blk : Root → Nat) (FS US : Root → List Nat), Rel w0 FA UA N w a E blk FS US → FS .hand = [] → US .hand = [] →
    wpOp P ops (Post w0 FA UA N Q) i (fun a' w' => ∃ E' blk' FS' US', K E' ∧ Rel w0 FA UA N w' a' E' blk' FS' US' ∧ FS' .hand = [] ∧ US' .hand = []) a w
section
variable {N : Nat} {E : St} {P : Program} {ops : Array Oper} {Q : Exit → St → Prop} {K : St → Prop} {i : Nat} {o : Oper} {fuel : Nat} {listed : Array Bool}
theorem AOp.op (mv : Bool) {E' : St} (ho : ops[i]? = some o) (hg : guardOpen P ops E o = some true) (hs : stepOp P N mv E o = some E') (h : K E') : AOp P N ops i E K Q := by
  intro w0 FA UA w a blk FS US hr hF hU
  unfold wpOp
  simp only [ho, guard_rel hr hg, if_true]
  exact .inl ((stepOp_done hr hF hU hs).wp fun w' v blk' FS' US' k1 k2 k3 _ => ⟨_, _, _, _, h, k1, k2, k3⟩)
theorem AOp.shut {d : Nat} (ho : ops[i]? = some o) (hd : o.dst = some d) (hN : d < N) (hg : guardOpen P ops E o = some false) (h : K (E.put (some d) (.tup []))) : AOp P N ops i E K Q := by
  intro w0 FA UA w a blk FS US hr hF hU
  unfold wpOp
  simp only [ho, guard_rel hr hg]
  rw [if_neg (by simp), hd]
  refine ⟨_, blk, _, _, h, hr.put (F := []) (U := []) hN (by simp only [svX]; exact ⟨[], rfl, by simp [tupX]⟩) Fits.none, ?_, ?_⟩
  · rw [upd_ne (by simp), hF]
  · rw [upd_ne (by simp), hU]
theorem AOp.call {f : FuncId} {args : Array Operand} {tys : Array TypeId} (hi : ops[i]? = some o) (ho : o.op = .call { callee := .value (.func f), args := args, argTypes := tys }) (hf : goFn P f)
    (hg : guardOpen P ops E o = some true) (hN : ∀ d, o.dst = some d → d < N) (l : List (Bool × TypeId × Operand)) (hl : l.map (fun x => x.2.2) = args.toList) {as : List AV} {res : SV} {n : Nat} (hgv : Gives P f as res (List.replicate n .gone)) {E' : St} (he : effCall P E o.dst l as res E')
    (h : K E') : AOp P N ops i E K Q := by
  intro w0 FA UA w a blk FS US hr hF hU
  unfold wpOp
  simp only [hi, guard_rel hr hg, if_true]
  exact .inl (call_step hr hF hU ho hf hN hl hgv he fun w' v blk' FS' US' k1 k2 k3 _ => ⟨_, _, _, _, h, k1, k2, k3⟩)
theorem AWp.done (hr : Region.ready .any ops listed = []) (h : Q .normal E) : AWp P N ops fuel listed E Q :=
  fun w0 FA UA w a blk FS US k1 k2 k3 => wpAny_done hr ⟨E, blk, FS, US, h, k1, k2, k3⟩ fuel
theorem AWp.all (rs : List Nat) (hr : Region.ready .any ops listed = rs) (hne : rs ≠ []) (h : ∀ i ∈ rs, AOp P N ops i E (fun E' => AWp P N ops fuel (listed.setIfInBounds i true) E' Q) Q) : AWp P N ops (fuel + 1) listed E Q :=
  fun w0 FA UA w a blk FS US k1 k2 k3 => wpAny_all hr hne fun i hi => wpOp_mono (fun a' w' ⟨E', blk', FS', US', m1, m2, m3, m4⟩ => m1 _ _ _ _ _ _ _ _ m2 m3 m4) (h i hi _ _ _ _ _ _ _ _ k1 k2 k3)
theorem AWp.one (i : Nat) (hr : Region.ready .any ops listed = [i]) (h : AOp P N ops i E (fun E' => AWp P N ops fuel (listed.setIfInBounds i true) E' Q) Q) : AWp P N ops (fuel + 1) listed E Q :=
  AWp.all [i] hr (by simp) fun j hj => by
    have : j = i := by simpa using hj
    subst this
    exact h
theorem AWp.take (i : Nat) {d : Nat} (s : SV) (ho : ops[i]? = some o) (hs : Region.noSelect ops = true) (hf : Region.free .any ops listed i = true) (hr : (Region.ready .any ops listed).contains i = true)
    (hQ : ∀ c E, Q (.panic c) E → False) (hg : guardOpen P ops E o = some true) (hd : o.dst = some d) (hN : d < N) (hp : pureOp P E o = some s) (hn : readRoot E o = none) (h : AWp P N ops fuel (listed.setIfInBounds i true) (E.put (some d) s) Q) : AWp P N ops (fuel + 1) listed E Q := by
  intro w0 FA UA w a blk FS US k1 k2 k3
  obtain ⟨v, U, h1, h2, h3⟩ := pure_sound k1 hp
  refine wpAny_take (v := v) ho hs hf hr (fun c a w hx => ?_) (.inl ⟨guard_rel k1 hg, fun w2 => h1 w2 (fun r hrr => by rw [hn] at hrr; cases hrr)⟩) ?_
  · obtain ⟨E', blk', FS', US', m1, _⟩ := hx
    exact (hQ c E' m1).elim
  · rw [hd]
    refine h _ _ _ _ _ _ _ _ (k1.put hN h2 (fits_copy k1 h3 _)) ?_ ?_
    · rw [upd_ne (by simp), k2]
    · rw [upd_ne (by simp), k3]
end
end Go.TI
namespace Go.TI
open Go Go.RowKit
set_option linter.unusedSimpArgs false
set_option linter.unusedVariables false
section
variable {N : Nat} {E : St} {P : Program} {o : Oper} {d : Nat}
end
end Go.TI
namespace Go.TI
open Go Go.RowKit
set_option linter.unusedSimpArgs false
set_option linter.unusedVariables false
def SWp (P : Program) (N : Nat) (ops : Array Oper) (l : List Oper) (E : St) (K : St → Prop) : Prop :=
  ∀ (w0 : Base) (FA UA : List Nat) (w : World) (a : Act) (blk : Root → Nat) (FS US : Root → List Nat), Rel w0 FA UA N w a E blk FS US → FS .hand = [] → US .hand = [] →
    wpStill P ops w (fun a' => ∃ E' blk' FS' US', K E' ∧ Rel w0 FA UA N w a' E' blk' FS' US' ∧ FS' .hand = [] ∧ US' .hand = []) l a
def stillOp (P : Program) (E : St) (o : Oper) : Option SV := match o.op with
  | .build t parts => buildOp P E t parts.toList
  | _ => pureOp P E o
section
variable {w0 : Base} {FA UA : List Nat} {N : Nat} {w : World} {a : Act} {E : St} {blk : Root → Nat} {FS US : Root → List Nat} {P : Program} {ops : Array Oper} {Q : Exit → St → Prop} {K : St → Prop} {o : Oper} {rest : List Oper}
theorem stillOp_ok (h : Rel w0 FA UA N w a E blk FS US) {s : SV} (hs : stillOp P E o = some s) : PureOk P w a E blk FS US o s := by
  unfold stillOp at hs
  split at hs
  · rename_i ho
    exact ok_build h ho hs
  · exact pure_sound h hs
theorem SWp.nil (h : K E) : SWp P N ops [] E K := fun w0 FA UA w a blk FS US k1 k2 k3 => ⟨E, blk, FS, US, h, k1, k2, k3⟩
theorem SWp.op (s : SV) {d : Nat} (hg : guardOpen P ops E o = some true) (hd : o.dst = some d) (hN : d < N) (hs : stillOp P E o = some s) (h : SWp P N ops rest (E.put (some d) s) K) : SWp P N ops (o :: rest) E K := by
  intro w0 FA UA w a blk FS US k1 k2 k3
  obtain ⟨v, U, h1, h2, h3⟩ := stillOp_ok k1 hs
  have hr := h1 w (fun r _ => ⟨fun _ _ => rfl, fun _ _ => rfl⟩)
  simp only [wpStill, guard_rel k1 hg, if_true, Oper.still, hr, Oper.stillUpon_value]
  rw [hd]
  refine h _ _ _ _ _ _ _ _ (k1.put hN h2 (fits_copy k1 h3 _)) ?_ ?_
  · rw [upd_ne (by simp), k2]
  · rw [upd_ne (by simp), k3]
theorem SWp.shut {d : Nat} (hd : o.dst = some d) (hN : d < N) (hg : guardOpen P ops E o = some false) (h : SWp P N ops rest (E.put (some d) (.tup [])) K) : SWp P N ops (o :: rest) E K := by
  intro w0 FA UA w a blk FS US hr hF hU
  simp only [wpStill, guard_rel hr hg]
  rw [if_neg (by simp), hd]
  refine h _ _ _ _ _ _ _ _ (hr.put (F := []) (U := []) hN (by simp only [svX]; exact ⟨[], rfl, by simp [tupX]⟩) Fits.none) ?_ ?_
  · rw [upd_ne (by simp), hF]
  · rw [upd_ne (by simp), hU]
theorem SWp.split {l : List Oper} (t : Nat) {b : Bool} (_ : E.cell1 P 0 (.tmp t) = some (.bool b)) (ht : b = true → SWp P N ops l E K) (hf : b = false → SWp P N ops l E K) : SWp P N ops l E K := by
  cases b
  · exact hf rfl
  · exact ht rfl
theorem Wp.regionS {id : Nat} {l : List Oper} (hm : P.follows .mixedOrders = true) (hB : Region.lexB .any l.toArray = true) (h : SWp P N l.toArray l E (fun E' => Q .normal E')) : Wp P N (.region id l.toArray true) E Q := by
  intro w0 FA UA w a blk FS US k1 k2 k3
  obtain ⟨FS', US', m1, m2, m3⟩ := k1.drop (w' := { w with drawn := w.drawn + 1 }) (Nat.le_refl _) rfl rfl rfl (fun _ _ _ => rfl)
  exact wp_region_still_lit hm hB (h _ _ _ _ _ _ _ _ m1 m2 m3)
theorem wpStill_mono {Q1 Q2 : Act → Prop} (hq : ∀ a, Q1 a → Q2 a) : ∀ {l : List Oper} {a : Act}, wpStill P ops w Q1 l a → wpStill P ops w Q2 l a
  | [], a, h => hq a h
  | o :: l, a, h => by
    simp only [wpStill] at h ⊢
    split
    · rename_i hw
      rw [if_pos hw] at h
      exact Oper.still_mono (fun a k => wpStill_mono hq k) h
    · rename_i hw
      rw [if_neg hw] at h
      exact wpStill_mono hq h
theorem Wp.regionT {id : Nat} {l : List Oper} (n : Nat) (hm : P.follows .mixedOrders = true) (hB : Region.lexTailB .any l.toArray n = true) (h : SWp P N l.toArray (l.take n) E (fun E' => LWp P N l.toArray (l.drop n) E' Q)) : Wp P N (.region id l.toArray true) E Q := by
  intro w0 FA UA w a blk FS US k1 k2 k3
  obtain ⟨FS', US', m1, m2, m3⟩ := k1.drop (w' := { w with drawn := w.drawn + 1 }) (Nat.le_refl _) rfl rfl rfl (fun _ _ _ => rfl)
  refine wp_region_still_tail n hm hB (wpStill_mono ?_ (h _ _ _ _ _ _ _ _ m1 m2 m3))
  rintro a' ⟨E', blk', FS2, US2, h1, h2, h3, h4⟩
  exact h1 _ _ _ _ _ _ _ _ h2 h3 h4
end
end Go.TI
namespace Go.TI
open Go Go.RowKit
set_option linter.unusedSimpArgs false
set_option linter.unusedVariables false
def encs {α : Type} (f : α → List TV) (l : List α) : List TV := (l.map f).flatten
def gi {α : Type} (l : List α) (i : Int) : Option α := if 0 ≤ i then l[i.toNat]? else none
def si {α : Type} (l : List α) (i : Int) (x : α) : List α := l.set i.toNat x
def ln {α : Type} (l : List α) : Int := (l.length : Nat)
section
variable {α : Type} {f : α → List TV} {sz : Nat}
theorem encs_len (hf : ∀ x, (f x).length = sz) : ∀ l : List α, (encs f l).length = l.length * sz
  | [] => by simp [encs]
  | x :: l => by
    have := encs_len hf l
    simp only [encs, List.map_cons, List.flatten_cons, List.length_append, List.length_cons, hf] at this ⊢
    rw [this, Nat.succ_mul, Nat.add_comm]
theorem encs_cons (x : α) (l : List α) : encs f (x :: l) = f x ++ encs f l := rfl
theorem encs_append (l m : List α) : encs f (l ++ m) = encs f l ++ encs f m := by simp [encs]
theorem gi_some {l : List α} {i : Int} {x : α} (h : gi l i = some x) : 0 ≤ i ∧ i.toNat < l.length ∧ l[i.toNat]? = some x := by
  unfold gi at h
  split at h
  · exact ⟨by assumption, (List.getElem?_eq_some_iff.1 h).1, h⟩
  · cases h
theorem encs_drop (hf : ∀ x, (f x).length = sz) : ∀ (l : List α) (n : Nat), (encs f l).drop (n * sz) = encs f (l.drop n)
  | l, 0 => by simp
  | [], n + 1 => by simp [encs]
  | x :: l, n + 1 => by
    rw [encs_cons, List.drop_succ_cons, ← encs_drop hf l n, Nat.succ_mul, Nat.add_comm, ← List.drop_drop, List.drop_left' (hf x)]
theorem gi_row (hf : ∀ x, (f x).length = sz) {l : List α} {i : Int} {x : α} (h : gi l i = some x) : ((encs f l).drop (i.toNat * sz)).take sz = f x := by
  obtain ⟨_, h1, h2⟩ := gi_some h
  rw [encs_drop hf, List.drop_eq_getElem_cons h1, encs_cons, List.take_left' (hf _)]
  rw [List.getElem?_eq_getElem h1] at h2
  injection h2 with h2
  rw [h2]
theorem gi_cell (hf : ∀ x, (f x).length = sz) {l : List α} {i : Int} {x : α} (h : gi l i = some x) {k : Nat} (hk : k < sz) : (encs f l)[i.toNat * sz + k]? = (f x)[k]? := by
  rw [← gi_row hf h, List.getElem?_take, if_pos hk, List.getElem?_drop]
theorem gi_fit (hf : ∀ x, (f x).length = sz) {l : List α} {i : Int} {x : α} (h : gi l i = some x) : (i.toNat + 1) * sz ≤ (encs f l).length := by
  rw [encs_len hf]
  exact Nat.mul_le_mul_right _ (gi_some h).2.1
theorem setRow_encs (hf : ∀ x, (f x).length = sz) : ∀ (l : List α) (n : Nat) (y : List TV) (z : α) {k : Nat} {x : α}, l[n]? = some x → k + y.length ≤ sz → setRow (f x) k y = f z → setRow (encs f l) (n * sz + k) y = encs f (l.set n z)
  | [], n, y, z, k, x, h, _, _ => by simp at h
  | x0 :: l, 0, y, z, k, x, h, hk, he => by
    simp at h
    subst h
    rw [List.set_cons_zero, encs_cons, encs_cons, ← he]
    have h1 := hf x0
    simp only [setRow, Nat.zero_mul, Nat.zero_add]
    rw [List.take_append_of_le_length (by omega), List.drop_append_of_le_length (by omega)]
    simp
  | x0 :: l, n + 1, y, z, k, x, h, hk, he => by
    have ih := setRow_encs hf l n y z (by simpa using h) hk he
    rw [List.set_cons_succ, encs_cons, encs_cons, ← ih]
    have h1 := hf x0
    simp only [setRow, Nat.succ_mul]
    rw [show n * sz + sz + k = (f x0).length + (n * sz + k) by omega, Nat.add_assoc, List.take_append, List.drop_append, List.take_of_length_le (by omega), List.drop_eq_nil_of_le (by omega)]
    simp
theorem setRow_gi (hf : ∀ x, (f x).length = sz) {l : List α} {i : Int} {x z : α} (h : gi l i = some x) {k : Nat} {y : List TV} (hk : Nat.ble (k + y.length) sz = true) (he : setRow (f x) k y = f z) : setRow (encs f l) (i.toNat * sz + k) y = encs f (si l i z) :=
  setRow_encs hf l _ y z (gi_some h).2.2 (by simpa [Nat.ble_eq] using hk) he
theorem set_encs (hf : ∀ x, (f x).length = sz) {l : List α} {n : Nat} {x z : α} (h : l[n]? = some x) {k : Nat} {t : TV} (hk : k < sz) (he : (f x).set k t = f z) : (encs f l).set (n * sz + k) t = encs f (l.set n z) := by
  have hl : (n * sz + k) < (encs f l).length := by
    rw [encs_len hf]
    have := (List.getElem?_eq_some_iff.1 h).1
    have : (n + 1) * sz ≤ l.length * sz := Nat.mul_le_mul_right _ this
    rw [Nat.succ_mul] at this
    omega
  have hset : ∀ {c : List TV} {m : Nat}, m < c.length → c.set m t = setRow c m [t] := by
    intro c m hm
    rw [List.set_eq_take_append_cons_drop, if_pos hm]
    simp [setRow]
  rw [hset hl]
  refine setRow_encs hf l n [t] z h hk ?_
  rw [← hset (by rw [hf]; exact hk)]
  exact he
end
end Go.TI
namespace Go.TI
open Go Go.RowKit
set_option linter.unusedSimpArgs false
set_option linter.unusedVariables false
abbrev I (n : Int) : SV := .one (.int .i64 n)
abbrev B (b : Bool) : SV := .one (.bool b)
abbrev Y (s : ByteArray) : SV := .one (.str s)
def runO {S α : Type} (body : S → Option (S ⊕ α)) : Nat → S → Option α
  | 0, _ => none
  | n + 1, s => match body s with
    | none => none
    | some (.inl s') => runO body n s'
    | some (.inr a) => some a
theorem runO_mono {S α : Type} {body : S → Option (S ⊕ α)} {a : α} : ∀ {n m : Nat} {s : S}, runO body n s = some a → n ≤ m → runO body m s = some a
  | 0, _, _, h, _ => by cases h
  | n + 1, 0, _, _, h => by omega
  | n + 1, m + 1, s, h, hm => by
    simp only [runO] at h ⊢
    split at h
    · cases h
    · exact runO_mono h (by omega)
    · exact h
open Classical in
noncomputable def loopO {S α : Type} (body : S → Option (S ⊕ α)) (s : S) : Option α :=
  if h : ∃ a n, runO body n s = some a then some h.choose else none
theorem loopO_iff {S α : Type} {body : S → Option (S ⊕ α)} {s : S} {a : α} : loopO body s = some a ↔ ∃ n, runO body n s = some a := by
  unfold loopO
  constructor
  · intro h
    split at h
    · rename_i he
      injection h with h
      rw [← h]
      exact he.choose_spec
    · cases h
  · rintro ⟨n, h⟩
    have he : ∃ a n, runO body n s = some a := ⟨a, n, h⟩
    rw [dif_pos he]
    obtain ⟨m, hm⟩ := he.choose_spec
    have h1 := runO_mono hm (Nat.le_max_left m n)
    have h2 := runO_mono h (Nat.le_max_right m n)
    rw [h1] at h2
    exact h2
theorem loopO_eq {S α : Type} (body : S → Option (S ⊕ α)) (s : S) : loopO body s = match body s with
    | none => none
    | some (.inl s') => loopO body s'
    | some (.inr a) => some a := by
  have key : ∀ a, loopO body s = some a ↔ (match body s with | none => none | some (.inl s') => loopO body s' | some (.inr a) => some a) = some a := by
    intro a
    rw [loopO_iff]
    constructor
    · rintro ⟨n, h⟩
      cases n with
      | zero => cases h
      | succ n =>
        simp only [runO] at h
        split at h
        · cases h
        · rename_i s' hb
          exact loopO_iff.2 ⟨n, h⟩
        · rename_i a' hb
          simpa only [hb] using h
    · intro h
      split at h
      · cases h
      · rename_i s' hb
        obtain ⟨n, hn⟩ := loopO_iff.1 h
        exact ⟨n + 1, by simp only [runO, hb]; exact hn⟩
      · rename_i a' hb
        exact ⟨1, by simp only [runO, hb]; exact h⟩
  cases hx : loopO body s with
  | some a => exact ((key a).1 hx).symm
  | none =>
    cases hy : (match body s with | none => none | some (.inl s') => loopO body s' | some (.inr a) => some a : Option α) with
    | none => rfl
    | some a => rw [(key a).2 hy] at hx; cases hx
def nt (ls : List Nat) (bs : List Root) (E E' : St) : Prop := bs.all (fun r => r.mem && (E.boxes r).isSome) = true ∧ normSt E ls bs = E'
def mvs (E : St) (l : List (Root × List TV)) : St := l.foldl (fun E x => (E.setRoot x.1 x.2).bump x.1) E
def St.rs (E : St) (t : Nat) (b : Bool) : St := { E with slots := upd E.slots t (B b) }
theorem rs_eq {E : St} {t : Nat} {b : Bool} (h : E.slots t = B b) : E.rs t b = E := by
  have : upd E.slots t (B b) = E.slots := by
    funext n
    simp only [upd]
    split
    · rename_i hn; rw [hn, h]
    · rfl
  unfold St.rs
  rw [this]
section
variable {P : Program} {N : Nat} {E : St} {ops : Array Oper} {oo : Oper} {rest l : List Oper} {Q : Exit → St → Prop} {α β : Type} {r : β}
theorem lO (d : Nat) (s : SV) (h : LWp P N ops rest (E.put (some d) s) Q) (hs : stepOp P N false E oo = some (E.put (some d) s) := by rfl) (hg : guardOpen P ops E oo = some true := by rfl) : LWp P N ops (oo :: rest) E Q := LWp.op false hg hs h
theorem lH (d : Nat) (h : LWp P N ops rest (E.put (some d) (.tup [])) Q) (hd : oo.dst = some d := by rfl) (hN : Nat.blt d N = true := by rfl) (hg : guardOpen P ops E oo = some false := by rfl) : LWp P N ops (oo :: rest) E Q := LWp.shut hd (by simpa [Nat.blt_eq] using hN) hg h
theorem LWp.b (m : List (Root × List TV)) (d : Nat) (xs : List TV) (h : LWp P N ops rest ((mvs E m).newBox d xs) Q) (hs : stepOp P N false E oo = some ((mvs E m).newBox d xs) := by rfl) (hg : guardOpen P ops E oo = some true := by rfl) : LWp P N ops (oo :: rest) E Q := LWp.op false hg hs h
theorem LWp.m (mv : Bool) (m : List (Root × List TV)) (d : Nat) (s : SV) (h : LWp P N ops rest ((mvs E m).put (some d) s) Q) (hs : stepOp P N mv E oo = some ((mvs E m).put (some d) s) := by rfl) (hg : guardOpen P ops E oo = some true := by rfl) : LWp P N ops (oo :: rest) E Q := LWp.op mv hg hs h
theorem LWp.s (m : List (Root × List TV)) (rt : Root) (cs : List TV) (h : LWp P N ops rest ((mvs E m).setRoot rt cs) Q) (hs : stepOp P N false E oo = some ((mvs E m).setRoot rt cs) := by rfl) (hg : guardOpen P ops E oo = some true := by rfl) : LWp P N ops (oo :: rest) E Q := LWp.op false hg hs h
theorem LWp.sb (m : List (Root × List TV)) (rt : Root) (cs : List TV) (h : LWp P N ops rest (((mvs E m).setRoot rt cs).bump rt) Q) (hs : stepOp P N false E oo = some (((mvs E m).setRoot rt cs).bump rt) := by rfl) (hg : guardOpen P ops E oo = some true := by rfl) : LWp P N ops (oo :: rest) E Q := LWp.op false hg hs h
theorem LWp.ex (n : Nat) (ts : List SV) (d : Nat) (s : SV) (h : LWp P N ops rest (({ E with slots := upd E.slots n (.tup ts) } : St).put (some d) s) Q) (hs : stepOp P N false E oo = some (({ E with slots := upd E.slots n (.tup ts) } : St).put (some d) s) := by rfl) (hg : guardOpen P ops E oo = some true := by rfl) : LWp P N ops (oo :: rest) E Q := LWp.op false hg hs h
theorem LWp.p {x : Option α} {k : α → Option β} (h : x.bind k = some r) (d : Nat) (f : α → SV) (hk : ∀ a, x = some a → k a = some r → LWp P N ops rest (E.put (some d) (f a)) Q) (hs : ∀ a, x = some a → stepOp P N false E oo = some (E.put (some d) (f a))) (hg : guardOpen P ops E oo = some true := by rfl) : LWp P N ops (oo :: rest) E Q := by
  obtain ⟨a, ha, h⟩ := Option.bind_eq_some_iff.1 h
  exact LWp.op false hg (hs a ha) (hk a ha h)
theorem LWp.sp {tx ty : Option β} {b : Bool} (h : (bif b then tx else ty) = some r) (t : Nat) (ht : tx = some r → LWp P N ops l (E.rs t true) Q) (hf : ty = some r → LWp P N ops l (E.rs t false) Q) (hc : E.slots t = B b := by rfl) : LWp P N ops l E Q := by
  cases b
  · rw [rs_eq hc] at hf; exact hf h
  · rw [rs_eq hc] at ht; exact ht h
theorem Wp.c {c : Operand} {x y : Code} {tx ty : Option β} {b : Bool} (h : (bif b then tx else ty) = some r) (ht : tx = some r → Wp P N x E Q) (hf : ty = some r → Wp P N y E Q) (hc : E.cell1 P 0 c = some (.bool b) := by rfl) : Wp P N (.cond c x y) E Q := by
  refine Wp.cond hc (fun hb => ?_) (fun hb => ?_)
  · subst hb; exact ht h
  · subst hb; exact hf h
theorem Wp.ct {c : Operand} {x y : Code} (ht : Wp P N x E Q) (hc : E.cell1 P 0 c = some (.bool true) := by rfl) : Wp P N (.cond c x y) E Q := Wp.cond hc (fun _ => ht) (fun h => by cases h)
theorem Wp.cf {c : Operand} {x y : Code} (hf : Wp P N y E Q) (hc : E.cell1 P 0 c = some (.bool false) := by rfl) : Wp P N (.cond c x y) E Q := Wp.cond hc (fun h => by cases h) (fun _ => hf)
def jQ {V : Type} (ls : List Nat) (bs : List Root) (H : V → St) (v : Option V) (Q : Exit → St → Prop) : Exit → St → Prop
  | .normal, E => ∃ a, v = some a ∧ nt ls bs E (H a)
  | e, E => Q e E
theorem nt_wp {c : Code} {E' : St} {ls : List Nat} {bs : List Root} (h : nt ls bs E E') (hw : Wp P N c E' Q) : Wp P N c E Q := Wp.norm ls bs E' h.1 h.2 hw
theorem Wp.j1 {V : Type} {c : Code} {x : Option V} {k : V → Option β} (h : x.bind k = some r) (ls : List Nat) (bs : List Root) (H : V → St)
    (h1 : ∀ a, x = some a → Wp P N c E (jQ ls bs H (some a) Q)) (h2 : ∀ a, k a = some r → ∀ E', nt ls bs E' (H a) → Q .normal E') : Wp P N c E Q := by
  obtain ⟨a, ha, h⟩ := Option.bind_eq_some_iff.1 h
  refine Wp.mono (h1 a ha) fun e E' hq => ?_
  cases e <;> try exact hq
  obtain ⟨a', h3, h4⟩ := hq
  injection h3 with h3
  subst h3
  exact h2 a h E' h4
theorem Wp.j2 {V W : Type} {c : Code} {x : Option (V ⊕ W)} {k : V ⊕ W → Option β} (h : x.bind k = some r) (ls : List Nat) (bs : List Root) (H : V → St)
    (h1 : ∀ a, x = some a → k a = some r → Wp P N c E (jQ ls bs H a.getLeft? Q)) (h2 : ∀ a, k (.inl a) = some r → ∀ E', nt ls bs E' (H a) → Q .normal E') : Wp P N c E Q := by
  obtain ⟨a, ha, h⟩ := Option.bind_eq_some_iff.1 h
  refine Wp.mono (h1 a ha h) fun e E' hq => ?_
  cases e <;> try exact hq
  obtain ⟨a', h3, h4⟩ := hq
  cases a with
  | inl a =>
    injection h3 with h3
    subst h3
    exact h2 a h E' h4
  | inr w => cases h3
def lQ {S V W : Type} (id : Nat) (ls : List Nat) (bs : List Root) (H : S → St) (ls2 : List Nat) (bs2 : List Root) (H2 : V → St) (o : S ⊕ (V ⊕ W)) (Q : Exit → St → Prop) : Exit → St → Prop
  | .normal, E => ∃ s, o = .inl s ∧ nt ls bs E (H s)
  | .exit i, E => if i = id then ∃ v, o = .inr (.inl v) ∧ nt ls2 bs2 E (H2 v) else Q (.exit i) E
  | e, E => Q e E
theorem rounds_runO {S A : Type} {c : Code} {body : S → Option (S ⊕ A)} {ls : List Nat} {bs : List Root} {H : S → St} {a : A} {Q' : Exit → St → Prop}
    (hb : ∀ s o, body s = some o → (∀ a', o = .inr a' → a' = a) → Wp P N c (H s) (fun e E => match e with | .normal => ∃ s, o = .inl s ∧ nt ls bs E (H s) | e => Q' e E)) :
    ∀ {n : Nat} {s : S} {E : St}, nt ls bs E (H s) → runO body n s = some a → Rounds P N c Q' n E
  | 0, s, E, _, h => by cases h
  | n + 1, s, E, hn, h => by
    simp only [runO] at h
    simp only [Rounds]
    refine nt_wp hn ?_
    split at h
    · cases h
    · rename_i s' hs
      refine Wp.mono (hb s _ hs (fun a' h => by cases h)) fun e E' hq => ?_
      cases e <;> try exact hq
      obtain ⟨s2, h2, h3⟩ := hq
      injection h2 with h2
      subst h2
      exact rounds_runO hb h3 h
    · rename_i a' hs
      injection h with h
      refine Wp.mono (hb s _ hs (fun a2 h2 => by injection h2 with h2; rw [← h2, h])) fun e E' hq => ?_
      cases e <;> try exact hq
      obtain ⟨s2, h2, h3⟩ := hq
      cases h2
theorem Wp.l2 {S V W : Type} {c : Code} {id : Nat} {body : S → Option (S ⊕ (V ⊕ W))} {s0 : S} {k : V ⊕ W → Option β} (h : (loopO body s0).bind k = some r) (ls : List Nat) (bs : List Root) (H : S → St) (ls2 : List Nat) (bs2 : List Root) (H2 : V → St)
    (h0 : nt ls bs E (H s0)) (hb : ∀ s o, body s = some o → (∀ w, o = .inr (.inr w) → k (.inr w) = some r) → Wp P N c (H s) (lQ id ls bs H ls2 bs2 H2 o Q)) (h2 : ∀ v, k (.inl v) = some r → ∀ E', nt ls2 bs2 E' (H2 v) → Q .normal E') :
    Wp P N (.block id (.loop c)) E Q := by
  obtain ⟨a, ha, h⟩ := Option.bind_eq_some_iff.1 h
  obtain ⟨n, hn⟩ := loopO_iff.1 ha
  refine Wp.block (Wp.loop n (rounds_runO (ls := ls) (bs := bs) (H := H) (a := a) (fun s o hs ho => ?_) h0 hn))
  refine Wp.mono (hb s o hs (fun w hw => by rw [ho _ hw]; exact h)) fun e E' hq => ?_
  cases e <;> try exact hq
  simp only [lQ] at hq
  simp only [blockQ]
  split
  · rename_i hid
    rw [if_pos hid] at hq
    obtain ⟨v, h3, h4⟩ := hq
    have h5 := ho _ h3
    subst h5
    exact h2 v h E' h4
  · rename_i hid
    rw [if_neg hid] at hq
    exact hq
def lQ1 {S V : Type} (id : Nat) (ls : List Nat) (bs : List Root) (H : S → St) (ls2 : List Nat) (bs2 : List Root) (H2 : V → St) (o : S ⊕ V) (Q : Exit → St → Prop) : Exit → St → Prop
  | .normal, E => ∃ s, o = .inl s ∧ nt ls bs E (H s)
  | .exit i, E => if i = id then ∃ v, o = .inr v ∧ nt ls2 bs2 E (H2 v) else Q (.exit i) E
  | e, E => Q e E
theorem Wp.l1 {S V : Type} {c : Code} {id : Nat} {body : S → Option (S ⊕ V)} {s0 : S} {k : V → Option β} (h : (loopO body s0).bind k = some r) (ls : List Nat) (bs : List Root) (H : S → St) (ls2 : List Nat) (bs2 : List Root) (H2 : V → St)
    (h0 : nt ls bs E (H s0)) (hb : ∀ s o, body s = some o → Wp P N c (H s) (lQ1 id ls bs H ls2 bs2 H2 o Q)) (h2 : ∀ v, k v = some r → ∀ E', nt ls2 bs2 E' (H2 v) → Q .normal E') :
    Wp P N (.block id (.loop c)) E Q := by
  obtain ⟨a, ha, h⟩ := Option.bind_eq_some_iff.1 h
  obtain ⟨n, hn⟩ := loopO_iff.1 ha
  refine Wp.block (Wp.loop n (rounds_runO (ls := ls) (bs := bs) (H := H) (a := a) (fun s o hs ho => ?_) h0 hn))
  refine Wp.mono (hb s o hs) fun e E' hq => ?_
  cases e <;> try exact hq
  simp only [lQ1] at hq
  simp only [blockQ]
  split
  · rename_i hid
    rw [if_pos hid] at hq
    obtain ⟨v, h3, h4⟩ := hq
    have h5 := ho _ h3
    subst h5
    exact h2 v h E' h4
  · rename_i hid
    rw [if_neg hid] at hq
    exact hq
end
end Go.TI
namespace Go.TI
open Go Go.RowKit
set_option linter.unusedSimpArgs false
set_option linter.unusedVariables false
def pk (o : Oper) : Bool := match o.op with
  | .nilCheck _ | .pick .. | .binOp .. | .unOp .. | .convert .. | .fieldAddr .. | .indexAddr .. | .load .. | .index .. | .slice .. => true
  | .call c => match c.callee with
    | .builtin .len | .builtin .min | .builtin .max => true
    | _ => false
  | _ => false
section
variable {P : Program} {N : Nat} {E : St} {o : Oper} {d : Nat} {s : SV}
theorem conv_none {src dst : TypeId} {x : Operand} (ho : o.op = .convert src dst x) (hp : pureOp P E o = some s) : effConv P E d src dst x = none := by
  unfold pureOp at hp
  simp only [ho] at hp
  unfold effConv
  split
  · rename_i e hd
    split
    · rename_i b hs hb
      simp only [hd, hs, hb] at hp
      cases hp
    · rfl
  · rfl
theorem st_pure (hp : pureOp P E o = some s) (hd : o.dst = some d := by rfl) (hN : Nat.blt d N = true := by rfl) (hk : pk o = true := by rfl) : stepOp P N false E o = some (E.put (some d) s) := by
  have hN' : d < N := by simpa [Nat.blt_eq] using hN
  unfold pk at hk
  unfold stepOp
  rw [hd]
  simp only [if_pos hN']
  split at hk <;> rename_i ho <;> try (cases hk; done)
  all_goals first | (simp only [ho, conv_none ho hp, hp, Option.map_some]; done) | simp only [ho, hp, Option.map_some]
  rename_i c
  split at hk <;> rename_i hc <;> try (cases hk; done)
  all_goals simp only [hc, Option.map_some]
theorem sl_pure (hp : pureOp P E o = some s) (hk : pk o = true := by rfl) : stillOp P E o = some s := by
  unfold pk at hk
  unfold stillOp
  split at hk <;> rename_i ho <;> try (cases hk; done)
  all_goals simp only [ho]; exact hp
section
variable {α : Type} {f : α → List TV} {sz : Nat} {l : List α} {n : Int} {x : α}
theorem p_ix (hf : ∀ x, (f x).length = sz) (r : Root) (q : List Nat) (j : Nat) (hx : gi l n = some x) {t e e' : TypeId} {a i : Operand} {own : Bool} {k : IntKind} (hp : E.place r q j = some (.sl own e' sz (encs f l)) := by rfl)
    (ho : o.op = .indexAddr t a i := by rfl) (ht : P.underlying t = some (.slice e) := by rfl) (hi : E.cell1 P 0 i = some (.int k n) := by rfl) (hr : E.ref a = some (r, q, j) := by rfl)
    (hsz : P.cellsOf e = sz := by rfl) (h0 : Nat.blt 0 sz = true := by rfl) : pureOp P E o = some (.one (.ptr r (E.ver r) (q ++ [j]) (n.toNat * sz + 0))) := by
  have h0' : 0 < sz := by simpa [Nat.blt_eq] using h0
  simp only [pureOp, ho, ht, hi, hr, hp]
  rw [if_pos ⟨hsz.symm, h0', (gi_some hx).1, gi_fit hf hx⟩]
  rfl
theorem p_fa (hf : ∀ x, (f x).length = sz) (r : Root) (q : List Nat) (k : Nat) (hx : gi l n = some x) {st : TypeId} {a : Operand} {fl : Nat} {fs : Array Field} {fd : Field} (hr : (E.root r).bind (fun cs => cont cs q) = some (encs f l) := by rfl)
    (ho : o.op = .fieldAddr st a fl := by rfl) (hs : P.underlying st = some (.struct fs) := by rfl) (hp : E.ptr? a = some (r, q, n.toNat * sz + k) := by rfl) (hfd : fs[fl]? = some fd := by rfl) (hc : Nat.beq (P.cellsOf fd.type) 0 = false := by rfl)
    {m : Nat} (hm : k + fd.offset = m := by rfl) (hk : Nat.blt (k + fd.offset) sz = true := by rfl) : pureOp P E o = some (.one (.ptr r (E.stamp r q) q (n.toNat * sz + m))) := by
  subst hm
  have hc' : P.cellsOf fd.type ≠ 0 := by intro h; rw [h] at hc; cases hc
  have hk' : k + fd.offset < sz := by simpa [Nat.blt_eq] using hk
  have hpl : (E.place r q (n.toNat * sz + k + fd.offset)).isSome = true := by
    obtain ⟨cs, h1, h2⟩ := Option.bind_eq_some_iff.1 hr
    simp only [St.place, h1, Option.bind_some, h2, Nat.add_assoc, gi_cell hf hx hk']
    rw [List.getElem?_eq_getElem (by rw [hf]; exact hk')]
    rfl
  simp only [pureOp, ho, hs, hp, hfd]
  rw [if_neg hc', if_pos hpl, Nat.add_assoc]
theorem p_lc (hf : ∀ x, (f x).length = sz) (r : Root) (q : List Nat) (k : Nat) (u : TV) (hx : gi l n = some x) {t : TypeId} {a : Operand} (hr : (E.root r).bind (fun cs => cont cs q) = some (encs f l) := by rfl)
    (ho : o.op = .load t a := by rfl) (hp : E.ptr? a = some (r, q, n.toNat * sz + k) := by rfl) (ha : aggT P t = false := by rfl) (h1 : P.cellsOf t = 1 := by rfl) (hu : (P.underlying t).isSome = true := by rfl) (hk : Nat.blt k sz = true := by rfl)
    (hj : (f x)[k]? = some u := by rfl) : pureOp P E o = some (.one (see E r q (n.toNat * sz + k) u)) := by
  have hk' : k < sz := by simpa [Nat.blt_eq] using hk
  have hfit := gi_fit hf hx
  rw [Nat.succ_mul] at hfit
  simp only [pureOp, ho, hp, hr, ha, h1]
  rw [if_pos (by omega), if_neg (by simp), if_pos ⟨trivial, hu⟩, gi_cell hf hx hk', hj]
  rfl
theorem p_le (hf : ∀ x, (f x).length = sz) (r : Root) (q : List Nat) (hx : gi l n = some x) {t : TypeId} {a : Operand} (hr : (E.root r).bind (fun cs => cont cs q) = some (encs f l) := by rfl)
    (ho : o.op = .load t a := by rfl) (hp : E.ptr? a = some (r, q, n.toNat * sz + 0) := by rfl) (ha : aggT P t = true := by rfl) (h1 : P.cellsOf t = sz := by rfl) : pureOp P E o = some (.agg (sees E r q (n.toNat * sz + 0) (f x))) := by
  rw [Nat.add_zero] at hp ⊢
  have hfit := gi_fit hf hx
  rw [Nat.succ_mul] at hfit
  simp only [pureOp, ho, hp, hr, ha, h1]
  rw [if_pos hfit, if_pos trivial, gi_row hf hx]
theorem p_ln (hf : ∀ x, (f x).length = sz) (l : List α) {t e e' : TypeId} {a : Operand} {own : Bool} {r : Root} {q : List Nat} {j : Nat} (ho : o.op = .call { callee := .builtin .len, args := #[a], argTypes := #[t] } := by rfl) (ht : P.underlying t = some (.slice e) := by rfl) (hr : E.ref a = some (r, q, j) := by rfl)
    (hp : E.place r q j = some (.sl own e' sz (encs f l)) := by rfl) (h0 : Nat.blt 0 sz = true := by rfl) : pureOp P E o = some (.one (.int .i64 (ln l))) := by
  have h0' : 0 < sz := by simpa [Nat.blt_eq] using h0
  have : (encs f l).length / sz = l.length := by rw [encs_len hf]; exact Nat.mul_div_cancel _ h0'
  simp only [pureOp, ho, builtinPure, ht, St.sliceCells, hr, hp]
  rw [if_pos h0', this]
  rfl
end
def sx (s : ByteArray) (i : Int) : Option Int := if 0 ≤ i ∧ i < s.size then some (pureOp.bt s i) else none
def sub (s : ByteArray) (l h : Int) : Option ByteArray := if 0 ≤ l ∧ l ≤ h ∧ h ≤ s.size then some (s.extract l.toNat h.toNat) else none
def cat (a b : ByteArray) : Option ByteArray := if ((a.size + b.size : Nat) : Int) > 9223372036854775807 then none else some (a ++ b)
def sln (s : ByteArray) : Int := (s.size : Nat)
def seq (a b : ByteArray) : Bool := a.toList == b.toList
theorem p_sx {s : ByteArray} {n b : Int} (h : sx s n = some b) {t : TypeId} {a i : Operand} {k : IntKind} (ho : o.op = .index t a i := by rfl) (ht : P.underlying t = some .string := by rfl) (ha : E.cell1 P t a = some (.str s) := by rfl) (hi : E.cell1 P 0 i = some (.int k n) := by rfl) :
    pureOp P E o = some (.one (.int .u8 b)) := by
  unfold sx at h
  split at h
  · rename_i hc
    injection h with h
    simp only [pureOp, ho, ht, ha, hi]
    rw [if_pos hc, h]
  · cases h
theorem p_sub {s u : ByteArray} {l h : Int} (hx : sub s l h = some u) {t : TypeId} {a : Operand} {lo hi : Option Operand} {k k' : IntKind} (ho : o.op = .slice t a lo hi none := by rfl) (ht : P.underlying t = some .string := by rfl) (ha : E.cell1 P t a = some (.str s) := by rfl)
    (hl : (match lo with | some o => E.cell1 P 0 o | none => some (.int .i64 0)) = some (.int k l) := by rfl) (hh : (match hi with | some o => E.cell1 P 0 o | none => some (.int .i64 s.size)) = some (.int k' h) := by rfl) :
    pureOp P E o = some (.one (.str u)) := by
  unfold sub at hx
  split at hx
  · rename_i hc
    injection hx with hx
    have fin : (if 0 ≤ l ∧ l ≤ h ∧ h ≤ (s.size : Int) then some (SV.one (.str (s.extract l.toNat h.toNat))) else none) = some (.one (.str u)) := by rw [if_pos hc, hx]
    cases lo with
    | none =>
      injection hl with hl
      injection hl with _ hl
      subst hl
      cases hi with
      | none =>
        injection hh with hh
        injection hh with _ hh
        subst hh
        simpa only [pureOp, ho, ht, ha] using fin
      | some y =>
        have hh' : E.cell1 P 0 y = some (.int k' h) := hh
        simpa only [pureOp, ho, ht, ha, hh'] using fin
    | some z =>
      have hl' : E.cell1 P 0 z = some (.int k l) := hl
      cases hi with
      | none =>
        injection hh with hh
        injection hh with _ hh
        subst hh
        simpa only [pureOp, ho, ht, ha, hl'] using fin
      | some y =>
        have hh' : E.cell1 P 0 y = some (.int k' h) := hh
        simpa only [pureOp, ho, ht, ha, hl', hh'] using fin
  · cases hx
theorem p_cat {a b u : ByteArray} (hx : cat a b = some u) {t t' : TypeId} {x y : Operand} (ho : o.op = .binOp .add t x y t' := by rfl) (ha : E.cell1 P t x = some (.str a) := by rfl) (hb : E.cell1 P t y = some (.str b) := by rfl) :
    pureOp P E o = some (.one (.str u)) := by
  unfold cat at hx
  split at hx
  · cases hx
  · rename_i hc
    injection hx with hx
    simp only [pureOp, ho, ha, hb, boolOk, if_true, binTV]
    rw [if_neg hc, hx]
    rfl
end
end Go.TI
namespace Go.TI
open Go Go.RowKit
set_option linter.unusedSimpArgs false
set_option linter.unusedVariables false
def plainRow (cs : List TV) : Bool := cs.all fun t => match t with
  | .int .. | .bool _ | .str _ | .sl false .. => true
  | _ => false
theorem sees_plain {E : St} {r : Root} {q : List Nat} : ∀ {cs : List TV} (c : Nat), plainRow cs = true → sees E r q c cs = cs
  | [], c, h => rfl
  | t :: ts, c, h => by
    simp only [plainRow, List.all_cons, Bool.and_eq_true] at h
    have ih := sees_plain (E := E) (r := r) (q := q) (c + 1) (show plainRow ts = true from h.2)
    simp only [sees, ih]
    cases t with
    | sl o e sz cells => cases o <;> first | rfl | (have := h.1; simp at this)
    | _ => rfl
theorem takeCells_plain {E : St} : ∀ {cs : List TV}, plainRow cs = true → takeCells E cs = some (cs, E)
  | [], h => rfl
  | t :: ts, h => by
    simp only [plainRow, List.all_cons, Bool.and_eq_true] at h
    have ih := takeCells_plain (E := E) (show plainRow ts = true from h.2)
    have h1 := h.1
    have hr : ∀ E1 E2 t, (∀ r v q j, t ≠ .view r v q j) → List.map (rst E1 E2 t) ts = ts := by
      intro E1 E2 t ht
      have : rst E1 E2 t = id := by
        funext u
        cases t <;> first | rfl | exact absurd rfl (ht _ _ _ _)
      rw [this, List.map_id]
    rw [takeCells_cons]
    cases t <;> simp only [takeCell] <;> first | (rw [hr _ _ _ (by intros; simp)]; simp only [ih]) | (simp at h1; done)
theorem plain_encs {α : Type} {f : α → List TV} (hf : ∀ x, plainRow (f x) = true) : ∀ l : List α, plainRow (encs f l) = true
  | [] => rfl
  | x :: l => by
    have := plain_encs hf l
    rw [encs_cons]
    unfold plainRow at *
    rw [List.all_append, hf, this]
    rfl
def ap {α : Type} (by_ : Nat) (l m : List α) : Option (List α) := if (l.length + m.length) * by_ ≤ 140737488355328 then some (l ++ m) else none
def mk {α : Type} (by_ : Nat) (z : α) (n : Int) : Option (List α) := if 0 ≤ n ∧ (by_ : Int) * n ≤ 281474976710656 ∧ n ≤ 9223372036854775807 then some (List.replicate n.toNat z) else none
section
variable {P : Program} {N : Nat} {E : St} {o : Oper} {d : Nat} {α β : Type} {f : α → List TV} {sz : Nat}
theorem ap_some {by_ : Nat} {l m u : List α} (h : ap by_ l m = some u) : u = l ++ m ∧ (l.length + m.length) * by_ ≤ 140737488355328 := by
  unfold ap at h
  split at h
  · injection h with h; exact ⟨h.symm, by assumption⟩
  · cases h
theorem s_ap0 (hf : ∀ x, (f x).length = sz) (ms : List (Root × List TV)) {by_ : Nat} {l m u : List α} (h : ap by_ l m = some u) {t e e1 e2 : TypeId} {s x : Operand} {sv : TV} {E1 : St} {r : Root} {q : List Nat} {j : Nat} {own : Bool} {cells2 : List TV} 
    (hc2 : cells2.length = m.length * sz) (ho : o.op = .call { callee := .builtin .append, args := #[s, x], argTypes := #[t, t] }) (hd : o.dst = some d) (hN : Nat.blt d N = true) (ht : P.underlying t = some (.slice e)) (hs : E.cell1 P t s = some sv)
    (h1 : takeCell E sv = some (.sl true e1 sz (encs f l), E1)) (hr : E1.ref x = some (r, q, j)) (hp : E1.place r q j = some (.sl own e2 sz cells2)) (hn : takeCells E1 (sees E1 r (q ++ [j]) 0 cells2) = some (encs f m, mvs E ms))
    (he : Nat.beq e1 e = true) (hsz : P.cellsOf e = sz) (h0 : Nat.blt 0 sz = true) (hz : (zeroTVs P e).isSome = true) (hb : P.bytesOf e = by_) (hb0 : Nat.blt 0 by_ = true) :
    stepOp P N false E o = some ((mvs E ms).put (some d) (.one (.sl true e sz (encs f u)))) := by
  obtain ⟨rfl, hby⟩ := ap_some h
  have hN' : d < N := by simpa [Nat.blt_eq] using hN
  have h0' : 0 < sz := by simpa [Nat.blt_eq] using h0
  have hb0' : 0 < by_ := by simpa [Nat.blt_eq] using hb0
  have he' : e1 = e := Nat.eq_of_beq_eq_true he
  have hl1 : (encs f l).length / sz = l.length := by rw [encs_len hf]; exact Nat.mul_div_cancel _ h0'
  have hl2 : cells2.length / sz = m.length := by rw [hc2]; exact Nat.mul_div_cancel _ h0'
  have hle : l.length + m.length ≤ (l.length + m.length) * by_ := Nat.le_mul_of_pos_right _ hb0'
  unfold stepOp
  rw [hd]
  simp only [if_pos hN', ho, if_true, effAppend, ht, hs, h1, hr, hp, hn]
  rw [if_pos ⟨he', hsz.symm, trivial, h0', hz, by rw [hl1, hl2]; omega, by rw [hl1, hl2, hb]; exact hby⟩, encs_append]
theorem s_apl (hf : ∀ x, (f x).length = sz) (hg : ∀ x, plainRow (f x) = true) (ms : List (Root × List TV)) (l : List α) {by_ : Nat} {m u : List α} (h : ap by_ l m = some u) {t e e1 e2 : TypeId} {s x : Operand} {sv : TV} {r : Root} {q : List Nat} {j : Nat} {own : Bool}
    (ho : o.op = .call { callee := .builtin .append, args := #[s, x], argTypes := #[t, t] } := by rfl) (hd : o.dst = some d := by rfl) (hN : Nat.blt d N = true := by rfl) (ht : P.underlying t = some (.slice e) := by rfl) (hs : E.cell1 P t s = some sv := by rfl)
    (h1 : takeCell E sv = some (.sl true e1 sz (encs f l), mvs E ms) := by rfl) (hr : (mvs E ms).ref x = some (r, q, j) := by rfl) (hp : (mvs E ms).place r q j = some (.sl own e2 sz (encs f m)) := by rfl)
    (he : Nat.beq e1 e = true := by rfl) (hsz : P.cellsOf e = sz := by rfl) (h0 : Nat.blt 0 sz = true := by rfl) (hz : (zeroTVs P e).isSome = true := by rfl) (hb : P.bytesOf e = by_ := by rfl) (hb0 : Nat.blt 0 by_ = true := by rfl) :
    stepOp P N false E o = some ((mvs E ms).put (some d) (.one (.sl true e sz (encs f u)))) :=
  s_ap0 hf ms h (encs_len hf m) ho hd hN ht hs h1 hr hp (by rw [sees_plain _ (plain_encs hg m), takeCells_plain (plain_encs hg m)]) he hsz h0 hz hb hb0
theorem replicate_encs {z : α} {zs : List TV} (h : f z = zs) : ∀ n, (List.replicate n zs).flatten = encs f (List.replicate n z)
  | 0 => rfl
  | n + 1 => by rw [List.replicate_succ, List.flatten_cons, replicate_encs h n, List.replicate_succ, encs_cons, h]
theorem s_mk (z : α) {by_ : Nat} {n : Int} {u : List α} (h : mk by_ z n = some u) {t e : TypeId} {l c : Operand} {kl kc : IntKind} {zs : List TV} (ho : o.op = .makeSlice t l c := by rfl) (hd : o.dst = some d := by rfl) (hN : Nat.blt d N = true := by rfl) (ht : P.underlying t = some (.slice e) := by rfl)
    (hl : E.cell1 P 0 l = some (.int kl n) := by rfl) (hc : E.cell1 P 0 c = some (.int kc n) := by rfl) (hz : zeroTVs P e = some zs := by rfl) (hfz : f z = zs := by rfl) (hb : P.bytesOf e = by_ := by rfl) (hsz : P.cellsOf e = sz := by rfl) :
    stepOp P N false E o = some (E.put (some d) (.one (.sl true e sz (encs f u)))) := by
  have hN' : d < N := by simpa [Nat.blt_eq] using hN
  unfold mk at h
  split at h
  · rename_i hcnd
    injection h with h
    subst h
    unfold stepOp
    rw [hd]
    simp only [if_pos hN', ho, effMake, ht, hl, hc, hz]
    rw [if_pos ⟨trivial, hcnd.1, by rw [hb]; exact hcnd.2.1, hcnd.2.2⟩, replicate_encs hfz, hsz]
  · cases h
structure At (cs : List TV) (q : List Nat) (row : List TV) (g : List TV → List TV) (cs' : List TV) : Prop where
  c : cont cs q = some row
  o : ownP cs q = true
  u : updC cs q g = cs'
theorem At.one {cs row : List TV} {c : Nat} {e s : Nat} {g : List TV → List TV} {row' cs' : List TV} (h : g row = row') (hc : cs[c]? = some (.sl true e s row) := by rfl) (hs : cs.set c (.sl true e s row') = cs' := by rfl) : At cs [c] row g cs' :=
  ⟨by simp [cont, hc], by simp [ownP, hc], by simp [updC, hc, h, hs]⟩
theorem s_st (ms : List (Root × List TV)) {r : Root} {q : List Nat} {j : Nat} {cs row cs' xs : List TV} (A : At cs q row (fun row => setRow row j xs) cs') (hfit : j + xs.length ≤ row.length) {t : TypeId} {ad x : Operand} {s : SV}
    (ho : o.op = .store t ad x := by rfl) (hd : o.dst = none := by rfl) (hv : E.val P t x = some s := by rfl) (ht : takeSV E s = some (xs, mvs E ms) := by rfl) (hp : (mvs E ms).ptr? ad = some (r, q, j) := by rfl) (hr : (mvs E ms).root r = some cs := by rfl)
    (hl : xs.length = P.cellsOf t := by rfl) (h0 : Nat.blt 0 xs.length = true := by rfl) (hq : q.isEmpty = false := by rfl) :
    stepOp P N false E o = some (((mvs E ms).setRoot r cs').bump r) := by
  have h0' : 0 < xs.length := by simpa [Nat.blt_eq] using h0
  simp only [stepOp, hd, ho, effStore, hv, ht, hp, hr, A.c]
  rw [if_pos ⟨A.o, hl, h0', hfit⟩, if_neg (by rw [hq]; simp), A.u]
theorem fit_gi (hf : ∀ x, (f x).length = sz) {l : List α} {n : Int} {x : α} (hx : gi l n = some x) {k m : Nat} (hk : Nat.ble (k + m) sz = true) : n.toNat * sz + k + m ≤ (encs f l).length := by
  have := gi_fit hf hx
  rw [Nat.succ_mul] at this
  have h1 : k + m ≤ sz := by simpa [Nat.ble_eq] using hk
  omega
end
section
variable {P : Program} {N : Nat} {E : St} {ops : Array Oper} {oo : Oper} {rest l : List Oper} {Q : Exit → St → Prop} {α β : Type} {r : β}
theorem LWp.pm {x : Option α} {k : α → Option β} (h : x.bind k = some r) (m : List (Root × List TV)) (d : Nat) (f : α → SV) (hk : ∀ a, x = some a → k a = some r → LWp P N ops rest ((mvs E m).put (some d) (f a)) Q) (hs : ∀ a, x = some a → stepOp P N false E oo = some ((mvs E m).put (some d) (f a))) (hg : guardOpen P ops E oo = some true := by rfl) : LWp P N ops (oo :: rest) E Q := by
  obtain ⟨a, ha, h⟩ := Option.bind_eq_some_iff.1 h
  exact LWp.op false hg (hs a ha) (hk a ha h)
theorem LWp.cl {x : Option α} {k : α → Option β} (h : x.bind k = some r) (d : Nat) (enc : α → SV) {f : FuncId} {args : Array Operand} {tys : Array TypeId} {fn : Func} {l : List AV} {n : Nat} {c : Bool}
    (ho : oo.op = .call { callee := .value (.func f), args := args, argTypes := tys }) (hsh : shArgs P E ((tys.toList.zip args.toList).map fun (t, x) => (false, t, x)) (List.replicate args.size none) = some (l, c))
    (hgv : ∀ v, x = some v → Gives P f l (enc v) (List.replicate n .gone)) (hc : c = true ∨ ∀ v, svShared (enc v) = false) (hk : ∀ v, x = some v → k v = some r → LWp P N ops rest (E.put (some d) (enc v)) Q)
    (hf : P.funcs[f]? = some fn := by rfl) (hn : (fn.name == "runtime.NumGoroutine") = false := by rfl) (hb : fn.body.isNone = false := by rfl) (hd : oo.dst = some d := by rfl) (hN : Nat.blt d N = true := by rfl) (hz : tys.size = args.size := by rfl) (hg : guardOpen P ops E oo = some true := by rfl) : LWp P N ops (oo :: rest) E Q := by
  obtain ⟨v, hv, h⟩ := Option.bind_eq_some_iff.1 h
  refine LWp.callS ho hf ?_ hb hg hd ?_ hz (hgv v hv) hsh ?_ (hk v hv h)
  · intro e; rw [e] at hn; simp at hn
  · simpa [Nat.blt_eq] using hN
  · rcases hc with hc | hc
    · exact .inl hc
    · exact .inr (hc v)
end
end Go.TI
namespace Go.TI
open Go Go.RowKit
set_option linter.unusedSimpArgs false
set_option linter.unusedVariables false
def SV.comps : SV → List SV
  | .tup ss => ss
  | _ => []
def St.ex (E : St) (n ix : Nat) : St := { E with slots := upd E.slots n (.tup ((E.slots n).comps.set ix (.one .junk))) }
section
variable {P : Program} {N : Nat} {E : St} {ops : Array Oper} {oo : Oper} {rest l : List Oper} {Q : Exit → St → Prop} {K : St → Prop} {α β : Type} {r : β}
theorem LWp.e (n ix d : Nat) (s : SV) (h : LWp P N ops rest ((E.ex n ix).put (some d) s) Q) (hs : stepOp P N false E oo = some ((E.ex n ix).put (some d) s) := by rfl) (hg : guardOpen P ops E oo = some true := by rfl) : LWp P N ops (oo :: rest) E Q := LWp.op false hg hs h
theorem LWp.mt (n d : Nat) (s : SV) (h : LWp P N ops rest (({ E with slots := upd E.slots n (.one .junk) } : St).put (some d) s) Q) (hs : stepOp P N true E oo = some (({ E with slots := upd E.slots n (.one .junk) } : St).put (some d) s) := by rfl) (hg : guardOpen P ops E oo = some true := by rfl) : LWp P N ops (oo :: rest) E Q := LWp.op true hg hs h
theorem SWp.o (d : Nat) (s : SV) (h : SWp P N ops rest (E.put (some d) s) K) (hs : stillOp P E oo = some s := by rfl) (hg : guardOpen P ops E oo = some true := by rfl) (hd : oo.dst = some d := by rfl) (hN : Nat.blt d N = true := by rfl) : SWp P N ops (oo :: rest) E K :=
  SWp.op s hg hd (by simpa [Nat.blt_eq] using hN) hs h
theorem SWp.sh (d : Nat) (h : SWp P N ops rest (E.put (some d) (.tup [])) K) (hd : oo.dst = some d := by rfl) (hN : Nat.blt d N = true := by rfl) (hg : guardOpen P ops E oo = some false := by rfl) : SWp P N ops (oo :: rest) E K := SWp.shut hd (by simpa [Nat.blt_eq] using hN) hg h
theorem SWp.p {x : Option α} {k : α → Option β} (h : x.bind k = some r) (d : Nat) (f : α → SV) (hk : ∀ a, x = some a → k a = some r → SWp P N ops rest (E.put (some d) (f a)) K) (hs : ∀ a, x = some a → stillOp P E oo = some (f a)) (hg : guardOpen P ops E oo = some true := by rfl) (hd : oo.dst = some d := by rfl) (hN : Nat.blt d N = true := by rfl) : SWp P N ops (oo :: rest) E K := by
  obtain ⟨a, ha, h⟩ := Option.bind_eq_some_iff.1 h
  exact SWp.op _ hg hd (by simpa [Nat.blt_eq] using hN) (hs a ha) (hk a ha h)
theorem SWp.sp {tx ty : Option β} {b : Bool} (h : (bif b then tx else ty) = some r) (t : Nat) (ht : tx = some r → SWp P N ops l (E.rs t true) K) (hf : ty = some r → SWp P N ops l (E.rs t false) K) (hc : E.slots t = B b := by rfl) : SWp P N ops l E K := by
  cases b
  · rw [rs_eq hc] at hf; exact hf h
  · rw [rs_eq hc] at ht; exact ht h
theorem cg {f : FuncId} {l l' : List AV} {res : SV} {fin : List AV} (e : l = l') (h : Gives P f l' res fin) : Gives P f l res fin := e ▸ h
end
theorem shares_encs {α : Type} {f g : α → List TV} (h : ∀ x, shares (f x) = g x) : ∀ l : List α, shares (encs f l) = encs g l
  | [] => rfl
  | x :: l => by
    have hap : ∀ a b : List TV, shares (a ++ b) = shares a ++ shares b := by
      intro a b
      induction a with
      | nil => rfl
      | cons t ts ih => simp only [List.cons_append, shares, ih]
    rw [encs_cons, encs_cons, hap, h, shares_encs h l]
theorem ns_encs {α : Type} {f : α → List TV} (h : ∀ x, hasShareds (f x) = false) : ∀ l : List α, hasShareds (encs f l) = false
  | [] => rfl
  | x :: l => by
    have hap : ∀ a b : List TV, hasShareds (a ++ b) = (hasShareds a || hasShareds b) := by
      intro a b
      induction a with
      | nil => rfl
      | cons t ts ih => simp only [List.cons_append, hasShareds, ih, Bool.or_assoc]
    rw [encs_cons, hap, h, ns_encs h l]
    rfl
theorem gi_cellb {α : Type} {f : α → List TV} {sz : Nat} (hf : ∀ x, (f x).length = sz) {l : List α} {i : Int} {x : α} (h : gi l i = some x) {k : Nat} (hk : Nat.blt k sz = true := by rfl) : (encs f l)[i.toNat * sz + k]? = (f x)[k]? := gi_cell hf h (by simpa [Nat.blt_eq] using hk)
def ad (a b : Int) : Int := IntKind.i64.wrap (a + b)
def sb (a b : Int) : Int := IntKind.i64.wrap (a - b)
def ml (a b : Int) : Int := IntKind.i64.wrap (a * b)
def qu (a b : Int) : Int := IntKind.i64.wrap (a.tdiv b)
def xr (a b : Int) : Int := IntKind.u32.wrap (BitVec.ofInt 32 a ^^^ BitVec.ofInt 32 b).toNat
def an (a b : Int) : Int := IntKind.u32.wrap (BitVec.ofInt 32 a &&& BitVec.ofInt 32 b).toNat
def bs (l : List UInt8) : ByteArray := ⟨l.toArray⟩
end Go.TI
namespace Go.TI
open Go Go.RowKit
set_option linter.unusedSimpArgs false
set_option linter.unusedVariables false
section
variable {P : Program} {md : Region.Mode} {ops : Array Oper} {Q : Exit → Act → World → Prop} {T : Nat → Bool}
variable (P md ops Q T) in
def wpAnyK : Nat → Array Bool → Act → World → Prop
  | 0, listed, a, w => Region.ready md ops listed = [] ∧ Q .normal a w
  | fuel + 1, listed, a, w =>
    (Region.ready md ops listed = [] → Q .normal a w) ∧
    ∀ i ∈ Region.ready md ops listed, wpOp P ops Q i (fun a' w' => (T i = false → KeptW w w') ∧ wpAnyK fuel (listed.setIfInBounds i true) a' w') a w
theorem wpAny_of_K : ∀ (fuel : Nat) (listed : Array Bool) (a : Act) (w : World), wpAnyK P md ops Q T fuel listed a w → wpAny P md ops Q fuel listed a w
  | 0, _, _, _, h => h
  | fuel + 1, _, _, _, h => ⟨h.1, fun i hi => wpOp_mono (fun a' w' h' => wpAny_of_K fuel _ a' w' h'.2) (h.2 i hi)⟩
variable (md ops) in
def waits (i : Nat) : Nat → Nat → Bool
  | 0, _ => false
  | n + 1, j => match ops[j]? with
    | some o => o.after.any fun e => Region.binds md e && (e.on == i || waits i n e.on)
    | none => false
variable (md ops) in
def Closed (listed : Array Bool) : Prop := ∀ k o, ops[k]? = some o → listed.getD k false = true → ∀ e ∈ o.after, Region.binds md e = true → listed.getD e.on false = true
theorem waits_listed {i : Nat} {listed : Array Bool} (hc : Closed md ops listed) : ∀ {n j : Nat} {o : Oper}, ops[j]? = some o → (∀ e ∈ o.after, Region.binds md e = true → listed.getD e.on false = true) → waits md ops i n j = true → listed.getD i false = true
  | 0, j, o, _, _, h => by cases h
  | n + 1, j, o, ho, ha, h => by
    simp only [waits, ho] at h
    obtain ⟨e, he, hb⟩ := Array.any_eq_true'.1 h
    simp only [Bool.and_eq_true, Bool.or_eq_true, beq_iff_eq] at hb
    have h1 := ha e he hb.1
    rcases hb.2 with h2 | h2
    · rw [← h2]; exact h1
    · cases hk : ops[e.on]? with
      | none =>
        cases n with
        | zero => cases h2
        | succ n => simp [waits, hk] at h2
      | some ok => exact waits_listed hc hk (hc e.on ok hk h1) h2
theorem closed_set {listed : Array Bool} {j : Nat} (hc : Closed md ops listed) (hr : j ∈ Region.ready md ops listed) : Closed md ops (listed.setIfInBounds j true) := by
  intro k o hk hl e he hb
  have hmono : ∀ m, listed.getD m false = true → (listed.setIfInBounds j true).getD m false = true := fun m hm => getD_set_true hm
  by_cases hkj : k = j
  · subst hkj
    obtain ⟨_, o', ho', hall⟩ := mem_ready.1 hr
    rw [hk] at ho'
    injection ho' with ho'
    subst ho'
    exact hmono _ (hall e he hb)
  · rw [getD_set_ne false (Ne.symm hkj)] at hl
    exact hmono _ (hc k o hk hl e he hb)
theorem wpAnyK_first {i : Nat} {oi : Oper} {v : Value} {n : Nat} (hi : ops[i]? = some oi) (hsel : ∀ (j : Nat) (o : Oper) cs b, ops[j]? = some o → o.op ≠ .select cs b)
    (hQ : ∀ c a w, Q (.panic c) (a.put oi.dst v) w → Q (.panic c) a w) (hTi : T i = false) (hT : ∀ j, T j = true → waits md ops i n j = true) :
    ∀ (fuel : Nat) (listed : Array Bool) (a : Act) (w : World), Closed md ops listed →
      (∀ j oj, ops[j]? = some oj → j ≠ i → listed.getD j true = false → (∀ e ∈ oj.after, Region.binds md e = true → e.on ≠ i) → oi.apart ops oj = true) →
      i ∈ Region.ready md ops listed → YieldsIf P ops (KeptW w) oi v a →
      wpAnyK P md ops Q T fuel (listed.setIfInBounds i true) (a.put oi.dst v) w → wpAnyK P md ops Q T (fuel + 1) listed a w := by
  intro fuel
  induction fuel with
  | zero =>
    intro listed a w _ _ hr hy H
    refine ⟨fun h => (by rw [h] at hr; cases hr), fun j hj => ?_⟩
    by_cases hji : j = i
    · subst hji; exact hy.wpOp hi KeptW.refl ⟨fun _ => KeptW.refl, H⟩
    · have := ready_mono hj hji
      rw [H.1] at this
      cases this
  | succ fuel ih =>
    intro listed a w hcl hfree hr hy H
    refine ⟨fun h => (by rw [h] at hr; cases hr), fun j hj => ?_⟩
    by_cases hji : j = i
    · subst hji; exact hy.wpOp hi KeptW.refl ⟨fun _ => KeptW.refl, H⟩
    · have h1 := H.2 j (ready_mono hj hji)
      obtain ⟨hjun, oj, hoj, hall⟩ := mem_ready.1 hj
      have hiun : listed.getD i false = false := by
        have h0 := (mem_ready.1 hr).1
        rcases Nat.lt_or_ge i listed.size with h' | h'
        · simpa [h'] using h0
        · simp [Array.getElem?_eq_none h']
      have hTj : T j = false := by
        cases hTj : T j with
        | false => rfl
        | true =>
          have := waits_listed hcl hoj hall (hT j hTj)
          rw [hiun] at this
          cases this
      have hnot : ∀ e ∈ oj.after, Region.binds md e = true → e.on ≠ i := fun e he hb heq => by
        have h1 := hall e he hb
        rw [heq, hiun] at h1
        cases h1
      have h2 := wpOp_putIf hoj (hfree j oj hoj hji hjun hnot) (fun cs b => hsel i oi cs b hi) (fun cs b => hsel j oj cs b hoj) hQ hy h1
      have hfree' : ∀ k ok, ops[k]? = some ok → k ≠ i → (listed.setIfInBounds j true).getD k true = false →
          (∀ e ∈ ok.after, Region.binds md e = true → e.on ≠ i) → oi.apart ops ok = true := fun k ok hk hki hun hno => by
        refine hfree k ok hk hki ?_ hno
        by_cases hjk : j = k
        · subst hjk; exact hjun
        · rw [getD_set_ne true hjk] at hun; exact hun
      refine wpOp_mono (fun a' w' h3 => ⟨h3.2.1, ih (listed.setIfInBounds j true) a' w' (closed_set hcl hj) hfree' (ready_mono hr (Ne.symm hji)) ?_ ?_⟩) h2
      · exact h3.1.imp (fun ⟨p1, p2⟩ => ⟨p1, fun w2 hw2 => p2 w2 ((h3.2.1 hTj).trans hw2)⟩) id
      · rw [Array.setIfInBounds_comm _ _ hji]
        exact h3.2.2
end
def KWp (P : Program) (N : Nat) (ops : Array Oper) (ts : List Nat) (fuel : Nat) (listed : Array Bool) (E : St) (Q : Exit → St → Prop) : Prop :=
  (∀ c E, Q (.panic c) E → False) → Closed .any ops listed → ∀ (w0 : Base) (FA UA : List Nat) (w : World) (a : Act) (blk : Root → Nat) (FS US : Root → List Nat), Rel w0 FA UA N w a E blk FS US → FS .hand = [] → US .hand = [] → wpAnyK P .any ops (Post w0 FA UA N Q) (fun i => ts.contains i) fuel listed a w
def KOp (P : Program) (N : Nat) (ops : Array Oper) (ts : List Nat) (i : Nat) (E : St) (K : St → Prop) (Q : Exit → St → Prop) : Prop :=
  ∀ (w0 : Base) (FA UA : List Nat) (w : World) (a : Act) (blk : Root → Nat) (FS US : Root → List Nat), Rel w0 FA UA N w a E blk FS US → FS .hand = [] → US .hand = [] →
    wpOp P ops (Post w0 FA UA N Q) i (fun a' w' => (ts.contains i = false → KeptW w w') ∧ ∃ E' blk' FS' US', K E' ∧ Rel w0 FA UA N w' a' E' blk' FS' US' ∧ FS' .hand = [] ∧ US' .hand = []) a w
section
variable {N : Nat} {E : St} {P : Program} {ops : Array Oper} {Q : Exit → St → Prop} {K : St → Prop} {ts : List Nat} {fuel : Nat} {listed : Array Bool} {α β : Type} {r : β}
theorem KOp.op (i : Nat) {o : Oper} (mv : Bool) {E' : St} (h : K E') (hs : stepOp P N mv E o = some E') (ho : ops[i]? = some o) (hg : guardOpen P ops E o = some true) (hk : (kp o || ts.contains i) = true) : KOp P N ops ts i E K Q := by
  intro w0 FA UA w a blk FS US hr hF hU
  unfold wpOp
  simp only [ho, guard_rel hr hg, if_true]
  refine .inl ((stepOp_done hr hF hU hs).wp fun w' v blk' FS' US' k1 k2 k3 k4 => ⟨fun ht => k4 (by rw [ht, Bool.or_false] at hk; exact hk), _, _, _, _, h, k1, k2, k3⟩)
theorem KOp.call (i : Nat) {o : Oper} {f : FuncId} {args : Array Operand} {tys : Array TypeId} (hi : ops[i]? = some o) (ho : o.op = .call { callee := .value (.func f), args := args, argTypes := tys }) (hf : goFn P f)
    (hg : guardOpen P ops E o = some true) (hN : ∀ d, o.dst = some d → d < N) (l : List (Bool × TypeId × Operand)) (hl : l.map (fun x => x.2.2) = args.toList) (hsh : (l.all (fun x => !x.1) || ts.contains i) = true) {as : List AV} {res : SV} {n : Nat} (hgv : Gives P f as res (List.replicate n .gone)) {E' : St} (he : effCall P E o.dst l as res E')
    (h : K E') : KOp P N ops ts i E K Q := by
  intro w0 FA UA w a blk FS US hr hF hU
  unfold wpOp
  simp only [hi, guard_rel hr hg, if_true]
  exact .inl (call_step hr hF hU ho hf hN hl hgv he fun w' v blk' FS' US' k1 k2 k3 k4 => ⟨fun ht => k4 (by rw [ht, Bool.or_false] at hsh; exact hsh), _, _, _, _, h, k1, k2, k3⟩)
theorem KWp.done (h : Q .normal E) (hr : Region.ready .any ops listed = [] := by decide +kernel) : KWp P N ops ts fuel listed E Q :=
  fun _ _ w0 FA UA w a blk FS US k1 k2 k3 => by
    have hq : Post w0 FA UA N Q .normal a w := ⟨E, blk, FS, US, h, k1, k2, k3⟩
    cases fuel with
    | zero => exact ⟨hr, hq⟩
    | succ n => exact ⟨fun _ => hq, by rw [hr]; simp⟩
theorem KWp.all (rs : List Nat) (h : ∀ i ∈ rs, KOp P N ops ts i E (fun E' => KWp P N ops ts fuel (listed.setIfInBounds i true) E' Q) Q) (hr : Region.ready .any ops listed = rs) (hne : rs ≠ []) : KWp P N ops ts (fuel + 1) listed E Q :=
  fun hQ hc w0 FA UA w a blk FS US k1 k2 k3 => ⟨fun h0 => absurd (hr ▸ h0) hne, fun i hi => by
    have hi' : i ∈ rs := hr ▸ hi
    exact wpOp_mono (fun a' w' ⟨m0, E', blk', FS', US', m1, m2, m3, m4⟩ => ⟨m0, m1 hQ (closed_set hc hi) _ _ _ _ _ _ _ _ m2 m3 m4⟩) (h i hi' _ _ _ _ _ _ _ _ k1 k2 k3)⟩
variable (ops ts) in
def firstOk (n i : Nat) (listed : Array Bool) : Bool := Region.noSelect ops && Region.free .any ops listed i && (Region.ready .any ops listed).contains i && !ts.contains i && ts.all fun j => waits .any ops i n j
theorem first_of {n i : Nat} {listed : Array Bool} (h : firstOk ops ts n i listed = true) : Region.noSelect ops = true ∧ Region.free .any ops listed i = true ∧ i ∈ Region.ready .any ops listed ∧ ts.contains i = false ∧ ∀ j, ts.contains j = true → waits .any ops i n j = true := by
  simp only [firstOk, Bool.and_eq_true, Bool.not_eq_true', List.all_eq_true] at h
  obtain ⟨⟨⟨⟨h1, h2⟩, h3⟩, h4⟩, h5⟩ := h
  exact ⟨h1, h2, by simpa using h3, h4, fun j hj => h5 j (by simpa using hj)⟩
theorem KWp.take (n i : Nat) {o : Oper} (d : Nat) (s : SV) (h : KWp P N ops ts fuel (listed.setIfInBounds i true) (E.put (some d) s) Q) (hs : stillOp P E o = some s)
    (ho : ops[i]? = some o) (hok : firstOk ops ts n i listed = true) (hg : guardOpen P ops E o = some true) (hd : o.dst = some d) (hN : Nat.blt d N = true) : KWp P N ops ts (fuel + 1) listed E Q := by
  intro hQ hc w0 FA UA w a blk FS US k1 k2 k3
  obtain ⟨e1, e2, e3, e4, e5⟩ := first_of hok
  obtain ⟨v, U, h1, h2, h3⟩ := stillOp_ok k1 hs
  refine wpAnyK_first (v := v) (n := n) ho (Region.noSelect_spec e1) (fun c a w hx => ?_) e4 e5 fuel listed a w hc (Region.free_spec ho e2) e3 (.inl ⟨guard_rel k1 hg, fun w2 hw2 => ?_⟩) ?_
  · obtain ⟨E', blk', FS', US', m1, _⟩ := hx
    exact (hQ c E' m1).elim
  · exact h1 w2 (fun r hr => ⟨fun b hb => hw2.2 b (k1.inF r b hb).2, fun b hb => hw2.2 b (k1.inU r b hb).2⟩)
  · rw [hd]
    refine h hQ (closed_set hc e3) _ _ _ _ _ _ _ _ (k1.put (by simpa [Nat.blt_eq] using hN) h2 (fits_copy k1 h3 _)) ?_ ?_
    · rw [upd_ne (by simp), k2]
    · rw [upd_ne (by simp), k3]
theorem KWp.takeShut (n i : Nat) {o : Oper} (d : Nat) (h : KWp P N ops ts fuel (listed.setIfInBounds i true) (E.put (some d) (.tup [])) Q)
    (ho : ops[i]? = some o) (hok : firstOk ops ts n i listed = true) (hg : guardOpen P ops E o = some false) (hd : o.dst = some d) (hN : Nat.blt d N = true) : KWp P N ops ts (fuel + 1) listed E Q := by
  intro hQ hc w0 FA UA w a blk FS US k1 k2 k3
  obtain ⟨e1, e2, e3, e4, e5⟩ := first_of hok
  refine wpAnyK_first (v := undef) (n := n) ho (Region.noSelect_spec e1) (fun c a w hx => ?_) e4 e5 fuel listed a w hc (Region.free_spec ho e2) e3 (.inr ⟨guard_rel k1 hg, rfl⟩) ?_
  · obtain ⟨E', blk', FS', US', m1, _⟩ := hx
    exact (hQ c E' m1).elim
  · rw [hd]
    refine h hQ (closed_set hc e3) _ _ _ _ _ _ _ _ (k1.put (F := []) (U := []) (by simpa [Nat.blt_eq] using hN) (by simp only [svX]; exact ⟨[], rfl, by simp [tupX]⟩) Fits.none) ?_ ?_
    · rw [upd_ne (by simp), k2]
    · rw [upd_ne (by simp), k3]
theorem Wp.regionK {id : Nat} (n : Nat) (ts : List Nat) (hm : P.follows .mixedOrders = true) (hQ : ∀ c E, Q (.panic c) E → False) (h : KWp P N ops ts n (Array.replicate n false) E Q) (hn : ops.size = n := by rfl) : Wp P N (.region id ops true) E Q := by
  subst hn
  intro w0 FA UA w a blk FS US k1 k2 k3
  refine wp_region_any hm (wpAny_of_K (T := fun i => ts.contains i) _ _ _ _ ?_)
  obtain ⟨FS', US', m1, m2, m3⟩ := k1.drop (w' := { w with drawn := w.drawn + 1 }) (Nat.le_refl _) rfl rfl rfl (fun _ _ _ => rfl)
  refine h hQ (fun k o hk hl => ?_) _ _ _ _ _ _ _ _ m1 m2 m3
  exfalso
  rw [Array.getD_eq_getD_getElem?] at hl
  rcases Nat.lt_or_ge k ops.size with h' | h'
  · simp [h'] at hl
  · simp [h'] at hl
/-! Along a term that may fail. -/
theorem KWp.o (n i d : Nat) (s : SV) {o : Oper} (h : KWp P N ops ts fuel (listed.setIfInBounds i true) (E.put (some d) s) Q) (ho : ops[i]? = some o := by rfl) (hs : stillOp P E o = some s := by rfl)
    (hok : firstOk ops ts n i listed = true := by decide +kernel) (hg : guardOpen P ops E o = some true := by rfl) (hd : o.dst = some d := by rfl) (hN : Nat.blt d N = true := by rfl) : KWp P N ops ts (fuel + 1) listed E Q := KWp.take n i d s h hs ho hok hg hd hN
theorem KWp.sh (n i d : Nat) {o : Oper} (h : KWp P N ops ts fuel (listed.setIfInBounds i true) (E.put (some d) (.tup [])) Q) (ho : ops[i]? = some o := by rfl)
    (hok : firstOk ops ts n i listed = true := by decide +kernel) (hg : guardOpen P ops E o = some false := by rfl) (hd : o.dst = some d := by rfl) (hN : Nat.blt d N = true := by rfl) : KWp P N ops ts (fuel + 1) listed E Q := KWp.takeShut n i d h ho hok hg hd hN
theorem KWp.p {x : Option α} {k : α → Option β} (h : x.bind k = some r) (n i d : Nat) (f : α → SV) {o : Oper} (hk : ∀ a, x = some a → k a = some r → KWp P N ops ts fuel (listed.setIfInBounds i true) (E.put (some d) (f a)) Q) (ho : ops[i]? = some o) (hs : ∀ a, x = some a → stillOp P E o = some (f a))
    (hok : firstOk ops ts n i listed = true := by decide +kernel) (hg : guardOpen P ops E o = some true := by rfl) (hd : o.dst = some d := by rfl) (hN : Nat.blt d N = true := by rfl) : KWp P N ops ts (fuel + 1) listed E Q := by
  obtain ⟨a, ha, h⟩ := Option.bind_eq_some_iff.1 h
  exact KWp.take n i d _ (hk a ha h) (hs a ha) ho hok hg hd hN
theorem KWp.sp {tx ty : Option β} {b : Bool} (h : (bif b then tx else ty) = some r) (t : Nat) (ht : tx = some r → KWp P N ops ts fuel listed (E.rs t true) Q) (hf : ty = some r → KWp P N ops ts fuel listed (E.rs t false) Q) (hc : E.slots t = B b := by rfl) : KWp P N ops ts fuel listed E Q := by
  cases b
  · rw [rs_eq hc] at hf; exact hf h
  · rw [rs_eq hc] at ht; exact ht h
theorem KWp.w1 (i : Nat) (h : KOp P N ops ts i E (fun E' => KWp P N ops ts fuel (listed.setIfInBounds i true) E' Q) Q) (hr : Region.ready .any ops listed = [i] := by decide +kernel) : KWp P N ops ts (fuel + 1) listed E Q :=
  KWp.all [i] (fun j hj => by have : j = i := by simpa using hj
                              subst this; exact h) hr (by simp)
theorem KWp.w2 (i j : Nat) (h : KOp P N ops ts i E (fun E' => KWp P N ops ts fuel (listed.setIfInBounds i true) E' Q) Q) (h2 : KOp P N ops ts j E (fun E' => KWp P N ops ts fuel (listed.setIfInBounds j true) E' Q) Q) (hr : Region.ready .any ops listed = [i, j] := by decide +kernel) : KWp P N ops ts (fuel + 1) listed E Q :=
  KWp.all [i, j] (fun m hm => by
    simp only [List.mem_cons, List.not_mem_nil, or_false] at hm
    rcases hm with rfl | rfl
    · exact h
    · exact h2) hr (by simp)
theorem KWp.w3 (i j l : Nat) (h : KOp P N ops ts i E (fun E' => KWp P N ops ts fuel (listed.setIfInBounds i true) E' Q) Q) (h2 : KOp P N ops ts j E (fun E' => KWp P N ops ts fuel (listed.setIfInBounds j true) E' Q) Q) (h3 : KOp P N ops ts l E (fun E' => KWp P N ops ts fuel (listed.setIfInBounds l true) E' Q) Q) (hr : Region.ready .any ops listed = [i, j, l] := by decide +kernel) : KWp P N ops ts (fuel + 1) listed E Q :=
  KWp.all [i, j, l] (fun m hm => by
    simp only [List.mem_cons, List.not_mem_nil, or_false] at hm
    rcases hm with rfl | rfl | rfl
    · exact h
    · exact h2
    · exact h3) hr (by simp)
theorem KOp.o (i d : Nat) (s : SV) {o : Oper} (h : K (E.put (some d) s)) (ho : ops[i]? = some o := by rfl) (hs : stepOp P N false E o = some (E.put (some d) s) := by rfl) (hg : guardOpen P ops E o = some true := by rfl) (hk : (kp o || ts.contains i) = true := by rfl) : KOp P N ops ts i E K Q := KOp.op i false h hs ho hg hk
theorem KOp.b (i : Nat) (m : List (Root × List TV)) (d : Nat) (xs : List TV) {o : Oper} (h : K ((mvs E m).newBox d xs)) (ho : ops[i]? = some o := by rfl) (hs : stepOp P N false E o = some ((mvs E m).newBox d xs) := by rfl) (hg : guardOpen P ops E o = some true := by rfl) (hk : (kp o || ts.contains i) = true := by rfl) : KOp P N ops ts i E K Q := KOp.op i false h hs ho hg hk
theorem KOp.m (i : Nat) (mv : Bool) (m : List (Root × List TV)) (d : Nat) (s : SV) {o : Oper} (h : K ((mvs E m).put (some d) s)) (ho : ops[i]? = some o := by rfl) (hs : stepOp P N mv E o = some ((mvs E m).put (some d) s) := by rfl) (hg : guardOpen P ops E o = some true := by rfl) (hk : (kp o || ts.contains i) = true := by rfl) : KOp P N ops ts i E K Q := KOp.op i mv h hs ho hg hk
theorem KOp.s (i : Nat) (m : List (Root × List TV)) (rt : Root) (cs : List TV) {o : Oper} (h : K ((mvs E m).setRoot rt cs)) (ho : ops[i]? = some o := by rfl) (hs : stepOp P N false E o = some ((mvs E m).setRoot rt cs) := by rfl) (hg : guardOpen P ops E o = some true := by rfl) (hk : (kp o || ts.contains i) = true := by rfl) : KOp P N ops ts i E K Q := KOp.op i false h hs ho hg hk
theorem KOp.sb (i : Nat) (m : List (Root × List TV)) (rt : Root) (cs : List TV) {o : Oper} (h : K (((mvs E m).setRoot rt cs).bump rt)) (ho : ops[i]? = some o := by rfl) (hs : stepOp P N false E o = some (((mvs E m).setRoot rt cs).bump rt) := by rfl) (hg : guardOpen P ops E o = some true := by rfl) (hk : (kp o || ts.contains i) = true := by rfl) : KOp P N ops ts i E K Q := KOp.op i false h hs ho hg hk
theorem KOp.e (i n ix d : Nat) (s : SV) {o : Oper} (h : K ((E.ex n ix).put (some d) s)) (ho : ops[i]? = some o := by rfl) (hs : stepOp P N false E o = some ((E.ex n ix).put (some d) s) := by rfl) (hg : guardOpen P ops E o = some true := by rfl) (hk : (kp o || ts.contains i) = true := by rfl) : KOp P N ops ts i E K Q := KOp.op i false h hs ho hg hk
theorem KOp.mt (i n d : Nat) (s : SV) {o : Oper} (h : K (({ E with slots := upd E.slots n (.one .junk) } : St).put (some d) s)) (ho : ops[i]? = some o := by rfl) (hs : stepOp P N true E o = some (({ E with slots := upd E.slots n (.one .junk) } : St).put (some d) s) := by rfl) (hg : guardOpen P ops E o = some true := by rfl) (hk : (kp o || ts.contains i) = true := by rfl) : KOp P N ops ts i E K Q := KOp.op i true h hs ho hg hk
theorem KOp.pm {x : Option α} {k : α → Option β} (h : x.bind k = some r) (i : Nat) (m : List (Root × List TV)) (d : Nat) (f : α → SV) {o : Oper} (hk : ∀ a, x = some a → k a = some r → K ((mvs E m).put (some d) (f a))) (ho : ops[i]? = some o) (hs : ∀ a, x = some a → stepOp P N false E o = some ((mvs E m).put (some d) (f a))) (hg : guardOpen P ops E o = some true := by rfl) (hkp : (kp o || ts.contains i) = true := by rfl) : KOp P N ops ts i E K Q := by
  obtain ⟨a, ha, h⟩ := Option.bind_eq_some_iff.1 h
  exact KOp.op i false (hk a ha h) (hs a ha) ho hg hkp
theorem KOp.p {x : Option α} {k : α → Option β} (h : x.bind k = some r) (i : Nat) (d : Nat) (f : α → SV) {o : Oper} (hk : ∀ a, x = some a → k a = some r → K (E.put (some d) (f a))) (ho : ops[i]? = some o) (hs : ∀ a, x = some a → stepOp P N false E o = some (E.put (some d) (f a))) (hg : guardOpen P ops E o = some true := by rfl) (hkp : (kp o || ts.contains i) = true := by rfl) : KOp P N ops ts i E K Q := by
  obtain ⟨a, ha, h⟩ := Option.bind_eq_some_iff.1 h
  exact KOp.op i false (hk a ha h) (hs a ha) ho hg hkp
theorem KOp.cl {x : Option α} {k : α → Option β} (h : x.bind k = some r) (i d : Nat) (enc : α → SV) {oo : Oper} {f : FuncId} {args : Array Operand} {tys : Array TypeId} {fn : Func} {l : List AV} {n : Nat} {c : Bool}
    (hi : ops[i]? = some oo) (ho : oo.op = .call { callee := .value (.func f), args := args, argTypes := tys }) (hsh : shArgs P E ((tys.toList.zip args.toList).map fun (t, x) => (false, t, x)) (List.replicate args.size none) = some (l, c))
    (hgv : ∀ v, x = some v → Gives P f l (enc v) (List.replicate n .gone)) (hc : c = true ∨ ∀ v, svShared (enc v) = false) (hk : ∀ v, x = some v → k v = some r → K (E.put (some d) (enc v)))
    (hf : P.funcs[f]? = some fn := by rfl) (hn : (fn.name == "runtime.NumGoroutine") = false := by rfl) (hb : fn.body.isNone = false := by rfl) (hd : oo.dst = some d := by rfl) (hN : Nat.blt d N = true := by rfl) (hz : tys.size = args.size := by rfl) (hg : guardOpen P ops E oo = some true := by rfl) : KOp P N ops ts i E K Q := by
  obtain ⟨v, hv, h⟩ := Option.bind_eq_some_iff.1 h
  have hmv : ∀ (l : List (TypeId × Operand)), mvArgs P E (l.map fun (t, x) => (false, t, x)) = some (List.replicate l.length none, E) := by
    intro l
    induction l with
    | nil => rfl
    | cons x l ih =>
      obtain ⟨t, x⟩ := x
      simp only [List.map_cons, mvArgs, ih, List.length_cons, List.replicate_succ]
  have hlen : (tys.toList.zip args.toList).length = args.size := by simp [hz]
  have hc' : c = true ∨ svShared (enc v) = false := hc.imp id (fun h => h v)
  have hN' : d < N := by simpa [Nat.blt_eq] using hN
  refine KOp.call i hi ho ⟨fn, hf, by intro e; rw [e] at hn; simp at hn, hb⟩ hg (fun d' hd' => by rw [hd] at hd'; injection hd' with hd'; subst hd'; exact hN') ((tys.toList.zip args.toList).map fun (t, x) => (false, t, x)) ?_ ?_ (hgv v hv) ⟨_, E, c, hmv _, by rw [hlen]; exact hsh, hc', by rw [hd]⟩ (hk v hv h)
  · rw [List.map_map]
    have : ((fun x : Bool × TypeId × Operand => x.2.2) ∘ fun (x : TypeId × Operand) => (false, x.1, x.2)) = Prod.snd := rfl
    exact (congrArg (fun g => List.map g _) this).trans (List.map_snd_zip (by simp [hz]))
  · rw [Bool.or_eq_true]
    exact .inl (List.all_eq_true.2 fun x hx => by
      obtain ⟨y, _, rfl⟩ := List.mem_map.1 hx
      rfl)
end
def oI (n : Int) : Prop := -9223372036854775808 ≤ n ∧ n ≤ 9223372036854775807
def oB (b : Bool) : Prop := True
def oS (s : ByteArray) : Prop := s.size ≤ 9223372036854775807
def ol {α : Type} (o : α → Prop) (l : List α) : Prop := l.length ≤ 9223372036854775807 ∧ ∀ x ∈ l, o x
end Go.TI
