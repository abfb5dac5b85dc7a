/- An interpreter of loaded Go code on trees, for every program: functions that turn what stands beside their frame, through function values. No condition; no program is in sight. -/
import Derived.Test.YtcjepealfaimfaaGreatPOTID
import Derived.Lib.ReflectliteSwap
import Derived.Deep.Upon
namespace Go.TI
open Go Go.RowKit
set_option linter.unusedSimpArgs false
set_option linter.unusedVariables false
structure Beside (w w' : World) (B : List Nat) : Prop where
  os : w'.os = w.os
  tape : w'.tape = w.tape
  output : w'.output = w.output
  size : w.heap.size ≤ w'.heap.size
  keep : ∀ b, b < w.heap.size → b ∉ B → w'.heap[b]? = w.heap[b]?
section
variable {w0 : Base} {FA UA : List Nat} {N : Nat} {w : World} {a : Act} {E : St} {blk : Root → Nat} {FS US : Root → List Nat} {P : Program}
theorem Rel.beside (h : Rel w0 FA UA N w a E blk FS US) {w' : World} {A' : Amb} (hb : Beside w w' w0.B) (hB : A'.B = E.amb.B) (hI : A'.I w') : Rel w0 FA UA N w' a { E with amb := A' } blk FS US := by
  have hF : ∀ r, ∀ b ∈ FS r, w'.heap[b]? = w.heap[b]? := fun r b hx => hb.keep b (h.inF r b hx).2 (fun e => by
    obtain ⟨h1, h2, h3⟩ := h.ambF b e
    rcases (h.inF r b hx).1 with h4 | h4
    · exact h2 h4
    · omega)
  have hU : ∀ r, ∀ b ∈ US r, w'.heap[b]? = w.heap[b]? := fun r b hx => hb.keep b (h.inU r b hx).2 (fun e => by
    obtain ⟨h1, h2, h3⟩ := h.ambF b e
    rcases (h.inU r b hx).1 with h4 | h4 | h4
    · exact h3 h4
    · exact h2 h4
    · omega)
  have hst : ∀ s, Steady w w' a a E { E with amb := A' } blk blk s := fun s =>
    steady_other h rfl rfl (by cases s <;> rfl) (fun _ _ => rfl) (fun _ => rfl) (hF s) (hU s)
  have hr : ∀ r, rootOk w' a { E with amb := A' } blk r (FS r) (US r) := fun r =>
    rootOk_step hst (h.root r) (fun n _ => ⟨rfl, rfl⟩) (fun _ => ⟨rfl, rfl⟩) (hF r) (hU r)
  constructor
  · exact fun n => hr (.slot n)
  · intro r hm
    cases r with
    | slot n => cases hm
    | hand => cases hm
    | box n => exact hr (.box n)
    | ext n => exact hr (.ext n)
  · exact h.nohand
  · exact h.nodup
  · exact h.dis
  · exact h.disU
  · exact fun r b hx => ⟨(h.inF r b hx).1, Nat.lt_of_lt_of_le (h.inF r b hx).2 hb.size⟩
  · exact fun r b hx => ⟨(h.inU r b hx).1, Nat.lt_of_lt_of_le (h.inU r b hx).2 hb.size⟩
  · exact h.disA
  · exact hb.os.trans h.os
  · exact hb.tape.trans h.tape
  · exact hb.output.trans h.output
  · exact Nat.le_trans h.size hb.size
  · exact fun b h1 h2 h3 => (hb.keep b (Nat.lt_of_lt_of_le h1 h.size) h3).trans (h.keep b h1 h2 h3)
  · exact h.len
  · exact h.nodef
  · exact h.xblk
  · rw [hB]; exact h.ambB
  · exact hI
  · exact h.frz
  · exact h.ambF
end
def GivesA (P : Program) (f : FuncId) (A : Amb) (as : List AV) (A' : Amb) : Prop :=
  ∀ (w : World) (vs : List Value), argsR w as vs [] [] → (∀ b ∈ A.B, b < w.heap.size) → A.I w → Calls P f vs.toArray w fun e w' => e = .returned (.tuple #[]) ∧ Beside w w' A.B ∧ A'.I w'
theorem gives_amb {P : Program} {f : FuncId} {fn : Func} {c : Code} {as : List AV} {A A' : Amb} (hf : P.funcs[f]? = some fn) (hb : fn.body = some c) (hr : fn.results = #[])
    (h : Wp P fn.ntmps c (St.init as A) fun e E => (e = .normal ∨ e = .ret) ∧ E.amb = A') : GivesA P f A as A' := by
  intro w vs ha hB hA
  obtain ⟨blk, FS, US, hrel, hF, hU⟩ := Rel.init (N := fn.ntmps) ha List.nodup_nil (by simp) (by simp) (A := A) hA (fun b hb => ⟨hB b hb, by simp, by simp⟩)
  refine calls_of_wp hf hb (wp_mono (h _ _ _ _ _ _ _ _ hrel hF hU) ?_)
  rintro e a w' ⟨E, blk', FS', US', ⟨he, rfl⟩, h2, h3, h4⟩
  have hres : (results fn a.tmps).run P w' = .ok (.tuple #[]) w' := by
    rw [results_eq (P := P), hr]
    simp
  have hpost : a.defers = [] ∧ ∃ v, (results fn a.tmps).run P w' = .ok v w' ∧ Ending.returned v = .returned (.tuple #[]) ∧ Beside w w' A.B ∧ E.amb.I w' :=
    ⟨h2.nodef, _, hres, rfl, ⟨h2.os, h2.tape, h2.output, h2.size, fun b h5 h6 => h2.keep b h5 (by simp) h6⟩, h2.ambI⟩
  rcases he with rfl | rfl
  · exact hpost
  · exact hpost
section
variable {N : Nat} {E : St} {P : Program} {ops : Array Oper} {oo : Oper} {rest : List Oper} {Q : Exit → St → Prop} {α β γ : Type} {rr : β}
theorem step_beside {w0 : Base} {FA UA : List Nat} {w w' : World} {a : Act} {blk : Root → Nat} {FS US : Root → List Nat} (h : Rel w0 FA UA N w a E blk FS US) (hF : FS .hand = []) (hU : US .hand = []) {A' : Amb} {d : Nat} (hd : d < N) {s : SV} {v : Value}
    (hb : Beside w w' w0.B) (hB : A'.B = E.amb.B) (hI : A'.I w') (hs : svR w' s v [] []) :
    ∃ FS' US', Rel w0 FA UA N w' (a.put (some d) v) (({ E with amb := A' } : St).put (some d) s) blk FS' US' ∧ FS' .hand = [] ∧ US' .hand = [] := by
  have k := h.beside hb hB hI
  exact k.land (w' := w') (F := []) (U := []) hd (svX_of_svR hs) List.nodup_nil (by simp) (by simp) (Nat.le_refl _) rfl rfl rfl (fun _ _ _ => rfl)
theorem LWp.ca {x : Option α} {k : α → Option β} (h : x.bind k = some rr) (d : Nat) (Am : α → Amb) {A : Amb} {f : FuncId} {args : Array Operand} {tys : Array TypeId} {fn : Func} {l : List AV}
    (ho : oo.op = .call { callee := .value (.func f), args := args, argTypes := tys }) (hA : E.amb = A) (hB : ∀ v, (Am v).B = A.B) (hsh : shArgs P E ((tys.toList.zip args.toList).map fun (t, x) => (false, t, x)) (List.replicate args.size none) = some (l, true)) (hns : ∀ w vs F U, argsR w l vs F U → F = [] ∧ U = [])
    (hgv : ∀ v, x = some v → GivesA P f A l (Am v)) (hk : ∀ v, x = some v → k v = some rr → LWp P N ops rest (({ E with amb := Am v } : St).put (some d) (.tup [])) Q)
    (hf : P.funcs[f]? = some fn := by rfl) (hn : (fn.name == "runtime.NumGoroutine") = false := by rfl) (hb : fn.body.isNone = false := by rfl) (hd : oo.dst = some d := by rfl) (hN : Nat.blt d N = true := by rfl) (hz : tys.size = args.size := by rfl) (hg : guardOpen P ops E oo = some true := by rfl) : LWp P N ops (oo :: rest) E Q := by
  obtain ⟨v, hv, h⟩ := Option.bind_eq_some_iff.1 h
  have hN' : d < N := by simpa [Nat.blt_eq] using hN
  intro w0 FA UA w a blk FS US hr hF hU
  simp only [wpList, guard_rel hr hg, if_true]
  refine .inl ?_
  have hlen : ((tys.toList.zip args.toList).map fun (t, x) => (false, t, x)).length = args.size := by simp [hz]
  obtain ⟨U', k5, k6⟩ := shArgs_rel hr (mvR_none (l := (tys.toList.zip args.toList).map fun (t, x) => (false, t, x))) (by rw [hlen]; exact hsh)
  have hvs : ((tys.toList.zip args.toList).map fun (t, x) => (false, t, x)).map (fun x => a.eval x.2.2) = (args.map a.eval).toList := by
    rw [Array.toList_map, List.map_map]
    have : ((fun x : Bool × TypeId × Operand => a.eval x.2.2) ∘ fun (x : TypeId × Operand) => (false, x.1, x.2)) = a.eval ∘ Prod.snd := rfl
    refine (congrArg (fun g => List.map g (tys.toList.zip args.toList)) this).trans ?_
    rw [← List.map_map, List.map_snd_zip (by simp [hz])]
  rw [hvs] at k5
  obtain ⟨_, rfl⟩ := hns _ _ _ _ k5
  have hAB : w0.B = A.B := hr.ambB.trans (by rw [hA])
  have hcall := hgv v hv w _ k5 (fun b hb => by
    rw [← hAB] at hb
    exact Nat.lt_of_lt_of_le (hr.ambF b hb).1 hr.size) (by rw [← hA]; exact hr.ambI)
  unfold Oper.wp
  rw [run_call_fn ho ⟨fn, hf, by intro e; rw [e] at hn; simp at hn, hb⟩]
  simp only [Oper.upon]
  rw [Array.toArray_toList] at hcall
  refine Calls.mono hcall ?_
  rintro e w' ⟨rfl, hbe, hI⟩
  obtain ⟨FS', US', q1, q2, q3⟩ := step_beside (s := .tup []) (v := .tuple #[]) hr hF hU hN' (by rw [hAB]; exact hbe) (by rw [hB, hA]) hI ⟨[], rfl, rfl, rfl, rfl⟩
  rw [hd]
  exact hk v hv h _ _ _ _ _ _ _ _ q1 q2 q3
def LessOk (P : Program) (Am : List γ → Amb) (lt : γ → γ → Bool) (g : FuncId) (cap : Array Value) : Prop :=
  (∀ (args : Array Value) (w : World), (callFunc g args).run P w = .ok (.enter g args) w) ∧ ∀ (l : List γ) (i j : Int) (x y : γ), gi l i = some x → gi l j = some y → ∀ w, (Am l).I w → (∀ b ∈ (Am l).B, b < w.heap.size) → Calls P g (#[.int .i64 i, .int .i64 j] ++ cap) w fun e w' => e = .returned (.bool (lt x y)) ∧ Beside w w' (Am l).B ∧ (Am l).I w'
def SwapOk (P : Program) (Am : List γ → Amb) (sf : FuncId) (cap : Array Value) : Prop :=
  ∀ (l : List γ) (i j : Int) (x y : γ), gi l i = some x → gi l j = some y → ∀ w, (Am l).I w → (∀ b ∈ (Am l).B, b < w.heap.size) → ∃ w', (callFunc sf (#[.int .i64 i, .int .i64 j] ++ cap)).run P w = .ok (.value (.tuple #[])) w' ∧ Beside w w' (Am l).B ∧ (Am (si (si l i y) j x)).I w'
theorem run_call_val {a : Act} {w : World} {o : Oper} {t : Nat} {args : Array Operand} {tys : Array TypeId} {g : FuncId} {cap : Array Value} (ho : o.op = .call { callee := .value (.tmp t), args := args, argTypes := tys }) (hv : a.eval (.tmp t) = .func (.func g) #[] cap) :
    (execOp a.eval o).run P w = (callFunc g (args.map a.eval ++ cap)).run P w := by
  simp [execOp, ho, resolve, hv, Deferred.ofValue, invoke]
theorem fn_val {w0 : Base} {FA UA : List Nat} {w : World} {a : Act} {blk : Root → Nat} {FS US : Root → List Nat} (h : Rel w0 FA UA N w a E blk FS US) {t : Nat} {f : Fn} {ta cap : Array Value} (hs : E.slots t = .one (.fn f ta cap)) : a.eval (.tmp t) = .func f ta cap := by
  have := h.slot t
  rw [hs] at this
  simp only [svX, cellX, rep] at this
  exact this.1.1
theorem LWp.ls {Am : List γ → Amb} {lt : γ → γ → Bool} {g : FuncId} {cap : Array Value} (hless : LessOk P Am lt g cap) {l : List γ} {x y : γ} {i j : Int} (hx : gi l i = some x) (hy : gi l j = some y) (d : Nat) {t : Nat} {o1 o2 : Operand} {tys : Array TypeId}
    (hk : LWp P N ops rest (E.put (some d) (.one (.bool (lt x y)))) Q) (hA : E.amb = Am l := by rfl) (ho : oo.op = .call { callee := .value (.tmp t), args := #[o1, o2], argTypes := tys } := by rfl) (hs : E.slots t = .one (.fn (.func g) #[] cap) := by rfl) (h1 : E.cell1 P 0 o1 = some (.int .i64 i) := by rfl) (h2 : E.cell1 P 0 o2 = some (.int .i64 j) := by rfl)
    (hd : oo.dst = some d := by rfl) (hN : Nat.blt d N = true := by rfl) (hg : guardOpen P ops E oo = some true := by rfl) : LWp P N ops (oo :: rest) E Q := by
  have hN' : d < N := by simpa [Nat.blt_eq] using hN
  intro w0 FA UA w a blk FS US hr hF hU
  simp only [wpList, guard_rel hr hg, if_true]
  refine .inl ?_
  have hAB : w0.B = (Am l).B := hr.ambB.trans (by rw [hA])
  have hlt : ∀ b ∈ (Am l).B, b < w.heap.size := fun b hb => by
    rw [← hAB] at hb
    exact Nat.lt_of_lt_of_le (hr.ambF b hb).1 hr.size
  have hI : (Am l).I w := by rw [← hA]; exact hr.ambI
  have hcall := hless.2 l i j x y hx hy w hI hlt
  unfold Oper.wp
  have e1 := cell1_int hr h1
  have e2 := cell1_int hr h2
  have hrun : (execOp a.eval oo).run P w = .ok (.enter g (#[.int .i64 i, .int .i64 j] ++ cap)) w := by
    rw [run_call_val ho (fn_val hr hs)]
    rw [hless.1]
    simp [e1, e2]
  rw [hrun]
  simp only [Oper.upon]
  refine Calls.mono hcall ?_
  rintro e w' ⟨rfl, hbe, hI'⟩
  obtain ⟨FS', US', q1, q2, q3⟩ := step_beside (A' := E.amb) (s := .one (.bool (lt x y))) (v := .bool (lt x y)) hr hF hU hN' (by rw [hAB]; exact hbe) rfl (by
    rw [hA]
    exact hI') ⟨⟨rfl, rfl, rfl⟩, rfl⟩
  rw [hd]
  exact hk _ _ _ _ _ _ _ _ q1 q2 q3
theorem LWp.sw {Am : List γ → Amb} {sf : FuncId} {cap : Array Value} (hswap : SwapOk P Am sf cap) (hB : ∀ l l', (Am l).B = (Am l').B) {l : List γ} {x y : γ} {i j : Int} (hx : gi l i = some x) (hy : gi l j = some y) (d : Nat) {t : Nat} {o1 o2 : Operand} {tys : Array TypeId}
    (hk : LWp P N ops rest (({ E with amb := Am (si (si l i y) j x) } : St).put (some d) (.tup [])) Q) (hA : E.amb = Am l := by rfl) (ho : oo.op = .call { callee := .value (.tmp t), args := #[o1, o2], argTypes := tys } := by rfl) (hs : E.slots t = .one (.fn (.func sf) #[] cap) := by rfl) (h1 : E.cell1 P 0 o1 = some (.int .i64 i) := by rfl) (h2 : E.cell1 P 0 o2 = some (.int .i64 j) := by rfl)
    (hd : oo.dst = some d := by rfl) (hN : Nat.blt d N = true := by rfl) (hg : guardOpen P ops E oo = some true := by rfl) : LWp P N ops (oo :: rest) E Q := by
  have hN' : d < N := by simpa [Nat.blt_eq] using hN
  intro w0 FA UA w a blk FS US hr hF hU
  simp only [wpList, guard_rel hr hg, if_true]
  refine .inl ?_
  have hAB : w0.B = (Am l).B := hr.ambB.trans (by rw [hA])
  have hlt : ∀ b ∈ (Am l).B, b < w.heap.size := fun b hb => by
    rw [← hAB] at hb
    exact Nat.lt_of_lt_of_le (hr.ambF b hb).1 hr.size
  have hI : (Am l).I w := by rw [← hA]; exact hr.ambI
  obtain ⟨w', hrun0, hbe, hI'⟩ := hswap l i j x y hx hy w hI hlt
  unfold Oper.wp
  have e1 := cell1_int hr h1
  have e2 := cell1_int hr h2
  have hrun : (execOp a.eval oo).run P w = .ok (.value (.tuple #[])) w' := by
    rw [run_call_val ho (fn_val hr hs)]
    simpa [e1, e2] using hrun0
  rw [hrun]
  rw [Oper.upon_value]
  obtain ⟨FS', US', q1, q2, q3⟩ := step_beside (s := .tup []) (v := .tuple #[]) hr hF hU hN' (by rw [hAB]; exact hbe) (by rw [hA]; exact hB _ _) hI' ⟨[], rfl, rfl, rfl, rfl⟩
  rw [hd]
  exact hk _ _ _ _ _ _ _ _ q1 q2 q3
def gi2 {γ : Type} (l : List γ) (i j : Int) : Option (γ × γ) := (gi l i).bind fun x => (gi l j).bind fun y => some (x, y)
theorem LWp.lsh {Am : List γ → Amb} {lt : γ → γ → Bool} {g : FuncId} {cap : Array Value} (hless : LessOk P Am lt g cap) {l : List γ} {i j : Int} {k : γ × γ → Option β} (h : (gi2 l i j).bind k = some rr) (d : Nat) {t : Nat} {o1 o2 : Operand} {tys : Array TypeId}
    (hk : ∀ v, k v = some rr → LWp P N ops rest (E.put (some d) (.one (.bool (lt v.1 v.2)))) Q) (hA : E.amb = Am l := by rfl) (ho : oo.op = .call { callee := .value (.tmp t), args := #[o1, o2], argTypes := tys } := by rfl) (hs : E.slots t = .one (.fn (.func g) #[] cap) := by rfl) (h1 : E.cell1 P 0 o1 = some (.int .i64 i) := by rfl) (h2 : E.cell1 P 0 o2 = some (.int .i64 j) := by rfl)
    (hd : oo.dst = some d := by rfl) (hN : Nat.blt d N = true := by rfl) (hg : guardOpen P ops E oo = some true := by rfl) : LWp P N ops (oo :: rest) E Q := by
  obtain ⟨v, hv, h⟩ := Option.bind_eq_some_iff.1 h
  obtain ⟨x, hx, hv⟩ := Option.bind_eq_some_iff.1 hv
  obtain ⟨y, hy, hv⟩ := Option.bind_eq_some_iff.1 hv
  injection hv with hv
  subst hv
  exact LWp.ls hless hx hy d (hk _ h) hA ho hs h1 h2 hd hN hg
def swp {γ : Type} (l : List γ) (i j : Int) : Option (List γ) := (gi l i).bind fun x => (gi l j).bind fun y => some (si (si l i y) j x)
theorem LWp.swh {Am : List γ → Amb} {sf : FuncId} {cap : Array Value} (hswap : SwapOk P Am sf cap) (hB : ∀ l l', (Am l).B = (Am l').B) {l : List γ} {i j : Int} {k : List γ → Option β} (h : ((swp l i j).bind k) = some rr) (d : Nat) {t : Nat} {o1 o2 : Operand} {tys : Array TypeId}
    (hk : ∀ l', k l' = some rr → LWp P N ops rest (({ E with amb := Am l' } : St).put (some d) (.tup [])) Q) (hA : E.amb = Am l := by rfl) (ho : oo.op = .call { callee := .value (.tmp t), args := #[o1, o2], argTypes := tys } := by rfl) (hs : E.slots t = .one (.fn (.func sf) #[] cap) := by rfl) (h1 : E.cell1 P 0 o1 = some (.int .i64 i) := by rfl) (h2 : E.cell1 P 0 o2 = some (.int .i64 j) := by rfl)
    (hd : oo.dst = some d := by rfl) (hN : Nat.blt d N = true := by rfl) (hg : guardOpen P ops E oo = some true := by rfl) : LWp P N ops (oo :: rest) E Q := by
  obtain ⟨l', hl', h⟩ := Option.bind_eq_some_iff.1 h
  obtain ⟨x, hx, hl'⟩ := Option.bind_eq_some_iff.1 hl'
  obtain ⟨y, hy, hl'⟩ := Option.bind_eq_some_iff.1 hl'
  injection hl' with hl'
  subst hl'
  exact LWp.sw hswap hB hx hy d (hk _ h) hA ho hs h1 h2 hd hN hg
def mkStA (ls : List (Nat × SV)) (bs : List (Root × List TV)) (A : Amb) : St := { mkSt ls bs with amb := A }
end
def TV.flat : TV → Bool
  | .int .. | .bool _ | .str _ | .fn .. => true
  | _ => false
def avFlat : AV → Bool
  | .sv (.one t) => t.flat
  | .sv (.agg cs) => cs.all TV.flat
  | _ => false
theorem rep_flat {w : World} {t : TV} {v : Value} {F U : List Nat} (h : rep w t v F U) (ht : t.flat = true) : F = [] ∧ U = [] := by
  cases t <;> first | (cases ht; done) | (simp only [rep] at h; exact h.2)
theorem reps_flat {w : World} : ∀ {ts : List TV} {vs : List Value} {F U : List Nat}, reps w ts vs F U → ts.all TV.flat = true → F = [] ∧ U = []
  | [], vs, F, U, h, _ => by simp only [reps] at h; exact h.2
  | t :: ts, vs, F, U, h, ht => by
    simp only [List.all_cons, Bool.and_eq_true] at ht
    simp only [reps] at h
    obtain ⟨v, vs', F1, F2, U1, U2, rfl, rfl, rfl, h1, h2⟩ := h
    obtain ⟨rfl, rfl⟩ := rep_flat h1 ht.1
    obtain ⟨rfl, rfl⟩ := reps_flat h2 ht.2
    exact ⟨rfl, rfl⟩
theorem argsR_flat : ∀ {l : List AV}, l.all avFlat = true → ∀ (w : World) (vs : List Value) (F U : List Nat), argsR w l vs F U → F = [] ∧ U = []
  | [], _, w, vs, F, U, h => h.2
  | s :: l, hl, w, vs, F, U, h => by
    simp only [List.all_cons, Bool.and_eq_true] at hl
    obtain ⟨v, vs', F1, F2, U1, U2, rfl, rfl, rfl, h1, h2⟩ := h
    obtain ⟨rfl, rfl⟩ := argsR_flat hl.2 w vs' F2 U2 h2
    have : F1 = [] ∧ U1 = [] := by
      match s, hl.1, h1 with
      | .sv (.one t), ht, h1 => exact rep_flat h1.1 ht
      | .sv (.agg cs), ht, h1 => obtain ⟨_, _, h1⟩ := h1; exact reps_flat h1 ht
    obtain ⟨rfl, rfl⟩ := this
    exact ⟨rfl, rfl⟩
end Go.TI
namespace Go.TI
open Go Go.RowKit
set_option linter.unusedSimpArgs false
set_option linter.unusedVariables false
def TV.val : TV → Value
  | .int k n => .int k n
  | .bool b => .bool b
  | .str s => .string s
  | .fn f ta c => .func f ta c
  | _ => .bool false
theorem rep_val {w : World} {t : TV} {v : Value} {F U : List Nat} (h : rep w t v F U) (ht : t.flat = true) : v = t.val := by
  cases t <;> first | (cases ht; done) | (simp only [rep] at h; exact h.1)
theorem reps_val {w : World} : ∀ {ts : List TV} {vs : List Value} {F U : List Nat}, reps w ts vs F U → ts.all TV.flat = true → vs = ts.map TV.val
  | [], vs, F, U, h, _ => by simp only [reps] at h; exact h.1
  | t :: ts, vs, F, U, h, ht => by
    simp only [List.all_cons, Bool.and_eq_true] at ht
    simp only [reps] at h
    obtain ⟨v, vs', F1, F2, U1, U2, rfl, _, _, h1, h2⟩ := h
    rw [rep_val h1 ht.1, reps_val h2 ht.2]
    rfl
theorem val_rep {w : World} {t : TV} (ht : t.flat = true) : rep w t t.val [] [] := by
  cases t <;> first | (cases ht; done) | (simp [rep, TV.val])
theorem val_reps {w : World} : ∀ {ts : List TV}, ts.all TV.flat = true → reps w ts (ts.map TV.val) [] []
  | [], _ => by simp [reps]
  | t :: ts, ht => by
    simp only [List.all_cons, Bool.and_eq_true] at ht
    simp only [reps, List.map_cons]
    exact ⟨_, _, [], [], [], [], rfl, rfl, rfl, val_rep ht.1, val_reps ht.2⟩
theorem val_one {t : TV} : t.val.oneCell' = true := by cases t <;> rfl
theorem heap_setCells (e : TypeId) (fz : Nat × Nat) (g : Nat) : ∀ (vs : List Value) (o : Nat) (cur : Array Value) (w : World), w.heap[g]? = some (.cells cur e fz) → o + vs.length ≤ cur.size → (w.setCells g o vs).heap[g]? = some (.cells (setRow cur.toList o vs).toArray e fz)
  | [], o, cur, w, h, _ => by
    simp only [World.setCells]
    rw [h]
    congr 2
    apply Array.ext'
    simp [setRow]
  | v :: vs, o, cur, w, h, hl => by
    simp only [List.length_cons] at hl
    simp only [World.setCells]
    have h1 : (w.setCell ⟨g, o, none⟩ v).heap[g]? = some (.cells (cur.setIfInBounds o v) e fz) := by
      simp only [World.setCell, Array.getElem?_modify, if_true, h, Option.map_some]
      rfl
    rw [heap_setCells e fz g vs (o + 1) (cur.setIfInBounds o v) _ h1 (by simp; omega)]
    congr 2
    apply Array.ext'
    simp only [Array.toList_setIfInBounds]
    apply List.ext_getElem?
    intro k
    have l1 : (cur.toList.take o).length = o := by simp; omega
    have l2 : ((cur.toList.set o v).take (o + 1)).length = o + 1 := by simp; omega
    simp only [setRow, List.append_assoc]
    rcases Nat.lt_trichotomy k o with hk | hk | hk
    · rw [List.getElem?_append_left (by omega), List.getElem?_append_left (by omega), List.getElem?_take, List.getElem?_take, if_pos (by omega), if_pos hk, List.getElem?_set_ne (by omega)]
    · subst hk
      rw [List.getElem?_append_left (by omega), List.getElem?_append_right (by omega), List.getElem?_take, if_pos (by omega), List.getElem?_set_self (by simp; omega), l1]
      simp
    · have eL : (List.take (o + 1) (cur.toList.set o v) ++ (vs ++ List.drop (o + 1 + vs.length) (cur.toList.set o v)))[k]? = (vs ++ List.drop (o + 1 + vs.length) (cur.toList.set o v))[k - (o + 1)]? := by
        rw [List.getElem?_append_right (by omega), l2]
      have eR : (List.take o cur.toList ++ (v :: vs ++ List.drop (o + (v :: vs).length) cur.toList))[k]? = (vs ++ List.drop (o + (v :: vs).length) cur.toList)[k - (o + 1)]? := by
        rw [List.getElem?_append_right (by omega), l1, show k - o = (k - (o + 1)) + 1 by omega, List.cons_append, List.getElem?_cons_succ]
      rw [eL, eR]
      by_cases hv : k - (o + 1) < vs.length
      · rw [List.getElem?_append_left hv, List.getElem?_append_left hv]
      · rw [List.getElem?_append_right (by omega), List.getElem?_append_right (by omega), List.getElem?_drop, List.getElem?_drop, List.getElem?_set_ne (by omega), List.length_cons]
        congr 1
        omega
section
variable {γ : Type}
structure RowAt (n b g cap : Nat) (e T : TypeId) (sz : Nat) (enc : γ → List TV) (w : World) (l : List γ) : Prop where
  ne : b ≠ g
  len : l.length = n
  box : w.heap[b]? = some (.cells #[.slice (some ⟨g, 0, none⟩) l.length cap] T (0, 0))
  row : ∃ cur, w.heap[g]? = some (.cells cur e (0, 0)) ∧ cur.size = cap * sz ∧ cur.toList.take (l.length * sz) = (encs enc l).map TV.val
  le : l.length ≤ cap ∧ cap ≤ maxLen
def rowAmb (n b g cap : Nat) (e T : TypeId) (sz : Nat) (enc : γ → List TV) (l : List γ) : Amb where
  B := [b, g]
  I := fun w => RowAt n b g cap e T sz enc w l
  st := fun w w' h hk => ⟨h.ne, h.len, by rw [hk b (by simp)]; exact h.box, by rw [hk g (by simp)]; exact h.row, h.le⟩
  rd := fun ad => if ad.spot.isSome = true then none else if ad.block = b then (if ad.off = 0 then some (.slice (some ⟨g, 0, none⟩) n cap) else none) else if ad.block = g then (if ad.off < l.length * sz then ((encs enc l).map TV.val)[ad.off]? else none) else none
  rdI := fun w ad v h hr => by
    obtain ⟨bl, off, spot⟩ := ad
    cases spot with
    | some s => simp at hr
    | none =>
      simp only [Option.isSome_none, Bool.false_eq_true, if_false] at hr
      split at hr
      · rename_i hb
        subst hb
        split at hr
        · rename_i ho
          subst ho
          injection hr with hr
          subst hr
          simp [World.cell?, h.box, h.len]
        · cases hr
      · split at hr
        · rename_i hg
          subst hg
          split at hr
          · rename_i ho
            obtain ⟨cur, h1, h2, h3⟩ := h.row
            rw [← h3, List.getElem?_take, if_pos ho] at hr
            simpa [World.cell?, h1] using hr
          · cases hr
        · cases hr
theorem encs_cons' (f : γ → List TV) (x : γ) (l : List γ) : encs f (x :: l) = f x ++ encs f l := by simp [encs]
theorem size_setCells (g : Nat) : ∀ (vs : List Value) (o : Nat) (w : World), (w.setCells g o vs).heap.size = w.heap.size
  | [], _, _ => rfl
  | v :: vs, o, w => by
    simp only [World.setCells]
    rw [size_setCells g vs, World.size_setCell]
theorem tape_setCells (g : Nat) : ∀ (vs : List Value) (o : Nat) (w : World), (w.setCells g o vs).tape = w.tape
  | [], _, _ => rfl
  | v :: vs, o, w => by
    simp only [World.setCells]
    rw [tape_setCells g vs, World.tape_setCell]
theorem map_setRow {α β : Type} (f : α → β) (A B : List α) (j : Nat) : (setRow A j B).map f = setRow (A.map f) j (B.map f) := by
  simp [setRow, List.map_take, List.map_drop]
theorem setRow_whole {enc : γ → List TV} {sz : Nat} (henc : ∀ x, (enc x).length = sz) (x z : γ) : setRow (enc x) 0 (enc z) = enc z := by
  simp only [setRow, List.take_zero, List.nil_append, Nat.zero_add]
  rw [List.drop_eq_nil_of_le (by rw [henc, henc]; exact Nat.le_refl _), List.append_nil]
theorem setRow_el {enc : γ → List TV} {sz : Nat} (henc : ∀ x, (enc x).length = sz) {l : List γ} {i : Int} {x z : γ} (h : gi l i = some x) : setRow (encs enc l) (i.toNat * sz) (enc z) = encs enc (si l i z) :=
  setRow_gi henc h (k := 0) (by rw [henc]; simp) (setRow_whole henc x z)
theorem gi_eq_some' {α : Type} {l : List α} {i : Int} {x : α} (h : gi l i = some x) : 0 ≤ i ∧ l[i.toNat]? = some x := by
  unfold gi at h
  split at h
  · exact ⟨by assumption, h⟩
  · cases h
theorem swapOk_row {P : Program} {b g cap : Nat} {e T : TypeId} {sz : Nat} {enc : γ → List TV} (henc : ∀ x, (enc x).length = sz) (n : Nat) {sf : FuncId} (gS : Bool) (hx : ∀ args W, (callFunc sf args).run P W = ((Extern.ReflectliteSwapper.swap gS args).run P W).andThen fun v w' => .ok (.value v) w')
    {ie : TypeInfo} (hie : P.info? e = some ie) (hsz : ie.size = sz) (hagg : ∀ w, (isAgg e).run P w = .ok true w) :
    SwapOk P (rowAmb n b g cap e T sz enc) sf #[.slice (some ⟨g, 0, none⟩) n cap, typeHandle P e] := by
  intro l i j x y hi hj w hI hB
  obtain ⟨hne, hn, hbox, ⟨cur, hg, hcs, htk⟩, hle⟩ := hI
  obtain ⟨i0, i1⟩ := gi_eq_some' hi
  obtain ⟨j0, j1⟩ := gi_eq_some' hj
  obtain ⟨a, rfl⟩ := Int.eq_ofNat_of_zero_le i0
  obtain ⟨c, rfl⟩ := Int.eq_ofNat_of_zero_le j0
  simp only [Int.toNat_natCast] at i1 j1
  have la := (List.getElem?_eq_some_iff.1 i1).1
  have lc := (List.getElem?_eq_some_iff.1 j1).1
  have hX : ((enc x).map TV.val).length = sz := by rw [List.length_map]; exact henc x
  have hY : ((enc y).map TV.val).length = sz := by rw [List.length_map]; exact henc y
  have hlen : (encs enc l).length = l.length * sz := encs_len henc l
  have hcap : l.length * sz ≤ cur.size := by rw [hcs]; exact Nat.mul_le_mul_right _ hle.1
  have hfa : (a + 1) * sz ≤ l.length * sz := Nat.mul_le_mul_right _ la
  have hfc : (c + 1) * sz ≤ l.length * sz := Nat.mul_le_mul_right _ lc
  rw [Nat.succ_mul] at hfa hfc
  have cell : ∀ (m : Nat) (z : γ), l[m]? = some z → ∀ k v, ((enc z).map TV.val)[k]? = some v → w.cell? ⟨g, 0 + m * ie.size + k, none⟩ = some v := by
    intro m z hm k v hk
    have hkz := (List.getElem?_eq_some_iff.1 hk).1
    rw [List.length_map, henc] at hkz
    have lm := (List.getElem?_eq_some_iff.1 hm).1
    have hfm : (m + 1) * sz ≤ l.length * sz := Nat.mul_le_mul_right _ lm
    rw [Nat.succ_mul] at hfm
    rw [hsz, Nat.zero_add]
    have e1 : (encs enc l)[m * sz + k]? = (enc z)[k]? := by
      have := encs_drop henc l m
      have h2 : (encs enc l)[m * sz + k]? = ((encs enc l).drop (m * sz))[k]? := by rw [List.getElem?_drop]
      rw [h2, this, List.drop_eq_getElem_cons lm]
      have e3 : encs enc (l[m] :: l.drop (m + 1)) = enc l[m] ++ encs enc (l.drop (m + 1)) := encs_cons' _ _ _
      have e4 : l[m] = z := by rw [List.getElem?_eq_getElem lm] at hm; injection hm
      rw [e3, e4, List.getElem?_append_left (by rw [henc]; exact hkz)]
    have e2 : cur.toList[m * sz + k]? = some v := by
      have : (cur.toList.take (l.length * sz))[m * sz + k]? = cur.toList[m * sz + k]? := by rw [List.getElem?_take, if_pos (by omega)]
      rw [← this, htk, List.getElem?_map, e1, ← List.getElem?_map, hk]
    simp only [World.cell?, hg, Option.bind_some]
    simpa using e2
  have frz : ∀ (m k : Nat), w.frozen? ⟨g, 0 + m * ie.size + k, none⟩ = false := by
    intro m k
    simp [World.frozen?, hg]
  have hrun := Go.Lib.run_swap_cells (P := P) gS e ie hie hagg g 0 n cap a c (by omega) (by omega) ((enc x).map TV.val) ((enc y).map TV.val) (by rw [hX, hsz]) (by rw [hY, hsz]) (fun v hv => by obtain ⟨t, _, rfl⟩ := List.mem_map.1 hv; exact val_one) (fun v hv => by obtain ⟨t, _, rfl⟩ := List.mem_map.1 hv; exact val_one) w (cell a x i1) (cell c y j1) (fun k _ => frz a k) (fun k _ => frz c k)
  simp only [Nat.zero_add, hsz] at hrun
  have h1 := heap_setCells e (0, 0) g ((enc y).map TV.val) (a * sz) cur w hg (by rw [hY]; omega)
  have hs1 : (setRow cur.toList (a * sz) ((enc y).map TV.val)).toArray.size = cur.size := by
    rw [List.size_toArray, setRow_length (by rw [hY]; simp; omega)]; simp
  have h2 := heap_setCells e (0, 0) g ((enc x).map TV.val) (c * sz) _ _ h1 (by rw [hs1, hX]; omega)
  have kB : ∀ k, k < w.heap.size → k ≠ g → ((w.setCells g (a * sz) ((enc y).map TV.val)).setCells g (c * sz) ((enc x).map TV.val)).heap[k]? = w.heap[k]? := by
    intro k hk hkg
    have s1 : (w.setCells g (a * sz) ((enc y).map TV.val)).heap.size = w.heap.size := size_setCells g _ _ _
    rw [World.heap_setCells_other _ g _ _ (by rw [s1]; exact hk) hkg, World.heap_setCells_other _ g _ _ hk hkg]
  refine ⟨(w.setCells g (a * sz) ((enc y).map TV.val)).setCells g (c * sz) ((enc x).map TV.val), ?_, ⟨?_, ?_, ?_, ?_, ?_⟩, ?_⟩
  · rw [hx]
    have ea : (#[Value.int .i64 (a : Int), Value.int .i64 (c : Int)] ++ #[Value.slice (some ⟨g, 0, none⟩) n cap, typeHandle P e]) = #[.int .i64 (a : Int), .int .i64 (c : Int), .slice (some ⟨g, 0, none⟩) n cap, typeHandle P e] := rfl
    rw [ea, hrun]
    rfl
  · rw [World.os_setCells, World.os_setCells]
  · rw [tape_setCells, tape_setCells]
  · rw [World.output_setCells, World.output_setCells]
  · rw [size_setCells, size_setCells]
    exact Nat.le_refl _
  · intro k hk hkB
    exact kB k hk (fun e => hkB (by rw [e]; simp [rowAmb]))
  · have hl2 : (si (si l (a : Int) y) (c : Int) x).length = l.length := by simp [si]
    have lcur : cur.toList.length = cur.size := by simp
    have hr1 : (setRow cur.toList (a * sz) ((enc y).map TV.val)).length = cur.size := by rw [setRow_length (by rw [hY, lcur]; omega), lcur]
    have hr2 : (setRow (setRow cur.toList (a * sz) ((enc y).map TV.val)) (c * sz) ((enc x).map TV.val)).length = cur.size := by rw [setRow_length (by rw [hX, hr1]; omega), hr1]
    show RowAt n b g cap e T sz enc _ (si (si l (a : Int) y) (c : Int) x)
    refine ⟨hne, hl2.trans hn, ?_, ⟨_, h2, ?_, ?_⟩, by rw [hl2]; exact hle⟩
    · rw [kB b (hB b (by simp [rowAmb])) hne, hl2]; exact hbox
    · rw [List.size_toArray]
      exact hr2.trans hcs
    · rw [hl2]
      show ((setRow (setRow cur.toList (a * sz) ((enc y).map TV.val)) (c * sz) ((enc x).map TV.val))).take (l.length * sz) = _
      rw [take_setRow (by rw [hX]; omega) (by rw [hr1]; exact hcap), take_setRow (by rw [hY]; omega) (by rw [lcur]; exact hcap), htk, ← map_setRow, ← map_setRow]
      have e1 : setRow (encs enc l) (a * sz) (enc y) = encs enc (si l (a : Int) y) := by
        have := setRow_el henc (z := y) hi
        rwa [Int.toNat_natCast] at this
      obtain ⟨z0, hz0⟩ : ∃ z0, gi (si l (a : Int) y) (c : Int) = some z0 := by
        have lc2 : c < (si l (a : Int) y).length := by simp only [si, List.length_set]; exact lc
        refine ⟨(si l (a : Int) y)[c], ?_⟩
        unfold gi
        rw [if_pos (by omega), Int.toNat_natCast]
        exact List.getElem?_eq_getElem lc2
      have e2 := setRow_el henc (z := x) hz0
      rw [Int.toNat_natCast] at e2
      rw [e1, e2]
end
end Go.TI
namespace Go.TI
open Go Go.RowKit
set_option linter.unusedSimpArgs false
set_option linter.unusedVariables false
section
variable {N : Nat} {E : St} {P : Program} {ops : Array Oper} {o : Oper} {rest : List Oper} {K : St → Prop}
theorem adr_val {w0 : Base} {FA UA : List Nat} {w : World} {a : Act} {blk : Root → Nat} {FS US : Root → List Nat} (h : Rel w0 FA UA N w a E blk FS US) {t : Nat} {ad : Addr} (hs : E.slots t = .one (.adr ad)) : a.eval (.tmp t) = .pointer (some ad) := by
  have := h.slot t
  rw [hs] at this
  simp only [svX, cellX, rep] at this
  exact this.1.1
theorem hdr_val {w0 : Base} {FA UA : List Nat} {w : World} {a : Act} {blk : Root → Nat} {FS US : Root → List Nat} (h : Rel w0 FA UA N w a E blk FS US) {t : Nat} {ad : Addr} {n c : Nat} (hs : E.slots t = .one (.hdr ad n c)) : a.eval (.tmp t) = .slice (some ad) n c := by
  have := h.slot t
  rw [hs] at this
  simp only [svX, cellX, rep] at this
  exact this.1.1
theorem SWp.any (d : Nat) (t : TV) (hk : SWp P N ops rest (E.put (some d) (.one t)) K)
    (hrun : ∀ (w0 : Base) (FA UA : List Nat) (w : World) (a : Act) (blk : Root → Nat) (FS US : Root → List Nat), Rel w0 FA UA N w a E blk FS US → ∃ v, (execOp a.eval o).run P w = .ok (.value v) w ∧ rep w t v [] [] ∧ v.cells = #[v])
    (hd : o.dst = some d := by rfl) (hN : Nat.blt d N = true := by rfl) (hg : guardOpen P ops E o = some true := by rfl) : SWp P N ops (o :: rest) E K := by
  have hN' : d < N := by simpa [Nat.blt_eq] using hN
  intro w0 FA UA w a blk FS US k1 k2 k3
  obtain ⟨v, h1, h2, h3⟩ := hrun w0 FA UA w a blk FS US k1
  simp only [wpStill, guard_rel k1 hg, if_true, Oper.still, h1, Oper.stillUpon_value]
  rw [hd]
  refine hk _ _ _ _ _ _ _ _ (k1.put (F := []) (U := []) hN' (by simp only [svX]; exact ⟨cellX_of_rep h2, fun _ => h3⟩) Fits.none) ?_ ?_
  · rw [upd_ne (by simp), k2]
  · rw [upd_ne (by simp), k3]
theorem SWp.ld (d : Nat) (t : TV) (v : Value) {ad : Addr} {ty : TypeId} {x : Nat} (hk : SWp P N ops rest (E.put (some d) (.one t)) K) (hs : E.slots x = .one (.adr ad)) (hrd : E.amb.rd ad = some v) (hv : ∀ w, rep w t v [] []) (hc : v.cells = #[v]) (ha : aggT P ty = false) (hu : (P.underlying ty).isSome = true)
    (ho : o.op = .load ty (.tmp x) := by rfl) (hd : o.dst = some d := by rfl) (hN : Nat.blt d N = true := by rfl) (hg : guardOpen P ops E o = some true := by rfl) : SWp P N ops (o :: rest) E K :=
  SWp.any d t hk (fun w0 FA UA w a blk FS US h => by
    have h1 := adr_val h hs
    have h2 := E.amb.rdI w ad v h.ambI hrd
    have hun : P.underlying ty ≠ none := by intro e; rw [e] at hu; cases hu
    refine ⟨v, ?_, hv w, hc⟩
    simp [execOp, ho, h1, Instr.loadAt, Instr.sureAddr, loadVar, run_isAgg hun, ha, h2]) hd hN hg
theorem SWp.fa (d : Nat) {ad : Addr} {st : TypeId} {x f : Nat} {fs : Array Field} {fd : Field} (hk : SWp P N ops rest (E.put (some d) (.one (.adr (ad.add fd.offset)))) K) (hs : E.slots x = .one (.adr ad)) (hst : P.underlying st = some (.struct fs)) (hf : fs[f]? = some fd) (hne : P.cellsOf fd.type ≠ 0)
    (ho : o.op = .fieldAddr st (.tmp x) f := by rfl) (hd : o.dst = some d := by rfl) (hN : Nat.blt d N = true := by rfl) (hg : guardOpen P ops E o = some true := by rfl) : SWp P N ops (o :: rest) E K :=
  SWp.any d (.adr (ad.add fd.offset)) hk (fun w0 FA UA w a blk FS US h => by
    have h1 := adr_val h hs
    obtain ⟨i, hi, _⟩ := info_of_cells hne
    refine ⟨.pointer (some (ad.add fd.offset)), ?_, by simp [rep], rfl⟩
    simp [execOp, ho, h1, Instr.fieldAt, run_underlying hst, hf, Instr.sureAddr, fieldPlace, run_sizeOf w hi, hne]) hd hN hg
theorem SWp.ix (d : Nat) {ad : Addr} {n c : Nat} {t e : TypeId} {x : Nat} {i : Operand} {k : IntKind} {m : Int} (hk : SWp P N ops rest (E.put (some d) (.one (.adr (ad.add (m.toNat * P.cellsOf e))))) K) (hs : E.slots x = .one (.hdr ad n c)) (ht : P.underlying t = some (.slice e)) (hi : E.cell1 P 0 i = some (.int k m)) (h0 : 0 ≤ m) (hm : m < n) (hne : P.cellsOf e ≠ 0)
    (ho : o.op = .indexAddr t (.tmp x) i := by rfl) (hd : o.dst = some d := by rfl) (hN : Nat.blt d N = true := by rfl) (hg : guardOpen P ops E o = some true := by rfl) : SWp P N ops (o :: rest) E K :=
  SWp.any d (.adr (ad.add (m.toNat * P.cellsOf e))) hk (fun w0 FA UA w a blk FS US h => by
    have h1 := hdr_val h hs
    have h2 := cell1_int h hi
    obtain ⟨inf, hinf, _⟩ := info_of_cells hne
    refine ⟨.pointer (some (ad.add (m.toNat * P.cellsOf e))), ?_, by simp [rep], rfl⟩
    simp [execOp, ho, h1, h2, Instr.indexAt, run_underlying ht, asIntOf, h0, hm, run_sizeOf w hinf]) hd hN hg
end
def GivesRd (P : Program) (f : FuncId) (A : Amb) (as : List AV) (t : TV) : Prop :=
  ∀ (w : World) (vs : List Value), argsR w as vs [] [] → (∀ b ∈ A.B, b < w.heap.size) → A.I w → Calls P f vs.toArray w fun e w' => e = .returned (GivesRd.val t) ∧ Beside w w' A.B ∧ A.I w'
where
  val : TV → Value
  | .int k n => .int k n
  | .bool b => .bool b
  | .str s => .string s
  | .fn f ta c => .func f ta c
  | _ => .bool false
theorem rep_val' {w : World} {t : TV} {v : Value} {F U : List Nat} (h : rep w t v F U) (ht : t.flat = true) : v = GivesRd.val t := by
  cases t <;> first | (cases ht; done) | (simp only [rep] at h; exact h.1)
theorem gives_rd {P : Program} {f : FuncId} {fn : Func} {c : Code} {as : List AV} {A : Amb} {t : TV} (hf : P.funcs[f]? = some fn) (hb : fn.body = some c) (ht : t.flat = true)
    (h : Wp P fn.ntmps c (St.init as A) fun e E => (e = .normal ∨ e = .ret) ∧ E.amb = A ∧ ∃ E', resTake P E fn.results.toList = some ([.one t], E')) : GivesRd P f A as t := by
  intro w vs ha hB hA
  obtain ⟨blk, FS, US, hrel, hF, hU⟩ := Rel.init (N := fn.ntmps) ha List.nodup_nil (by simp) (by simp) (A := A) hA (fun b hb => ⟨hB b hb, by simp, by simp⟩)
  refine calls_of_wp hf hb (wp_mono (h _ _ _ _ _ _ _ _ hrel hF hU) ?_)
  rintro e a w' ⟨E, blk', FS', US', ⟨he, hEA, E', h1⟩, h2, h3, h4⟩
  obtain ⟨us, FS2, US2, F, U, k1, k2, k3, k4, k5⟩ := resTake_rel h2 h1
  have k6 := packRes_rel k2
  have hv := rep_val' k6.1 ht
  have hI : A.I w' := by rw [← hEA]; exact h2.ambI
  have hpost : a.defers = [] ∧ ∃ v, (results fn a.tmps).run P w' = .ok v w' ∧ Ending.returned v = .returned (GivesRd.val t) ∧ Beside w w' A.B ∧ A.I w' :=
    ⟨h2.nodef, _, run_results k1, by rw [hv], ⟨h2.os, h2.tape, h2.output, h2.size, fun b h5 h6 => h2.keep b h5 (by simp) h6⟩, hI⟩
  rcases he with rfl | rfl
  · exact hpost
  · exact hpost
theorem lessOk_of {P : Program} {γ : Type} {Am : List γ → Amb} {lt : γ → γ → Bool} {g : FuncId} {fn : Func} {ad : Addr} (hf : P.funcs[g]? = some fn) (hn : (fn.name == "runtime.NumGoroutine") = false) (hb : fn.body.isNone = false)
    (h : ∀ (l : List γ) (i j : Int) (x y : γ), gi l i = some x → gi l j = some y → (∃ w, (Am l).I w) → GivesRd P g (Am l) [.sv (.one (.int .i64 i)), .sv (.one (.int .i64 j)), .sv (.one (.adr ad))] (.bool (lt x y))) : LessOk P Am lt g #[.pointer (some ad)] := by
  refine ⟨fun args w => ?_, fun l i j x y hx hy w hI hB => ?_⟩
  · have hfn : fn.body ≠ none := by intro e; simp [e] at hb
    have hnn : fn.name ≠ "runtime.NumGoroutine" := by intro e; rw [e] at hn; simp at hn
    simp [callFunc, hf, hnn, hfn]
  · exact h l i j x y hx hy ⟨w, hI⟩ w [.int .i64 i, .int .i64 j, .pointer (some ad)]
      ⟨_, _, [], [], [], [], rfl, rfl, rfl, ⟨by simp [rep], rfl⟩, ⟨_, _, [], [], [], [], rfl, rfl, rfl, ⟨by simp [rep], rfl⟩, ⟨_, _, [], [], [], [], rfl, rfl, rfl, ⟨by simp [rep], rfl⟩, ⟨rfl, rfl, rfl⟩⟩⟩⟩ hB hI
end Go.TI
namespace Go.TI
open Go Go.RowKit
set_option linter.unusedSimpArgs false
set_option linter.unusedVariables false
def SortsAt {γ : Type} (P : Program) (f : FuncId) (t e sz : Nat) (enc : γ → List TV) (g : FuncId) (l l' : List γ) : Prop :=
  ∀ (w : World) (b : Nat) (v : Value) (T : TypeId), w.heap[b]? = some (.cells #[v] T (0, 0)) → w.ownsRow 0 e sz v l.length ((encs enc l).map TV.val) → b ∉ blkOf v →
    Calls P f #[.iface t v, .func (.func g) #[] #[.pointer (some ⟨b, 0, none⟩)]] w fun r w' => r = .returned (.tuple #[]) ∧ Beside w w' (b :: blkOf v) ∧ w'.heap[b]? = some (.cells #[v] T (0, 0)) ∧ w'.ownsRow 0 e sz v l'.length ((encs enc l').map TV.val)
section
variable {w0 : Base} {FA UA : List Nat} {N : Nat} {w : World} {a : Act} {E : St} {blk : Root → Nat} {FS US : Root → List Nat} {P : Program}
theorem Rel.turn (h : Rel w0 FA UA N w a E blk FS US) (hF : FS .hand = []) (hU : US .hand = []) {r : Root} (hm : r.mem = true) {cells cells' : List TV} (hc : E.boxes r = some cells) (hlen : cells'.length = cells.length) {w' : World} (hb : Beside w w' (FS r))
    (hbox : ∃ cur T F, w'.heap[blk r]? = some (.cells cur T (0, 0)) ∧ reps w' cells' cur.toList F (US r) ∧ FS r = blk r :: F) :
    ∃ FS' US', Rel w0 FA UA N w' a ((E.setRoot r cells').bump r) blk FS' US' ∧ FS' .hand = [] ∧ US' .hand = [] := by
  have hne : r ≠ .hand := by rintro rfl; cases hm
  have hplace : ∀ j, ((E.setRoot r cells').bump r).place r [] j = cells'[j]? := by
    intro j
    cases r with
    | slot n => cases hm
    | hand => cases hm
    | box n => simp [St.place, St.bump, St.setRoot, St.root, upd, cont]
    | ext n => simp [St.place, St.bump, St.setRoot, St.root, upd, cont]
  have hplace0 : ∀ j, E.place r [] j = cells[j]? := by
    intro j
    cases r with
    | slot n => cases hm
    | hand => cases hm
    | box n => simp [St.place, St.root, hc, cont]
    | ext n => simp [St.place, St.root, hc, cont]
  let E1 : St := (E.setRoot r cells').bump r
  have ev : ∀ s, s ≠ r → E1.ver s = E.ver s := by
    intro s hs
    cases r <;> simp [E1, St.bump, St.setRoot, upd, hs]
  have evr : E1.ver r = E.ver r + 1 := by cases r <;> simp [E1, St.bump, St.setRoot, upd]
  have eg : ∀ s, E1.gen s = E.gen s := by intro s; cases r <;> rfl
  have er : ∀ s, s ≠ r → E1.root s = E.root s := by
    intro s hs
    cases r with
    | slot n => cases hm
    | hand => cases hm
    | box n => cases s <;> simp [E1, St.bump, St.setRoot, St.root, upd, hs]
    | ext n => cases s <;> simp [E1, St.bump, St.setRoot, St.root, upd, hs]
  have es : ∀ n, E1.slots n = E.slots n := by
    intro n
    cases r with
    | slot n => cases hm
    | hand => cases hm
    | box n => rfl
    | ext n => rfl
  have eb : ∀ s, E1.boxes s = if s = r then some cells' else E.boxes s := by
    intro s
    cases r with
    | slot n => cases hm
    | hand => cases hm
    | box n => rfl
    | ext n => rfl
  have hst : ∀ s, Steady w w' a a E E1 blk blk s := by
    intro s
    by_cases hs : s = r
    · subst hs
      refine ⟨.inl (by rw [evr]; omega), .inr ⟨eg s, fun j ad hv hp => ?_⟩⟩
      refine ⟨(by cases s <;> first | exact hv | (cases hm)), ?_⟩
      rw [hplace0] at hp
      rw [show E1.place s [] j = cells'[j]? from hplace j]
      have hj : j < cells.length := by
        rcases Nat.lt_or_ge j cells.length with q | q
        · exact q
        · rw [List.getElem?_eq_none q] at hp; cases hp
      rw [List.getElem?_eq_getElem (by omega)]
      rfl
    · by_cases hh : s = .hand
      · subst hh
        exact steady_none (ev _ hs) (eg _) (by simp [St.root, h.nohand])
      · exact steady_other h (ev s hs) (eg s) (er s hs) (fun _ _ => rfl) (fun _ => rfl)
          (fun b hx => hb.keep b (h.inF s b hx).2 (h.dis s r hs b hx)) (fun b hx => hb.keep b (h.inU s b hx).2 (fun e => h.disU r s b e hx))
  have k7 := h.two (w' := w') (a' := a) (E' := E1) (blk' := blk) (r1 := r) (r2 := .hand) (L1 := FS r) (L2 := []) (V1 := US r) (V2 := []) hne
    (by simpa using h.nodup r)
    (fun b hx => ⟨.inl (by simpa using hx), Nat.lt_of_lt_of_le (h.inF r b (by simpa using hx)).2 hb.size⟩)
    (fun b hx => .inl ⟨r, by simpa using hx⟩)
    hb.size hb.os hb.tape hb.output (fun b hx q _ => hb.keep b hx q) hst (fun n _ _ => ⟨es n, rfl⟩) (fun s _ hs _ => ⟨by rw [eb, if_neg hs], rfl⟩)
    (by
      obtain ⟨cur, T, F, g1, g2, g3⟩ := hbox
      have : rootOk w' a E1 blk r (FS r) (US r) := by
        have e1 := eb r
        rw [if_pos rfl] at e1
        cases r with
        | slot n => cases hm
        | hand => cases hm
        | box n => exact .inr ⟨cells', cur, T, F, e1, g1, g2, g3⟩
        | ext n => exact .inr ⟨cells', cur, T, F, e1, g1, g2, g3⟩
      exact this)
    trivial (by rw [eb, if_neg (Ne.symm hne)]; exact h.nohand) h.len h.nodef (hfz := by
      intro n hn
      have e : ((E.setRoot r cells').bump r).fz = E.fz := by rw [bump_fz, setRoot_fz]
      exact h.frz n (e ▸ hn)) (hamb := by show ((E.setRoot r cells').bump r).amb = E.amb; rw [bump_amb, setRoot_amb])
  exact ⟨_, _, k7, upd_eq _ _ _, upd_eq _ _ _⟩
theorem junk_put (h : Rel w0 FA UA N w a E blk FS US) (hF : FS .hand = []) (hU : US .hand = []) {d : Nat} (hd : d < N) (v : Value) : ∃ FS' US', Rel w0 FA UA N w (a.put (some d) v) (E.put (some d) (.one .junk)) blk FS' US' ∧ FS' .hand = [] ∧ US' .hand = [] :=
  h.land (w' := w) (F := []) (U := []) hd (by simp [svX, cellX, TV.isJunk]) List.nodup_nil (by simp) (by simp) (Nat.le_refl _) rfl rfl rfl (fun _ _ _ => rfl)
theorem encs_flat {γ : Type} {enc : γ → List TV} (hfl : ∀ x, (enc x).all TV.flat = true) : ∀ l : List γ, (encs enc l).all TV.flat = true
  | [] => rfl
  | x :: l => by
    have : encs enc (x :: l) = enc x ++ encs enc l := by simp [encs]
    rw [this, List.all_append, hfl, encs_flat hfl l]
    rfl
end
section
variable {N : Nat} {E : St} {P : Program} {ops : Array Oper} {rest : List Oper} {Q : Exit → St → Prop} {γ : Type}
theorem guard_none {o : Oper} (h : o.guard = none) : guardOpen P ops E o = some true := by unfold guardOpen; rw [h]
theorem LWp.bd {α β : Type} {l : List Oper} {x : Option α} {k : α → Option β} {rr : β} (h : x.bind k = some rr) (hk : ∀ v, x = some v → k v = some rr → LWp P N ops l E Q) : LWp P N ops l E Q := by
  obtain ⟨v, hv, h⟩ := Option.bind_eq_some_iff.1 h
  exact hk v hv h
theorem LWp.srt {enc : γ → List TV} {sz e t : Nat} {f lfn : FuncId} {l l' : List γ} {r : Root} {o1 o2 o3 : Oper} {d1 d2 d3 x p : Nat} {ver : Nat} {tys : Array TypeId} (hs : SortsAt P f t e sz enc lfn l l')
    (hk : LWp P N ops rest (((((E.put (some d1) (.one .junk)).put (some d2) (.one .junk)).setRoot r [.sl true e sz (encs enc l')]).bump r).put (some d3) (.tup [])) Q)
    (henc : ∀ x, (enc x).length = sz) (hfl : ∀ x, (enc x).all TV.flat = true)
    (hx : E.slots x = .one (.view r ver [] 0) := by rfl) (hver : E.ver r = ver := by rfl) (hp : E.ptr? (.tmp p) = some (r, [], 0) := by rfl) (hc : E.boxes r = some [.sl true e sz (encs enc l)] := by rfl) (hm : r.mem = true := by rfl)
    (h1 : o1.op = .makeInterface t (.tmp x) := by rfl) (h2 : o2.op = .makeFunc (.func lfn) #[] #[.tmp p] := by rfl) (h3 : o3.op = .call { callee := .value (.func f), args := #[.tmp d1, .tmp d2], argTypes := tys } := by rfl)
    (k1 : o1.dst = some d1 := by rfl) (k2 : o2.dst = some d2 := by rfl) (k3 : o3.dst = some d3 := by rfl) (g1 : o1.guard = none := by rfl) (g2 : o2.guard = none := by rfl) (g3 : o3.guard = none := by rfl)
    (hN1 : Nat.blt d1 N = true := by rfl) (hN2 : Nat.blt d2 N = true := by rfl) (hN3 : Nat.blt d3 N = true := by rfl) (hne : Nat.beq d1 d2 = false := by rfl) (hne2 : Nat.beq p d1 = false := by rfl) (hsz : Nat.blt 0 sz = true := by rfl)
    (ht : P.underlying t = some (.slice e) := by rfl) (hf : goFn P f) : LWp P N ops (o1 :: o2 :: o3 :: rest) E Q := by
  have hN1' : d1 < N := by simpa [Nat.blt_eq] using hN1
  have hN2' : d2 < N := by simpa [Nat.blt_eq] using hN2
  have hN3' : d3 < N := by simpa [Nat.blt_eq] using hN3
  have hne' : d1 ≠ d2 := by intro e; subst e; simp at hne
  have hne2' : p ≠ d1 := by intro e; subst e; simp at hne2
  have hsz' : 0 < sz := by simpa [Nat.blt_eq] using hsz
  intro w0 FA UA w a blk FS US hr hF hU
  -- the variable
  have hbox : ∃ v T F, w.heap[blk r]? = some (.cells #[v] T (0, 0)) ∧ rep w (.sl true e sz (encs enc l)) v F (US r) ∧ FS r = blk r :: F := by
    rcases hr.box r hm with ⟨q1, _⟩ | ⟨cs, cur, T, F, q1, q2, q3, q4⟩
    · rw [hc] at q1; cases q1
    · rw [hc] at q1
      injection q1 with q1
      subst q1
      simp only [reps] at q3
      obtain ⟨v, vs', F1, F2, U1, U2, e1, rfl, e3, q5, rfl, rfl, rfl⟩ := q3
      have : cur = #[v] := by apply Array.ext'; simpa using e1
      subst this
      rw [List.append_nil] at q4
      rw [e3, List.append_nil]
      exact ⟨v, T, F1, q2, q5, q4⟩
  obtain ⟨v, T, F, b1, b2, b3⟩ := hbox
  simp only [rep] at b2
  obtain ⟨n, vs, F', b4, b5, rfl⟩ := b2
  have hrv := reps_val b5 (encs_flat hfl l)
  obtain ⟨rfl, hUr⟩ := reps_flat b5 (encs_flat hfl l)
  subst hrv
  have hnl : n = l.length := by
    have q := b4.1
    rw [List.length_map, encs_len henc l] at q
    exact (Nat.eq_of_mul_eq_mul_right hsz' q).symm
  subst hnl
  rw [List.append_nil] at b3
  have hbn : blk r ∉ blkOf v := by
    have := hr.nodup r
    rw [b3] at this
    exact (List.nodup_cons.1 this).1
  -- the header's slot
  have evx : a.eval (.tmp x) = v := by
    have q := hr.slot x
    rw [hx] at q
    simp only [svX, cellX] at q
    obtain ⟨⟨_, _, _, q4⟩, _⟩ := q
    obtain ⟨q5, _⟩ := q4 hver
    cases r with
    | slot n => cases hm
    | hand => cases hm
    | box n => simpa [pv, rootCell, Addr.add, World.cell?, b1] using q5.symm
    | ext n => simpa [pv, rootCell, Addr.add, World.cell?, b1] using q5.symm
  have evp : a.eval (.tmp p) = .pointer (some ⟨blk r, 0, none⟩) := by
    obtain ⟨_, ad, q1, q2⟩ := ptr_rel hr hp
    rw [q2]
    cases r with
    | slot n => cases hm
    | hand => cases hm
    | box n => simp [pa, Addr.add] at q1; rw [← q1]
    | ext n => simp [pa, Addr.add] at q1; rw [← q1]
  -- the interface
  obtain ⟨FS1, US1, r1, r2, r3⟩ := junk_put hr hF hU hN1' (.iface t v)
  have e1 : (execOp a.eval o1).run P w = .ok (.value (.iface t v)) w := by
    simp [execOp, h1, Instr.makeInterface, run_underlying ht, evx]
  simp only [wpList, guard_rel hr (guard_none (P := P) (ops := ops) g1), if_true]
  refine .inl ?_
  try unfold Oper.wp
  rw [e1, Oper.upon_value, k1]
  -- the comparison
  have evp1 : (a.put (some d1) (.iface t v)).eval (.tmp p) = .pointer (some ⟨blk r, 0, none⟩) := by rw [eval_put_ne hne2', evp]
  obtain ⟨FS2, US2, s1, s2, s3⟩ := junk_put r1 r2 r3 hN2' (.func (.func lfn) #[] #[.pointer (some ⟨blk r, 0, none⟩)])
  have e2 : (execOp (a.put (some d1) (.iface t v)).eval o2).run P w = .ok (.value (.func (.func lfn) #[] #[.pointer (some ⟨blk r, 0, none⟩)])) w := by
    simp [execOp, h2, Instr.makeFunc, evp1]
  simp only [wpList, guard_rel r1 (guard_none (P := P) (ops := ops) g2), if_true]
  refine .inl ?_
  try unfold Oper.wp
  rw [e2, Oper.upon_value, k2]
  -- the call
  simp only [wpList, guard_rel s1 (guard_none (P := P) (ops := ops) g3), if_true]
  refine .inl ?_
  have hl1 : d1 < a.tmps.size := Nat.lt_of_lt_of_le hN1' hr.len
  have hl2 : d2 < (a.put (some d1) (.iface t v)).tmps.size := Nat.lt_of_lt_of_le hN2' r1.len
  try unfold Oper.wp
  rw [run_call_fn h3 hf]
  have ea : #[Operand.tmp d1, .tmp d2].map ((a.put (some d1) (.iface t v)).put (some d2) (.func (.func lfn) #[] #[.pointer (some ⟨blk r, 0, none⟩)])).eval = #[.iface t v, .func (.func lfn) #[] #[.pointer (some ⟨blk r, 0, none⟩)]] := by
    simp [eval_put_eq hl2, eval_put_ne hne', eval_put_eq hl1]
  rw [ea]
  simp only [Oper.upon]
  refine Calls.mono (hs w (blk r) v T b1 b4 hbn) ?_
  rintro ee w' ⟨rfl, hbe, hbx, how⟩
  have hc2 : ((E.put (some d1) (.one .junk)).put (some d2) (.one .junk)).boxes r = some [.sl true e sz (encs enc l)] := hc
  -- what the variable's blocks are
  have hbox2 : ∃ F2, FS2 r = blk r :: F2 ∧ F2 = blkOf v ∧ US2 r = [] := by
    rcases s1.box r hm with ⟨q1, _⟩ | ⟨cs, cur, T2, F2, q1, q2, q3, q4⟩
    · rw [hc2] at q1; cases q1
    · rw [hc2] at q1
      injection q1 with q1
      subst q1
      rw [b1] at q2
      injection q2 with q2
      injection q2 with q2
      subst q2
      simp only [reps] at q3
      obtain ⟨v2, vs', F3, F4, U1, U2, e1, rfl, e3, q5, rfl, rfl, rfl⟩ := q3
      simp at e1
      subst e1
      simp only [rep] at q5
      obtain ⟨n, vs, F', c4, c5, rfl⟩ := q5
      obtain ⟨rfl, rfl⟩ := reps_flat c5 (encs_flat hfl l)
      rw [List.append_nil] at e3
      exact ⟨_, q4, by simp, e3⟩
  obtain ⟨F2, f1, rfl, f3⟩ := hbox2
  obtain ⟨FS3, US3, t1, t2, t3⟩ := s1.turn s2 s3 hm hc2 (cells' := [.sl true e sz (encs enc l')]) rfl (w' := w') (by rw [f1]; exact hbe)
    ⟨#[v], T, blkOf v, hbx, by
      rw [f3]
      simp only [reps]
      refine ⟨v, [], blkOf v, [], [], [], rfl, by simp, rfl, ?_, rfl, rfl, rfl⟩
      simp only [rep]
      exact ⟨l'.length, _, [], how, val_reps (encs_flat hfl l'), by simp⟩, f1⟩
  obtain ⟨FS4, US4, u1, u2, u3⟩ := t1.land (w' := w') (d := d3) (s := .tup []) (v := .tuple #[]) (F := []) (U := []) hN3' (by simp [svX, tupX]) List.nodup_nil (by simp) (by simp) (Nat.le_refl _) rfl rfl rfl (fun _ _ _ => rfl)
  rw [k3]
  exact hk _ _ _ _ _ _ _ _ u1 u2 u3
end
def keepAmb (b : Nat) (v : Value) (T : TypeId) (e sz n : Nat) (xs : List Value) : Amb where
  B := b :: blkOf v
  I := fun w => w.heap[b]? = some (.cells #[v] T (0, 0)) ∧ w.ownsRow 0 e sz v n xs
  st := fun w w' h hk => ⟨by rw [hk b (by simp)]; exact h.1, h.2.1, by
    rcases h.2.2 with q | ⟨g, cap, cur, rfl, q1, q2, q3⟩
    · exact .inl q
    · exact .inr ⟨g, cap, cur, rfl, q1, by rw [hk g (by simp [blkOf, Value.ownBlock])]; exact q2, q3⟩⟩
theorem rd_row {γ : Type} {n b g cap : Nat} {e T : TypeId} {sz : Nat} {enc : γ → List TV} (henc : ∀ x, (enc x).length = sz) {l : List γ} {i : Int} {x : γ} {k : Nat} {t : TV} {ad : Addr} (hi : gi l i = some x) (hk : (enc x)[k]? = some t) (hb : b ≠ g) (had : ad = ⟨g, i.toNat * sz + k, none⟩) : (rowAmb n b g cap e T sz enc l).rd ad = some t.val := by
  subst had
  obtain ⟨i0, i1⟩ := gi_eq_some' hi
  have lm := (List.getElem?_eq_some_iff.1 i1).1
  have hkz := (List.getElem?_eq_some_iff.1 hk).1
  rw [henc] at hkz
  have hfm : (i.toNat + 1) * sz ≤ l.length * sz := Nat.mul_le_mul_right _ lm
  rw [Nat.succ_mul] at hfm
  have e1 : (encs enc l)[i.toNat * sz + k]? = (enc x)[k]? := by
    have h2 : (encs enc l)[i.toNat * sz + k]? = ((encs enc l).drop (i.toNat * sz))[k]? := by rw [List.getElem?_drop]
    rw [h2, encs_drop henc l i.toNat, List.drop_eq_getElem_cons lm, encs_cons']
    have e4 : l[i.toNat] = x := by rw [List.getElem?_eq_getElem lm] at i1; injection i1
    rw [e4, List.getElem?_append_left (by rw [henc]; exact hkz)]
  simp only [rowAmb, Option.isSome_none, Bool.false_eq_true, if_false]
  rw [if_neg (fun e => hb e.symm), if_true, if_pos (by omega), List.getElem?_map, e1, hk]
  rfl
theorem rd_box {γ : Type} {n b g cap : Nat} {e T : TypeId} {sz : Nat} {enc : γ → List TV} {l : List γ} : (rowAmb n b g cap e T sz enc l).rd ⟨b, 0, none⟩ = some (.slice (some ⟨g, 0, none⟩) n cap) := by
  simp [rowAmb]
theorem addr0 {g m : Nat} : ((⟨g, 0, none⟩ : Addr).add m) = ⟨g, m, none⟩ := by
  unfold Addr.add
  split
  · rename_i h; subst h; rfl
  · simp
theorem gi_lt {α : Type} {l : List α} {i : Int} {x : α} (h : gi l i = some x) : 0 ≤ i ∧ i < l.length := by
  obtain ⟨i0, i1⟩ := gi_eq_some' h
  have lm := (List.getElem?_eq_some_iff.1 i1).1
  exact ⟨i0, by omega⟩
end Go.TI
