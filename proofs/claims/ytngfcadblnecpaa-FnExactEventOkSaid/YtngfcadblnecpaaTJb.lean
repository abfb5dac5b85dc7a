/- An interpreter of loaded Go code on trees, for every program: a call is sound. No condition; no program is in sight. -/
import Derived.Test.YtngfcadblnecpaaTJa
namespace Go.TI
open Go Go.RowKit
set_option linter.unusedSimpArgs false
set_option linter.unusedVariables false

section
variable {w0 : World} {FA UA : List Nat} {N : Nat} {w : World} {a : Act} {E : St} {blk : Root → Nat} {FS US : Root → List Nat} {P : Program}

/-- A Go function with a body. -/
def goFn (P : Program) (f : FuncId) : Prop := ∃ fn, P.funcs[f]? = some fn ∧ fn.name ≠ "runtime.NumGoroutine" ∧ fn.body.isNone = false

theorem run_call_fn {o : Oper} {f : FuncId} {args : Array Operand} {tys : Array TypeId} (ho : o.op = .call { callee := .value (.func f), args := args, argTypes := tys }) (hf : goFn P f) :
    (execOp a.eval o).run P w = .ok (.enter f (args.map a.eval)) w := by
  obtain ⟨fn, h1, h2, h3⟩ := hf
  have h4 : fn.body ≠ none := by intro e; simp [e] at h3
  simp [execOp, ho, resolve, Deferred.ofValue, invoke, callFunc, Act.eval, h1, h2, h4]

theorem argsR_gone {w : World} : ∀ {n : Nat} {vs : List Value} {F U : List Nat}, argsR w (List.replicate n .gone) vs F U → F = [] ∧ U = []
  | 0, vs, F, U, h => by
    simp only [List.replicate, argsR] at h
    exact ⟨h.2.1, h.2.2⟩
  | n + 1, vs, F, U, h => by
    simp only [List.replicate, argsR] at h
    obtain ⟨v, vs', F1, F2, U1, U2, rfl, rfl, rfl, h1, h2⟩ := h
    obtain ⟨rfl, rfl⟩ := h1
    obtain ⟨rfl, rfl⟩ := argsR_gone h2
    exact ⟨rfl, rfl⟩

variable (P) in
/-- A call whose arguments are moved or shared. -/
def effCall (E : St) (d : Option Nat) (l : List (Bool × TypeId × Operand)) (as : List AV) (res : SV) (E' : St) : Prop :=
  ∃ ss E1 c, mvArgs P E l = some (ss, E1) ∧ shArgs P E1 l ss = some (as, c) ∧ (c = true ∨ svShared res = false) ∧ E' = E1.put d res

/-- The hand let go. -/
theorem Rel.drop (h : Rel w0 FA UA N w a E blk FS US) {w' : World}
    (hsize : w.heap.size ≤ w'.heap.size) (hos : w'.os = w.os) (htape : w'.tape = w.tape) (hout : w'.output = w.output)
    (hkeep : ∀ b, b < w.heap.size → b ∉ FS .hand → w'.heap[b]? = w.heap[b]?) :
    ∃ FS' US', Rel w0 FA UA N w' a E blk FS' US' ∧ FS' .hand = [] ∧ US' .hand = [] := by
  have hst : ∀ r, Steady w w' a a E E blk blk r := by
    intro r
    by_cases hh : r = .hand
    · subst hh
      exact steady_none rfl rfl (by simp [St.root, h.nohand])
    · exact steady_other h rfl rfl rfl (fun _ _ => rfl) (fun _ => rfl)
        (fun b hb => hkeep b (h.inF r b hb).2 (h.dis r .hand hh b hb)) (fun b hb => hkeep b (h.inU r b hb).2 (fun e => h.disU .hand r b e hb))
  have h1 := h.two (w' := w') (a' := a) (E' := E) (blk' := blk) (r1 := .slot 0) (r2 := .hand) (L1 := FS (.slot 0)) (L2 := []) (V1 := US (.slot 0)) (V2 := []) (by simp)
    (by simpa using h.nodup _)
    (fun b hb => ⟨.inl (by simpa using hb), Nat.lt_of_lt_of_le (h.inF (.slot 0) b (by simpa using hb)).2 hsize⟩)
    (fun b hb => .inl ⟨.slot 0, by simpa using hb⟩)
    hsize hos htape hout (fun b hb _ hb2 => hkeep b hb hb2) hst
    (fun _ _ _ => ⟨rfl, rfl⟩) (fun _ _ _ _ => ⟨rfl, rfl⟩)
    (rootOk_step hst (h.root (.slot 0)) (fun _ _ => ⟨rfl, rfl⟩) (fun hm => by cases hm)
      (fun b hb => hkeep b (h.inF _ b hb).2 (h.dis _ .hand (by simp) b hb)) (fun b hb => hkeep b (h.inU _ b hb).2 (fun e => h.disU .hand _ b e hb)))
    trivial h.nohand h.len h.nodef
  exact ⟨_, _, h1, by rw [upd_eq], by rw [upd_eq]⟩

theorem call_step (h : Rel w0 FA UA N w a E blk FS US) (hF : FS .hand = []) (hU : US .hand = []) {o : Oper} {f : FuncId} {args : Array Operand} {tys : Array TypeId} (ho : o.op = .call { callee := .value (.func f), args := args, argTypes := tys }) (hf : goFn P f)
    (hN : ∀ d, o.dst = some d → d < N) {l : List (Bool × TypeId × Operand)} (hl : l.map (fun x => x.2.2) = args.toList) {as : List AV} {res : SV} {n : Nat} (hg : Gives P f as res (List.replicate n .gone)) {E' : St} (he : effCall P E o.dst l as res E')
    {K : Act → World → Prop} {Q : Exit → Act → World → Prop} (hK : ∀ w' v blk' FS' US', Rel w0 FA UA N w' (a.put o.dst v) E' blk' FS' US' → FS' .hand = [] → US' .hand = [] → K (a.put o.dst v) w') : o.wp P a w K Q := by
  obtain ⟨ss, E1, c, h1, h2, h3, rfl⟩ := he
  obtain ⟨FS1, US1, F, U, k1, k2, k3, k4, _⟩ := mvArgs_rel h h1
  rw [hF, List.nil_append] at k3
  rw [hU, List.nil_append] at k4
  obtain ⟨U', k5, k6⟩ := shArgs_rel k2 k1 h2
  have hvs : l.map (fun x => a.eval x.2.2) = (args.map a.eval).toList := by
    rw [Array.toList_map, ← hl, List.map_map]
    rfl
  rw [hvs] at k5
  have hdisj : ∀ b ∈ F, b ∉ U' := by
    intro b hb hb'
    rw [← k3] at hb
    rcases k6 b hb' with h4 | ⟨r, h4⟩ | ⟨_, r, h5, h4⟩
    · rw [← k4] at h4
      exact k2.disU .hand .hand b hb h4
    · exact k2.disU .hand r b hb h4
    · exact k2.dis .hand r (Ne.symm h5) b hb h4
  have hcall := hg w _ F U' k5 (by rw [← k3]; exact k2.nodup .hand) hdisj (by
    intro b hb
    rcases List.mem_append.1 hb with hb | hb
    · exact (k2.inF .hand b (by rw [k3]; exact hb)).2
    · rcases k6 b hb with h4 | ⟨r, h4⟩ | ⟨_, r, h5, h4⟩
      · exact (k2.inU .hand b (by rw [k4]; exact h4)).2
      · exact (k2.inU r b h4).2
      · exact (k2.inF r b h4).2)
  unfold Oper.wp
  rw [run_call_fn ho hf]
  simp only [Oper.upon]
  rw [Array.toArray_toList] at hcall
  refine Calls.mono hcall ?_
  rintro e w' ⟨v, Fr, Ur, G, V, rfl, hleft⟩
  obtain ⟨rfl, rfl⟩ := argsR_gone hleft.fin
  have hin : ∀ b ∈ Fr, (b ∈ FS1 .hand ∨ w.heap.size ≤ b) ∧ b < w'.heap.size := by
    intro b hb
    have := hleft.inF b (by simpa using hb)
    rw [k3]
    exact this
  have hinU : ∀ b ∈ Ur, (∃ s, b ∈ US1 s) ∨ ((b ∈ FS1 .hand ∨ w.heap.size ≤ b) ∧ b ∉ Fr ∧ b < w'.heap.size) := by
    intro b hb
    obtain ⟨h4, h5⟩ := hleft.inU b (by simpa using hb)
    have hnot : b ∉ Fr := fun e => hleft.dis b (by simpa using e) (by simpa using hb)
    rcases h4 with h4 | h4 | h4
    · rcases k6 b h4 with h6 | h6 | ⟨h6, r, h7, h8⟩
      · exact .inl ⟨.hand, by rw [k4]; exact h6⟩
      · exact .inl h6
      · rcases h3 with h3 | h3
        · rw [h3] at h6; cases h6
        · have := svR_noshare hleft.res h3
          subst this
          cases hb
    · exact .inr ⟨.inl (by rw [k3]; exact h4), hnot, h5⟩
    · exact .inr ⟨.inr h4, hnot, h5⟩
  have hkeep : ∀ b, b < w.heap.size → b ∉ FS1 .hand → w'.heap[b]? = w.heap[b]? := fun b hb hb2 => hleft.keep b hb (by rw [← k3]; exact hb2)
  cases hd : o.dst with
  | some d =>
    obtain ⟨FS', US', g1, g2, g3⟩ := k2.land (w' := w') (d := d) (s := res) (v := v) (F := Fr) (U := Ur) (hN d hd) (svX_of_svR hleft.res) (by simpa using hleft.nodup) hin hinU hleft.size hleft.os hleft.tape hleft.output hkeep
    have := hK w' v blk FS' US' (by rw [hd]; exact g1) g2 g3
    rw [hd] at this
    exact this
  | none =>
    obtain ⟨FS', US', g1, g2, g3⟩ := k2.drop (w' := w') hleft.size hleft.os hleft.tape hleft.output hkeep
    have := hK w' v blk FS' US' (by rw [hd]; exact g1) g2 g3
    rw [hd] at this
    exact this
end
end Go.TI
