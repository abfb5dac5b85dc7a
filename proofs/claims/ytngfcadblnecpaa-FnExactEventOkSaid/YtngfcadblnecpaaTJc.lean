/- An interpreter of loaded Go code on trees, for every program: rules for code. No condition; no program is in sight. -/
import Derived.Test.YtngfcadblnecpaaTJb
import Derived.LoopN
namespace Go.TI
open Go Go.RowKit
set_option linter.unusedSimpArgs false
set_option linter.unusedVariables false

/-- What holds behind a piece of code. -/
def Post (w0 : World) (FA UA : List Nat) (N : Nat) (Q : Exit → St → Prop) : Exit → Act → World → Prop :=
  fun e a w => ∃ E blk FS US, Q e E ∧ Rel w0 FA UA N w a E blk FS US ∧ FS .hand = [] ∧ US .hand = []

/-- From a frame that stands as E says, the code leads where Q holds. -/
def Wp (P : Program) (N : Nat) (c : Code) (E : St) (Q : Exit → St → Prop) : Prop :=
  ∀ (w0 : World) (FA UA : List Nat) (w : World) (a : Act) (blk : Root → Nat) (FS US : Root → List Nat), Rel w0 FA UA N w a E blk FS US → FS .hand = [] → US .hand = [] → c.wp P (Post w0 FA UA N Q) a w

/-- The like for the rest of a region. -/
def LWp (P : Program) (N : Nat) (ops : Array Oper) (l : List Oper) (E : St) (Q : Exit → St → Prop) : Prop :=
  ∀ (w0 : World) (FA UA : List Nat) (w : World) (a : Act) (blk : Root → Nat) (FS US : Root → List Nat), Rel w0 FA UA N w a E blk FS US → FS .hand = [] → US .hand = [] → wpList P ops (Post w0 FA UA N Q) l a w

def thenQ (next : St → Prop) (Q : Exit → St → Prop) : Exit → St → Prop
  | .normal, E => next E
  | e, E => Q e E
def blockQ (id : Nat) (Q : Exit → St → Prop) : Exit → St → Prop
  | .exit id', E => if id' = id then Q .normal E else Q (.exit id') E
  | e, E => Q e E

/-- An operation that is no call of a Go function. mv: an assignment moves. -/
def stepOp (P : Program) (N : Nat) (mv : Bool) (E : St) (o : Oper) : Option St := match o.dst with
  | none => match o.op with
    | .store t ad x => effStore P E t ad x
    | _ => (pureOp P E o).map fun _ => E
  | some d => if d < N then (match o.op with
    | .box t x => effBox P E d t x
    | .alloc t => effAlloc P E d t
    | .makeSlice t l c => effMake P E d t l c
    | .buildSlice t len parts => effBuildSlice P E d t len parts.toList
    | .extract t ix => effExtract E d t ix
    | .build t parts => (buildOp P E t parts.toList).map fun s => E.put (some d) s
    | .call c => match c.callee, c.args.toList, c.argTypes.toList with
      | .builtin .append, [s, x], [t, t'] => if t = t' then effAppend P E d t s x else none
      | _, _, _ => (pureOp P E o).map fun s => E.put (some d) s
    | .assign _ => if mv = true then (match o.op with | .assign x => effAssign P E d o.type x | _ => none) else (pureOp P E o).map fun s => E.put (some d) s
    | .move _ => if mv = true then (match o.op with | .move x => effAssign P E d o.type x | _ => none) else (pureOp P E o).map fun s => E.put (some d) s
    | _ => (pureOp P E o).map fun s => E.put (some d) s) else none

section
variable {w0 : World} {FA UA : List Nat} {N : Nat} {w : World} {a : Act} {E : St} {blk : Root → Nat} {FS US : Root → List Nat} {P : Program}

theorem Done.pure (h : Rel w0 FA UA N w a E blk FS US) (hF : FS .hand = []) (hU : US .hand = []) {o : Oper} {d : Nat} {s : SV} (hp : PureOk P w a E blk FS US o s) (hd : o.dst = some d) (hN : d < N) : Done P w0 FA UA N w a o (E.put (some d) s) := by
  obtain ⟨v, U, h1, h2, h3⟩ := hp
  refine ⟨.value v, w, v, blk, upd FS (.slot d) [], upd US (.slot d) U, h1 w (fun r _ => ⟨fun _ _ => rfl, fun _ _ => rfl⟩), .inl rfl, ?_, ?_, ?_⟩
  · rw [hd]
    exact h.put hN h2 (fits_copy h h3 _)
  · rw [upd_ne (by simp), hF]
  · rw [upd_ne (by simp), hU]

theorem Done.pureNone (h : Rel w0 FA UA N w a E blk FS US) (hF : FS .hand = []) (hU : US .hand = []) {o : Oper} {s : SV} (hp : PureOk P w a E blk FS US o s) (hd : o.dst = none) : Done P w0 FA UA N w a o E := by
  obtain ⟨v, U, h1, h2, h3⟩ := hp
  refine ⟨.value v, w, v, blk, FS, US, h1 w (fun r _ => ⟨fun _ _ => rfl, fun _ _ => rfl⟩), .inl rfl, ?_, hF, hU⟩
  rw [hd]
  exact h

theorem stepOp_done (h : Rel w0 FA UA N w a E blk FS US) (hF : FS .hand = []) (hU : US .hand = []) {mv : Bool} {o : Oper} {E' : St} (hs : stepOp P N mv E o = some E') : Done P w0 FA UA N w a o E' := by
  have pr : ∀ {s : SV}, pureOp P E o = some s → PureOk P w a E blk FS US o s := fun hp => pure_sound h hp
  unfold stepOp at hs
  split at hs
  · rename_i hd
    split at hs
    · rename_i ho
      exact Done.store h hF hU ho hd hs
    · obtain ⟨s, h1, rfl⟩ := Option.map_eq_some_iff.1 hs
      exact Done.pureNone h hF hU (pr h1) hd
  · rename_i d hd
    split at hs
    · rename_i hN
      split at hs
      · rename_i ho; exact Done.box h hF hU ho hd hN hs
      · rename_i ho; exact Done.alloc h hF hU ho hd hN hs
      · rename_i ho; exact Done.make h hF hU ho hd hN hs
      · rename_i ho; exact Done.buildSlice h hF hU ho hd hN hs
      · rename_i ho; exact Done.extract h hF hU ho hd hN hs
      · rename_i ho
        obtain ⟨s, h1, rfl⟩ := Option.map_eq_some_iff.1 hs
        exact Done.pure h hF hU (ok_build h ho h1) hd hN
      · rename_i c ho
        split at hs
        · rename_i s x t t' hc ha ht
          split at hs
          · rename_i htt
            subst htt
            obtain ⟨callee, args, types⟩ := c
            simp only at hc ha ht
            subst hc
            obtain rfl : args = #[s, x] := by cases args; simp_all
            obtain rfl : types = #[t, t] := by cases types; simp_all
            exact Done.append h hF hU ho hd hN hs
          · cases hs
        · obtain ⟨s, h1, rfl⟩ := Option.map_eq_some_iff.1 hs
          exact Done.pure h hF hU (pr h1) hd hN
      · rename_i x ho
        split at hs
        · simp only [ho] at hs
          exact Done.assign h hF hU (.inl ho) hd hN hs
        · obtain ⟨s, h1, rfl⟩ := Option.map_eq_some_iff.1 hs
          exact Done.pure h hF hU (pr h1) hd hN
      · rename_i x ho
        split at hs
        · simp only [ho] at hs
          exact Done.assign h hF hU (.inr ho) hd hN hs
        · obtain ⟨s, h1, rfl⟩ := Option.map_eq_some_iff.1 hs
          exact Done.pure h hF hU (pr h1) hd hN
      · obtain ⟨s, h1, rfl⟩ := Option.map_eq_some_iff.1 hs
        exact Done.pure h hF hU (pr h1) hd hN
    · cases hs

theorem Done.wp {o : Oper} {E' : St} (hd : Done P w0 FA UA N w a o E') {K : Act → World → Prop} {Q : Exit → Act → World → Prop}
    (hK : ∀ w' v blk' FS' US', Rel w0 FA UA N w' (a.put o.dst v) E' blk' FS' US' → FS' .hand = [] → US' .hand = [] → K (a.put o.dst v) w') : o.wp P a w K Q := by
  obtain ⟨nx, w', v, blk', FS', US', h1, h2, h3, h4, h5⟩ := hd
  unfold Oper.wp
  rw [h1]
  rcases h2 with rfl | ⟨rfl, rfl⟩
  · exact hK w' v blk' FS' US' h3 h4 h5
  · exact hK w' _ blk' FS' US' h3 h4 h5
end

/-- Is an operation's guard open? none: it cannot be told. -/
def guardOpen (P : Program) (ops : Array Oper) (E : St) (o : Oper) : Option Bool := match o.guard with
  | none => some true
  | some (g, want) => match (ops[g]?).bind (·.dst) with
    | some t => match E.slots t with
      | .tup _ => some false
      | _ => match E.cell1 P 0 (.tmp t) with
        | some (.bool b) => some (b == want)
        | _ => none
    | none => none

section
variable {w0 : World} {FA UA : List Nat} {N : Nat} {w : World} {a : Act} {E : St} {blk : Root → Nat} {FS US : Root → List Nat} {P : Program}

theorem guard_rel (h : Rel w0 FA UA N w a E blk FS US) {ops : Array Oper} {o : Oper} {b : Bool} (hg : guardOpen P ops E o = some b) : Region.wanted o (yielded ops a.tmps) = b := by
  unfold guardOpen at hg
  unfold Region.wanted
  split at hg
  · rename_i hn
    injection hg with hg
    subst hg
    rw [hn]
  · rename_i g want hs
    split at hg
    · rename_i t ht
      split at hg
      · rename_i ts hts
        injection hg with hg
        subst hg
        have h1 := h.slot t
        rw [hts] at h1
        simp only [svX] at h1
        obtain ⟨vs, h1, _⟩ := h1
        have hy : yielded ops a.tmps g = none := by
          unfold yielded
          rw [ht]
          simp only [Act.eval, Array.getD_eq_getD_getElem?] at h1
          simp only [Option.bind_some]
          cases hx : a.tmps[t]? with
          | none => rfl
          | some u =>
            rw [hx] at h1
            simp only [Option.getD_some] at h1
            rw [h1]
        rw [hs]
        simp only [hy]
        rfl
      · split at hg
        · rename_i b' hb
          injection hg with hg
          subst hg
          have hev := cell1_bool h hb
          have hy : yielded ops a.tmps g = some b' := by
            unfold yielded
            rw [ht]
            simp only [Act.eval, Array.getD_eq_getD_getElem?] at hev
            simp only [Option.bind_some]
            cases hx : a.tmps[t]? with
            | none => rw [hx] at hev; simp [undef] at hev
            | some u =>
              rw [hx] at hev
              simp only [Option.getD_some] at hev
              rw [hev]
          rw [hs]
          simp only [hy]
          cases b' <;> cases want <;> rfl
        · cases hg
    · cases hg

theorem LWp.nil {ops : Array Oper} {Q : Exit → St → Prop} (h : Q .normal E) : LWp P N ops [] E Q :=
  fun w0 FA UA w a blk FS US hr hF hU => ⟨E, blk, FS, US, h, hr, hF, hU⟩

theorem LWp.op {ops : Array Oper} {Q : Exit → St → Prop} {o : Oper} {rest : List Oper} (mv : Bool) {E' : St} (hg : guardOpen P ops E o = some true) (hs : stepOp P N mv E o = some E') (h : LWp P N ops rest E' Q) : LWp P N ops (o :: rest) E Q := by
  intro w0 FA UA w a blk FS US hr hF hU
  simp only [wpList, guard_rel hr hg, if_true]
  exact .inl ((stepOp_done hr hF hU hs).wp fun w' v blk' FS' US' k1 k2 k3 => h _ _ _ _ _ _ _ _ k1 k2 k3)

theorem LWp.shut {ops : Array Oper} {Q : Exit → St → Prop} {o : Oper} {rest : List Oper} {d : Nat} (hd : o.dst = some d) (hN : d < N) (hg : guardOpen P ops E o = some false) (h : LWp P N ops rest (E.put (some d) (.tup [])) Q) : LWp P N ops (o :: rest) E Q := by
  intro w0 FA UA w a blk FS US hr hF hU
  simp only [wpList, guard_rel hr hg]
  rw [if_neg (by simp), hd]
  refine h _ _ _ _ _ _ _ _ (hr.put (F := []) (U := []) hN (by simp only [svX]; exact ⟨[], rfl, by simp [tupX]⟩) Fits.none) ?_ ?_
  · rw [upd_ne (by simp), hF]
  · rw [upd_ne (by simp), hU]

theorem LWp.call {ops : Array Oper} {Q : Exit → St → Prop} {o : Oper} {rest : List Oper} {f : FuncId} {args : Array Operand} {tys : Array TypeId} (ho : o.op = .call { callee := .value (.func f), args := args, argTypes := tys }) (hf : goFn P f)
    (hg : guardOpen P ops E o = some true) (hN : ∀ d, o.dst = some d → d < N) (l : List (Bool × TypeId × Operand)) (hl : l.map (fun x => x.2.2) = args.toList) {as : List AV} {res : SV} {n : Nat} (hgv : Gives P f as res (List.replicate n .gone)) {E' : St} (he : effCall P E o.dst l as res E')
    (h : LWp P N ops rest E' Q) : LWp P N ops (o :: rest) E Q := by
  intro w0 FA UA w a blk FS US hr hF hU
  simp only [wpList, guard_rel hr hg, if_true]
  exact .inl (call_step hr hF hU ho hf hN hl hgv he fun w' v blk' FS' US' k1 k2 k3 => h _ _ _ _ _ _ _ _ k1 k2 k3)

theorem Wp.region {id : Nat} {l : List Oper} {Q : Exit → St → Prop} (h : LWp P N l.toArray l E Q) : Wp P N (.region id l.toArray false) E Q :=
  fun w0 FA UA w a blk FS US hr hF hU => wp_region_lit (h _ _ _ _ _ _ _ _ hr hF hU)

theorem Wp.skip {Q : Exit → St → Prop} (h : Q .normal E) : Wp P N .skip E Q :=
  fun w0 FA UA w a blk FS US hr hF hU => wp_skip ⟨E, blk, FS, US, h, hr, hF, hU⟩
theorem Wp.ret {Q : Exit → St → Prop} (h : Q .ret E) : Wp P N .ret E Q :=
  fun w0 FA UA w a blk FS US hr hF hU => wp_ret ⟨E, blk, FS, US, h, hr, hF, hU⟩
theorem Wp.exit {id : Nat} {Q : Exit → St → Prop} (h : Q (.exit id) E) : Wp P N (.exit id) E Q :=
  fun w0 FA UA w a blk FS US hr hF hU => wp_exit ⟨E, blk, FS, US, h, hr, hF, hU⟩
theorem Wp.seq {x y : Code} {Q : Exit → St → Prop} (h : Wp P N x E (thenQ (fun E' => Wp P N y E' Q) Q)) : Wp P N (.seq x y) E Q :=
  fun w0 FA UA w a blk FS US hr hF hU => wp_seq (wp_mono (h _ _ _ _ _ _ _ _ hr hF hU) fun e a w hq => by
    obtain ⟨E', blk', FS', US', h1, h2, h3, h4⟩ := hq
    cases e <;> first | exact ⟨E', blk', FS', US', h1, h2, h3, h4⟩ | exact h1 _ _ _ _ _ _ _ _ h2 h3 h4)
theorem Wp.block {id : Nat} {c : Code} {Q : Exit → St → Prop} (h : Wp P N c E (blockQ id Q)) : Wp P N (.block id c) E Q :=
  fun w0 FA UA w a blk FS US hr hF hU => wp_block (wp_mono (h _ _ _ _ _ _ _ _ hr hF hU) fun e a w hq => by
    obtain ⟨E', blk', FS', US', h1, h2, h3, h4⟩ := hq
    cases e <;> first
      | exact ⟨E', blk', FS', US', h1, h2, h3, h4⟩
      | (simp only [Exit.inBlock]
         simp only [blockQ] at h1
         split <;> rename_i hid
         · rw [if_pos hid] at h1; exact ⟨E', blk', FS', US', h1, h2, h3, h4⟩
         · rw [if_neg hid] at h1; exact ⟨E', blk', FS', US', h1, h2, h3, h4⟩))
theorem Wp.cond {c : Operand} {x y : Code} {b : Bool} {Q : Exit → St → Prop} (hc : E.cell1 P 0 c = some (.bool b)) (ht : b = true → Wp P N x E Q) (hf : b = false → Wp P N y E Q) : Wp P N (.cond c x y) E Q :=
  fun w0 FA UA w a blk FS US hr hF hU => wp_cond_split (cell1_bool hr hc) (fun e => ht e _ _ _ _ _ _ _ _ hr hF hU) (fun e => hf e _ _ _ _ _ _ _ _ hr hF hU)
theorem Wp.mono {c : Code} {Q Q' : Exit → St → Prop} (h : Wp P N c E Q) (hq : ∀ e E, Q e E → Q' e E) : Wp P N c E Q' :=
  fun w0 FA UA w a blk FS US hr hF hU => wp_mono (h _ _ _ _ _ _ _ _ hr hF hU) fun e a w ⟨E', blk', FS', US', h1, h2, h3, h4⟩ => ⟨E', blk', FS', US', hq _ _ h1, h2, h3, h4⟩

/-- n rounds of a loop are enough. -/
def Rounds (P : Program) (N : Nat) (c : Code) (Q : Exit → St → Prop) : Nat → St → Prop
  | 0, _ => False
  | n + 1, E => Wp P N c E (thenQ (Rounds P N c Q n) Q)

theorem rounds_of {c : Code} {Q : Exit → St → Prop} : ∀ {n : Nat} {E : St}, Rounds P N c Q n E → ∀ {w0 : World} {FA UA : List Nat} {w : World} {a : Act} {blk : Root → Nat} {FS US : Root → List Nat}, Rel w0 FA UA N w a E blk FS US → FS .hand = [] → US .hand = [] → Code.rounds P c (Post w0 FA UA N Q) n a w
  | 0, E, h, _, _, _, _, _, _, _, _, _, _, _ => h.elim
  | n + 1, E, h, w0, FA, UA, w, a, blk, FS, US, hr, hF, hU => by
    rw [rounds_succ]
    refine wp_mono (h _ _ _ _ _ _ _ _ hr hF hU) fun e a w hq => ?_
    obtain ⟨E', blk', FS', US', h1, h2, h3, h4⟩ := hq
    cases e <;> first | exact ⟨E', blk', FS', US', h1, h2, h3, h4⟩ | exact rounds_of h1 h2 h3 h4

theorem Wp.loop {c : Code} {Q : Exit → St → Prop} (n : Nat) (h : Rounds P N c Q n E) : Wp P N (.loop c) E Q :=
  fun w0 FA UA w a blk FS US hr hF hU => wp_loop_rounds n (rounds_of h hr hF hU)
end
end Go.TI
