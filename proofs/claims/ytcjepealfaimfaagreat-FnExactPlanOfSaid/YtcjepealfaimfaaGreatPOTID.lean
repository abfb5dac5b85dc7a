/- A value that a claim's reading opens is a tree that is only read. No condition; no program is in sight. -/
import Derived.Test.YtcjepealfaimfaaGreatPOTIC
import Derived.Deep.Slices
import Derived.ChangeOld
import Derived.DataReads
namespace Go.TI
open Go Go.RowKit
set_option linter.unusedSimpArgs false
set_option linter.unusedVariables false
def Opens (P : Program) (t : TypeId) {α : Type} (c : α → List TV) (o : α → Prop) : Prop :=
  ∀ {H : Type} (enc : TypeId × Value → H) (w : World) (base : Nat) (fuel : Nat) (cs : List Value) (x : DataW H × List MemPlace), DataW.trod enc P w base (fun _ => true) true fuel t cs = some x →
    ∃ a U, o a ∧ reps w (c a) cs [] U ∧ ∀ b ∈ U, b < w.heap.size
section
variable {P : Program}
theorem reps_one_mk {w : World} {t : TV} {v : Value} {F U : List Nat} (h : rep w t v F U) : reps w [t] [v] F U := by
  simp only [reps]
  exact ⟨v, [], F, [], U, [], rfl, by simp, by simp, h, rfl, rfl, rfl⟩
theorem opens_int {t : TypeId} {k : IntKind} (ht : P.underlying t = some (.int k)) : Opens P t (fun n : Int => [.int k n]) (fun n => k.min ≤ n ∧ n ≤ k.max) := by
  intro H enc w base fuel cs x h
  cases fuel with
  | zero => simp [DataW.trod] at h
  | succ fuel =>
    simp only [DataW.trod, ht] at h
    split at h <;> rename_i h1 <;> try (first | (injection h1 with h1; cases h1; done) | (cases h1; done))
    all_goals first | (cases h; done) | skip
    rename_i k' n
    split at h
    · rename_i hk
      simp only [Option.some.injEq, TypeDesc.int.injEq] at h1
      subst h1
      obtain ⟨rfl, hw⟩ := hk
      simp only [Lit.wf, Bool.and_eq_true, decide_eq_true_eq] at hw
      exact ⟨n, [], hw, reps_one_mk (by simp [rep]), by simp⟩
    · cases h
theorem opens_bool {t : TypeId} (ht : P.underlying t = some .bool) : Opens P t (fun b : Bool => [.bool b]) (fun _ => True) := by
  intro H enc w base fuel cs x h
  cases fuel with
  | zero => simp [DataW.trod] at h
  | succ fuel =>
    simp only [DataW.trod, ht] at h
    split at h <;> rename_i h1 <;> try (first | (injection h1 with h1; cases h1; done) | (cases h1; done))
    all_goals first | (cases h; done) | skip
    rename_i b
    exact ⟨b, [], trivial, reps_one_mk (by simp [rep]), by simp⟩
theorem opens_string {t : TypeId} (ht : P.underlying t = some .string) : Opens P t (fun s : ByteArray => [.str s]) (fun s => s.size ≤ 9223372036854775807) := by
  intro H enc w base fuel cs x h
  cases fuel with
  | zero => simp [DataW.trod] at h
  | succ fuel =>
    simp only [DataW.trod, ht] at h
    split at h <;> rename_i h1 <;> try (first | (injection h1 with h1; cases h1; done) | (cases h1; done))
    all_goals first | (cases h; done) | skip
    rename_i s
    split at h
    · rename_i hs
      exact ⟨s, [], by simpa [maxLen] using hs, reps_one_mk (by simp [rep]), by simp⟩
    · cases h
theorem opens_slice {t e : TypeId} {sz : Nat} {α : Type} {c : α → List TV} {o : α → Prop} (ht : P.underlying t = some (.slice e)) (hsz : P.cellsOf e = sz) (h0 : 0 < sz) (hc : ∀ a, (c a).length = sz) (h : Opens P e c o) :
    Opens P t (fun l : List α => [.sl false e sz (encs c l)]) (fun l => l.length ≤ 9223372036854775807 ∧ ∀ a ∈ l, o a) := by
  intro H enc w base fuel cs x hx
  rcases Go.Deep.open_slice ht hx with ⟨rfl, _⟩ | ⟨a, len, cap, m, n, D, Pl, rfl, hb, hlc, hcm, hm, _, hel⟩
  · refine ⟨[], [], ⟨by simp, by simp⟩, reps_one_mk ?_, by simp⟩
    simp only [rep]
    exact ⟨none, 0, 0, [], [], [], rfl, Nat.le_refl _, by simp, fun i u hi => by simp at hi, by simp [encs, reps], by simp, by simp, by simp⟩
  · simp only [if_true] at hm
    have key : ∀ k, k ≤ len → ∃ (l : List α) (vs : List Value) (U : List Nat), l.length = k ∧ (∀ a ∈ l, o a) ∧ vs.length = k * sz ∧ reps w (encs c l) vs [] U ∧ (∀ i u, vs[i]? = some u → w.cell? (a.add i) = some u) ∧ ∀ b ∈ U, b < w.heap.size := by
      intro k
      induction k with
      | zero => intro _; exact ⟨[], [], [], rfl, by simp, by simp, by simp [encs, reps], by simp, by simp⟩
      | succ k ih =>
        intro hk
        obtain ⟨l, vs, U, h1, h2, h3, h4, h5, h6⟩ := ih (by omega)
        obtain ⟨cs', k1, k2⟩ := hel k (by omega)
        obtain ⟨y, V, g1, g2, g3⟩ := h enc w base n cs' _ k2
        obtain ⟨_, k3, k4⟩ := World.cells?_some k1
        rw [hsz] at k1 k3 k4
        refine ⟨l ++ [y], vs ++ cs', U ++ V, by simp [h1], ?_, ?_, ?_, ?_, ?_⟩
        · intro a ha
          rcases List.mem_append.1 ha with ha | ha
          · exact h2 a ha
          · rw [List.mem_singleton.1 ha]; exact g1
        · rw [List.length_append, h3, k3, Nat.succ_mul]
        · rw [encs_append]
          have := reps_append h4 (show reps w (encs c [y]) cs' [] V by simpa [encs] using g2)
          simpa using this
        · intro i u hi
          by_cases hlt : i < vs.length
          · rw [List.getElem?_append_left hlt] at hi
            exact h5 i u hi
          · rw [List.getElem?_append_right (by omega)] at hi
            have hlt2 : i - vs.length < sz := by
              have := (List.getElem?_eq_some_iff.1 hi).1
              omega
            have := k4 (i - vs.length) hlt2
            rw [hi, TI.add_add] at this
            rw [← this]
            congr 2
            omega
        · intro b hb
          rcases List.mem_append.1 hb with hb | hb
          · exact h6 b hb
          · exact g3 b hb
    obtain ⟨l, vs, U, h1, h2, h3, h4, h5, h6⟩ := key len (Nat.le_refl _)
    have hlm : len ≤ 9223372036854775807 := by simp only [maxLen] at hcm; omega
    by_cases hl0 : len = 0
    · subst hl0
      have : vs = [] := List.eq_nil_of_length_eq_zero (by omega)
      subst this
      refine ⟨l, U, ⟨by omega, h2⟩, reps_one_mk ?_, h6⟩
      simp only [rep]
      exact ⟨some a, 0, cap, [], U, [], rfl, hlc, by simp, fun i u hi => by simp at hi, h4, by simp, by simp, by simp⟩
    · have hblk : a.block < w.heap.size := by
        obtain ⟨cs', k1, _⟩ := hel 0 (by omega)
        have := World.cells?_block k1 (by omega)
        rwa [add_block] at this
      refine ⟨l, a.block :: U, ⟨by omega, h2⟩, reps_one_mk ?_, ?_⟩
      · simp only [rep]
        exact ⟨some a, len, cap, vs, U, [a.block], rfl, hlc, h3, fun i u hi => ⟨a, len, cap, rfl, h5 i u hi⟩, h4, by simp, .inl (by simp [blkOf, Value.ownBlock]), by simp⟩
      · intro b hb
        rcases List.mem_cons.1 hb with rfl | hb
        · exact hblk
        · exact h6 b hb
def OpensF (P : Program) (off : Nat) (fs : List Field) {α : Type} (c : α → List TV) (o : α → Prop) : Prop :=
  ∀ {H : Type} (enc : TypeId × Value → H) (w : World) (base : Nat) (fuel : Nat) (cs : List Value) (xs : List (DataW H × List MemPlace)), fs.mapM (fun f => DataW.trod enc P w base (fun _ => true) true fuel f.type ((cs.drop f.offset).take (P.cellsOf f.type))) = some xs → cs.length = off + (fs.map fun f => P.cellsOf f.type).sum →
    ∃ a U, o a ∧ reps w (c a) (cs.drop off) [] U ∧ ∀ b ∈ U, b < w.heap.size
theorem opensF_nil {off : Nat} : OpensF P off [] (fun _ : Unit => []) (fun _ => True) := by
  intro H enc w base fuel cs xs _ hl
  refine ⟨(), [], trivial, ?_, by simp⟩
  rw [List.drop_eq_nil_of_le (by simp at hl; omega)]
  simp [reps]
theorem opensF_cons {off n : Nat} {f : Field} {fs : List Field} {α β : Type} {c : α → List TV} {o : α → Prop} {c' : β → List TV} {o' : β → Prop} (hoff : f.offset = off) (hn : P.cellsOf f.type = n) (h : Opens P f.type c o) (k : OpensF P (off + n) fs c' o') :
    OpensF P off (f :: fs) (fun x : α × β => c x.1 ++ c' x.2) (fun x => o x.1 ∧ o' x.2) := by
  intro H enc w base fuel cs xs hxs hl
  rw [List.mapM_cons] at hxs
  obtain ⟨y, h1, hxs⟩ := Option.bind_eq_some_iff.1 hxs
  obtain ⟨ys, h2, hxs⟩ := Option.bind_eq_some_iff.1 hxs
  subst hoff hn
  obtain ⟨a, U, h3, h4, h5⟩ := h enc w base fuel _ y h1
  obtain ⟨b, V, k1, k2, k3⟩ := k enc w base fuel cs ys h2 (by simp only [List.map_cons, List.sum_cons] at hl; omega)
  refine ⟨(a, b), U ++ V, ⟨h3, k1⟩, ?_, ?_⟩
  · have := reps_append h4 k2
    rw [List.nil_append] at this
    rwa [← List.drop_drop, List.take_append_drop] at this
  · intro z hz
    rcases List.mem_append.1 hz with hz | hz
    · exact h5 z hz
    · exact k3 z hz
theorem opens_struct {t : TypeId} {fs : Array Field} {α β : Type} {c : α → List TV} {o : α → Prop} {c' : β → List TV} {o' : β → Prop} (g : β → α) (ht : P.underlying t = some (.struct fs)) (hn : P.cellsOf t = (fs.toList.map fun f => P.cellsOf f.type).sum) (h : OpensF P 0 fs.toList c' o') (hg : ∀ b, o' b → o (g b) ∧ c (g b) = c' b) : Opens P t c o := by
  intro H enc w base fuel cs x hx
  cases fuel with
  | zero => simp [DataW.trod] at hx
  | succ fuel =>
    simp only [DataW.trod, ht] at hx
    split at hx
    · rename_i hl
      obtain ⟨xs, hxs, _⟩ := Option.map_eq_some_iff.1 hx
      obtain ⟨b, U, h1, h2, h3⟩ := h enc w base fuel cs xs hxs (by rw [hl, hn]; simp)
      obtain ⟨h4, h5⟩ := hg b h1
      exact ⟨g b, U, h4, by rw [h5]; simpa using h2, h3⟩
    · cases hx
theorem arg_agg {t : TypeId} {α : Type} {c : α → List TV} {o : α → Prop} {H : Type} {enc : TypeId × Value → H} {w : World} {v : Value} {cs : Array Value} {d : DataW H} {ps : List MemPlace} (h : Opens P t c o) (hv : v = .agg cs) (k : DataW.Trod enc P w 0 (fun _ => true) true t v d ps) :
    ∃ a U, o a ∧ svR w (.agg (c a)) v [] U ∧ ∀ b ∈ U, b < w.heap.size := by
  obtain ⟨n, hn⟩ := k
  obtain ⟨a, U, h1, h2, h3⟩ := h enc w 0 n _ _ hn
  subst hv
  refine ⟨a, U, h1, ?_, h3⟩
  simp only [svR]
  exact ⟨cs.toList, by simp, by simpa [Value.cells] using h2⟩
end
end Go.TI
namespace Go.TI
open Go Go.RowKit
set_option linter.unusedSimpArgs false
set_option linter.unusedVariables false
def St.without (E : St) (r : Root) : St := { E with boxes := upd E.boxes r none, ver := upd E.ver r (E.ver r + 1), gen := upd E.gen r (E.gen r + 1) }
section
variable {w0 : Base} {FA UA : List Nat} {N : Nat} {w : World} {a : Act} {E : St} {blk : Root → Nat} {FS US : Root → List Nat} {P : Program}
theorem without_root {r s : Root} (h : s ≠ r) : (E.without r).root s = E.root s := by
  cases s <;> simp [St.without, St.root, upd, h]
theorem Rel.without (h : Rel w0 FA UA N w a E blk FS US) (hF : FS .hand = []) (hU : US .hand = []) {r : Root} (hm : r.mem = true) :
    Rel w0 FA UA N w a (E.without r) blk (upd (upd FS r []) .hand (FS r)) (upd (upd US r []) .hand (US r)) := by
  have hne : r ≠ .hand := by rintro rfl; cases hm
  have hst : ∀ s, Steady w w a a E (E.without r) blk blk s := by
    intro s
    by_cases hs : s = r
    · subst hs
      exact ⟨.inl (by simp [St.without, upd]), .inl (by simp [St.without, upd])⟩
    · by_cases hh : s = .hand
      · subst hh
        exact steady_none (by simp [St.without, upd, hs]) (by simp [St.without, upd, hs]) (by simp [St.root, h.nohand])
      · exact steady_other h (by simp [St.without, upd, hs]) (by simp [St.without, upd, hs]) (without_root hs) (fun _ _ => rfl) (fun _ => rfl) (fun _ _ => rfl) (fun _ _ => rfl)
  refine h.two (r1 := r) (r2 := .hand) (L1 := []) (L2 := FS r) (V1 := []) (V2 := US r) hne (by simpa using h.nodup r) (fun b hb => ⟨.inl (by simpa using hb), (h.inF r b (by simpa using hb)).2⟩)
    (fun b hb => .inl ⟨r, by simpa using hb⟩) (Nat.le_refl _) rfl rfl rfl (fun _ _ _ _ => rfl) hst (fun n _ _ => ⟨rfl, rfl⟩) (fun s _ hs _ => ⟨by simp [St.without, upd, hs], rfl⟩) ?_ trivial ?_ h.len h.nodef
  · cases r with
    | slot n => cases hm
    | hand => cases hm
    | box n => exact .inl ⟨by simp [St.without, upd], rfl, rfl⟩
    | ext n => exact .inl ⟨by simp [St.without, upd], rfl, rfl⟩
  · simp [St.without, upd, Ne.symm hne, h.nohand]
theorem mvR_none : ∀ {l : List (Bool × TypeId × Operand)}, mvR w a l (List.replicate l.length none) [] []
  | [] => ⟨rfl, rfl⟩
  | _ :: l => mvR_none (l := l)
theorem call_ext (h : Rel w0 FA UA N w a E blk FS US) (hF : FS .hand = []) (hU : US .hand = []) {o : Oper} {f : FuncId} {args : Array Operand} {tys : Array TypeId} (ho : o.op = .call { callee := .value (.func f), args := args, argTypes := tys }) (hf : goFn P f)
    (hN : ∀ d, o.dst = some d → d < N) {x : Operand} {l : List (Bool × TypeId × Operand)} (hl : x :: l.map (fun x => x.2.2) = args.toList) {r : Root} (hm : r.mem = true) (hx : E.ptr? x = some (r, [], 0)) {cells cells' : List TV} (hc : E.boxes r = some cells) (hlen : cells'.length = cells.length)
    {as : List AV} {res : SV} {n : Nat} {c : Bool} (hsh : shArgs P (E.without r) l (List.replicate l.length none) = some (as, c)) (hcs : c = true ∨ svShared res = false ∧ hasShareds cells' = false)
    (hg : Gives P f (.ext cells :: as) res (.ext cells' :: List.replicate n .gone))
    {K : Act → World → Prop} {Q : Exit → Act → World → Prop} (hK : ∀ w' v blk' FS' US', Rel w0 FA UA N w' (a.put o.dst v) (((E.setRoot r cells').bump r).put o.dst res) blk' FS' US' → FS' .hand = [] → US' .hand = [] → K (a.put o.dst v) w') : o.wp P a w K Q := by
  have hne : r ≠ .hand := by rintro rfl; cases hm
  have k2 := h.without hF hU hm
  obtain ⟨U', k5, k6⟩ := shArgs_rel k2 mvR_none hsh
  have hbox : ∃ cur T F, w.heap[blk r]? = some (.cells cur T (0, 0)) ∧ reps w cells cur.toList F (US r) ∧ FS r = blk r :: F := by
    rcases h.box r hm with ⟨h1, _⟩ | ⟨cs, cur, T, F, h1, h2, h3, h4⟩
    · rw [hc] at h1; cases h1
    · rw [hc] at h1; injection h1 with h1; subst h1; exact ⟨cur, T, F, h2, h3, h4⟩
  obtain ⟨cur, T, F, b2, b3, b4⟩ := hbox
  obtain ⟨hpl, ad, hpa, hev⟩ := ptr_rel h hx
  have had : ad = ⟨blk r, 0, none⟩ := by
    cases r with
    | slot n => cases hm
    | hand => cases hm
    | box n => simp [pa, Addr.add] at hpa; exact hpa.symm
    | ext n => simp [pa, Addr.add] at hpa; exact hpa.symm
  subst had
  have hcne : cells ≠ [] := by
    rintro rfl
    cases r with
    | slot n => cases hm
    | hand => cases hm
    | box n => simp [St.place, St.root, hc, cont] at hpl
    | ext n => simp [St.place, St.root, hc, cont] at hpl
  have hvs : a.eval x :: l.map (fun x => a.eval x.2.2) = (args.map a.eval).toList := by
    rw [Array.toList_map, ← hl, List.map_cons, List.map_map]
    rfl
  have hargs : argsR w (.ext cells :: as) (args.map a.eval).toList (FS r ++ []) (US r ++ U') := by
    rw [← hvs]
    exact ⟨_, _, FS r, [], US r, U', rfl, rfl, rfl, ⟨blk r, cur, T, F, hev, b2, b3, b4, hcne⟩, k5⟩
  rw [List.append_nil] at hargs
  have hU1 : ∀ s b, b ∈ upd (upd US r []) .hand (US r) s → ∃ s', b ∈ US s' := by
    intro s b hb
    by_cases hs : s = .hand
    · subst hs; rw [upd_eq] at hb; exact ⟨r, hb⟩
    · rw [upd_ne hs] at hb
      by_cases hs2 : s = r
      · subst hs2; rw [upd_eq] at hb; cases hb
      · rw [upd_ne hs2] at hb; exact ⟨s, hb⟩
  have hF1 : ∀ s b, s ≠ .hand → b ∈ upd (upd FS r []) .hand (FS r) s → s ≠ r ∧ b ∈ FS s := by
    intro s b hs hb
    rw [upd_ne hs] at hb
    by_cases hs2 : s = r
    · subst hs2; rw [upd_eq] at hb; cases hb
    · rw [upd_ne hs2] at hb; exact ⟨hs2, hb⟩
  have k6' : ∀ b ∈ U', (∃ s, b ∈ US s) ∨ (c = false ∧ ∃ s, s ≠ r ∧ b ∈ FS s) := by
    intro b hb
    rcases k6 b hb with h4 | ⟨s, h4⟩ | ⟨h5, s, h6, h4⟩
    · cases h4
    · exact .inl (hU1 s b h4)
    · exact .inr ⟨h5, s, hF1 s b h6 h4⟩
  have hdisj : ∀ b ∈ FS r, b ∉ US r ++ U' := by
    intro b hb hb'
    rcases List.mem_append.1 hb' with hb' | hb'
    · exact h.disU r r b hb hb'
    · rcases k6' b hb' with ⟨s, h4⟩ | ⟨_, s, h5, h4⟩
      · exact h.disU r s b hb h4
      · exact h.dis r s (Ne.symm h5) b hb h4
  have hcall := hg w _ (FS r) (US r ++ U') hargs (h.nodup r) hdisj (by
    intro b hb
    rcases List.mem_append.1 hb with hb | hb
    · exact (h.inF r b hb).2
    · rcases List.mem_append.1 hb with hb | hb
      · exact (h.inU r b hb).2
      · rcases k6' b hb with ⟨s, h4⟩ | ⟨_, s, h5, h4⟩
        · exact (h.inU s b h4).2
        · exact (h.inF s b h4).2)
  unfold Oper.wp
  rw [run_call_fn ho hf]
  simp only [Oper.upon]
  rw [Array.toArray_toList] at hcall
  refine Calls.mono hcall ?_
  rintro e w' ⟨v, Fr, Ur, G, V, rfl, hleft⟩
  have hfin := hleft.fin
  rw [← hvs] at hfin
  simp only [argsR] at hfin
  obtain ⟨v1, vs1, G1, G2, V1, V2, e1, rfl, rfl, ⟨b, cur', T', F0, g1, g2, g3, rfl, g5⟩, hgone⟩ := hfin
  obtain ⟨rfl, rfl⟩ := argsR_gone hgone
  injection e1 with e1 e2
  rw [← e1, hev] at g1
  injection g1 with g1
  injection g1 with g1
  injection g1 with g1
  subst g1
  have hnd := hleft.nodup
  have hdis := hleft.dis
  have hinF := hleft.inF
  have hinU := hleft.inU
  simp only [List.append_nil] at hnd hdis hinF hinU
  have hV : ∀ b ∈ Ur ++ V1, (∃ s, b ∈ US s) ∨ ((b ∈ FS r ∨ w.heap.size ≤ b) ∧ b < w'.heap.size) := by
    intro b hb
    obtain ⟨h4, h5⟩ := hinU b hb
    rcases h4 with h4 | h4 | h4
    · rcases List.mem_append.1 h4 with h4 | h4
      · exact .inl ⟨r, h4⟩
      · rcases k6' b h4 with h6 | ⟨h6, s, h7, h8⟩
        · exact .inl h6
        · rcases hcs with hcs | ⟨c1, c2⟩
          · rw [hcs] at h6; cases h6
          · have n1 := svR_noshare hleft.res c1
            have n2 := reps_noshare g3 c2
            subst n1
            subst n2
            cases hb
    · exact .inr ⟨.inl h4, h5⟩
    · exact .inr ⟨.inr h4, h5⟩
  have hplace : ∀ j, ((E.setRoot r cells').bump r).place r [] j = cells'[j]? := by
    intro j
    cases r with
    | slot n => cases hm
    | hand => cases hm
    | box n => simp [St.place, St.bump, St.setRoot, St.root, upd, cont]
    | ext n => simp [St.place, St.bump, St.setRoot, St.root, upd, cont]
  have hplace0 : ∀ j, E.place r [] j = cells[j]? := by
    intro j
    cases r with
    | slot n => cases hm
    | hand => cases hm
    | box n => simp [St.place, St.root, hc, cont]
    | ext n => simp [St.place, St.root, hc, cont]
  let E1 : St := (E.setRoot r cells').bump r
  have ev : ∀ s, s ≠ r → E1.ver s = E.ver s := by
    intro s hs
    cases r <;> simp [E1, St.bump, St.setRoot, upd, hs]
  have evr : E1.ver r = E.ver r + 1 := by cases r <;> simp [E1, St.bump, St.setRoot, upd]
  have eg : ∀ s, E1.gen s = E.gen s := by intro s; cases r <;> rfl
  have er : ∀ s, s ≠ r → E1.root s = E.root s := by
    intro s hs
    cases r with
    | slot n => cases hm
    | hand => cases hm
    | box n => cases s <;> simp [E1, St.bump, St.setRoot, St.root, upd, hs]
    | ext n => cases s <;> simp [E1, St.bump, St.setRoot, St.root, upd, hs]
  have es : ∀ n, E1.slots n = E.slots n := by
    intro n
    cases r with
    | slot n => cases hm
    | hand => cases hm
    | box n => rfl
    | ext n => rfl
  have eb : ∀ s, E1.boxes s = if s = r then some cells' else E.boxes s := by
    intro s
    cases r with
    | slot n => cases hm
    | hand => cases hm
    | box n => rfl
    | ext n => rfl
  have hst : ∀ s, Steady w w' a a E E1 blk blk s := by
    intro s
    by_cases hs : s = r
    · subst hs
      refine ⟨.inl (by rw [evr]; omega), .inr ⟨eg s, fun j ad hv hp => ?_⟩⟩
      refine ⟨(by cases s <;> first | exact hv | (cases hm)), ?_⟩
      rw [hplace0] at hp
      rw [show E1.place s [] j = cells'[j]? from hplace j]
      have hj : j < cells.length := by
        rcases Nat.lt_or_ge j cells.length with q | q
        · exact q
        · rw [List.getElem?_eq_none q] at hp; cases hp
      rw [List.getElem?_eq_getElem (by omega)]
      rfl
    · by_cases hh : s = .hand
      · subst hh
        exact steady_none (ev _ hs) (eg _) (by simp [St.root, h.nohand])
      · exact steady_other h (ev s hs) (eg s) (er s hs) (fun _ _ => rfl) (fun _ => rfl)
          (fun b hb => hleft.keep b (h.inF s b hb).2 (h.dis s r hs b hb)) (fun b hb => hleft.keep b (h.inU s b hb).2 (fun e => h.disU r s b e hb))
  have k7 := h.two (w' := w') (a' := a) (E' := E1) (blk' := blk) (r1 := r) (r2 := .hand) (L1 := blk r :: F0) (L2 := Fr) (V1 := V1) (V2 := Ur) hne
    (by
      rw [List.nodup_append] at hnd ⊢
      exact ⟨hnd.2.1, hnd.1, fun x hx y hy e => hnd.2.2 y hy x hx e.symm⟩)
    (fun b hb => by
      obtain ⟨q1, q2⟩ := hinF b (by
        rcases List.mem_append.1 hb with hb | hb
        · exact List.mem_append_right _ hb
        · exact List.mem_append_left _ hb)
      refine ⟨?_, q2⟩
      rcases q1 with q1 | q1
      · exact .inl q1
      · exact .inr (.inr q1))
    (fun b hb => by
      have hb' : b ∈ Ur ++ V1 := by
        rcases List.mem_append.1 hb with hb | hb
        · exact List.mem_append_right _ hb
        · exact List.mem_append_left _ hb
      rcases hV b hb' with q | ⟨q1, q2⟩
      · exact .inl q
      · refine .inr ⟨?_, fun e => ?_, q2⟩
        · rcases q1 with q1 | q1
          · exact .inl q1
          · exact .inr (.inr q1)
        refine hdis b ?_ hb'
        rcases List.mem_append.1 e with e | e
        · exact List.mem_append_right _ e
        · exact List.mem_append_left _ e)
    hleft.size hleft.os hleft.tape hleft.output (fun b hb q _ => hleft.keep b hb q) hst (fun n _ _ => ⟨es n, rfl⟩) (fun s _ hs _ => ⟨by rw [eb, if_neg hs], rfl⟩)
    (by
      have : rootOk w' a E1 blk r (blk r :: F0) V1 := by
        have := eb r
        rw [if_pos rfl] at this
        cases r with
        | slot n => cases hm
        | hand => cases hm
        | box n => exact .inr ⟨cells', cur', T', F0, this, g2, g3, rfl⟩
        | ext n => exact .inr ⟨cells', cur', T', F0, this, g2, g3, rfl⟩
      exact this)
    trivial (by rw [eb, if_neg (Ne.symm hne)]; exact h.nohand) h.len h.nodef (hfz := by
      intro n hn
      have e : ((E.setRoot r cells').bump r).fz = E.fz := by rw [bump_fz, setRoot_fz]
      exact h.frz n (e ▸ hn)) (hamb := by show ((E.setRoot r cells').bump r).amb = E.amb; rw [bump_amb, setRoot_amb])
  have kh : (upd (upd FS r (blk r :: F0)) .hand Fr) .hand = Fr := upd_eq _ _ _
  have kh2 : (upd (upd US r V1) .hand Ur) .hand = Ur := upd_eq _ _ _
  cases hd : o.dst with
  | some d =>
    obtain ⟨FS', US', q1, q2, q3⟩ := k7.land (w' := w') (d := d) (s := res) (v := v) (F := Fr) (U := Ur) (hN d hd) (svX_of_svR hleft.res) (List.nodup_append.1 hnd).1
      (fun b hb => ⟨.inl (by rw [kh]; exact hb), (hinF b (List.mem_append_left _ hb)).2⟩) (fun b hb => .inl ⟨.hand, by rw [kh2]; exact hb⟩) (Nat.le_refl _) rfl rfl rfl (fun _ _ _ => rfl)
    have := hK w' v blk FS' US' (by rw [hd]; exact q1) q2 q3
    rw [hd] at this
    exact this
  | none =>
    obtain ⟨FS', US', q1, q2, q3⟩ := k7.drop (w' := w') (Nat.le_refl _) rfl rfl rfl (fun _ _ _ => rfl)
    have := hK w' v blk FS' US' (by rw [hd]; exact q1) q2 q3
    rw [hd] at this
    exact this
end
theorem gives_ext {P : Program} {f : FuncId} {fn : Func} {c : Code} {cells cells' : List TV} {as : List AV} {res : SV} (hf : P.funcs[f]? = some fn) (hb : fn.body = some c)
    (h : Wp P fn.ntmps c (St.init (.ext cells :: as)) fun e E => (e = .normal ∨ e = .ret) ∧ ∃ ss E', resTake P E fn.results.toList = some (ss, E') ∧ packRes ss = res ∧ E'.boxes (.ext 0) = some cells') (hne : cells'.isEmpty = false) :
    Gives P f (.ext cells :: as) res (.ext cells' :: List.replicate as.length .gone) := by
  intro w vs FA UA ha hnd hdis hlt
  obtain ⟨blk, FS, US, hr, hF, hU⟩ := Rel.init (N := fn.ntmps) ha hnd hdis hlt (A := Amb.none) trivial (fun b hb => by cases hb)
  have ha' := ha
  obtain ⟨v0, vs0, F1, F2, U1, U2, rfl, rfl, rfl, ⟨b0, cur0, T0, F0, rfl, _, _, rfl, _⟩, ha2⟩ := ha
  refine calls_of_wp hf hb (wp_mono (h _ _ _ _ _ _ _ _ hr hF hU) ?_)
  rintro e a w' ⟨E, blk', FS', US', ⟨he, ss, E', h1, rfl, hbox⟩, h2, h3, h4⟩
  obtain ⟨us, FS2, US2, F, U, k1, k2, k3, k4, k5⟩ := resTake_rel h2 h1
  rw [h3, List.nil_append] at k4
  rw [h4, List.nil_append] at k5
  have hgone : ∀ (n : Nat) (vs : List Value), vs.length = n → argsR w' (List.replicate n .gone) vs [] [] := by
    intro n
    induction n with
    | zero => intro vs hv; simp at hv; subst hv; exact ⟨rfl, rfl, rfl⟩
    | succ n ih =>
      intro vs hv
      cases vs with
      | nil => simp at hv
      | cons v vs => exact ⟨v, vs, [], [], [], [], rfl, rfl, rfl, ⟨rfl, rfl⟩, ih vs (by simpa using hv)⟩
  have hvl : vs0.length = as.length := by
    obtain ⟨_, _, _, _, h5, _⟩ := argsR_get ha2
    exact h5
  have hblk : blk' (.ext 0) = b0 := by
    rw [k3.xblk]
    rfl
  obtain ⟨cur, T, F3, b2, b3, b4⟩ : ∃ cur T F3, w'.heap[b0]? = some (.cells cur T (0, 0)) ∧ reps w' cells' cur.toList F3 (US2 (.ext 0)) ∧ FS2 (.ext 0) = b0 :: F3 := by
    rcases k3.box (.ext 0) rfl with ⟨q, _⟩ | ⟨cs, cur, T, F3, q1, q2, q3, q4⟩
    · rw [hbox] at q; cases q
    · rw [hbox] at q1
      injection q1 with q1
      subst q1
      rw [hblk] at q2 q4
      exact ⟨cur, T, F3, q2, q3, q4⟩
  have hne' : cells' ≠ [] := by rintro rfl; cases hne
  have hpost : a.defers = [] ∧ ∃ v, (results fn a.tmps).run P w' = .ok v w' ∧ ∃ v' F U G V, Ending.returned v = .returned v' ∧ Left w w' ((b0 :: F0) ++ F2) (U1 ++ U2) (packRes ss) (.ext cells' :: List.replicate as.length .gone) (.pointer (some ⟨b0, 0, none⟩) :: vs0) v' F U G V := by
    refine ⟨h2.nodef, _, run_results k1, _, F, U, FS2 (.ext 0), US2 (.ext 0), rfl, ?_⟩
    exact {
      res := packRes_rel k2
      fin := ⟨_, vs0, FS2 (.ext 0), [], US2 (.ext 0), [], rfl, by simp, by simp, ⟨b0, cur, T, F3, rfl, b2, b3, b4, hne'⟩, hgone _ _ hvl⟩
      nodup := by
        rw [← k4, List.nodup_append]
        exact ⟨k3.nodup _, k3.nodup _, fun x hx y hy e => k3.dis .hand (.ext 0) (by simp) x hx (e ▸ hy)⟩
      dis := by
        intro b hb hb'
        rw [← k4] at hb
        rw [← k5] at hb'
        rcases List.mem_append.1 hb with hb | hb <;> rcases List.mem_append.1 hb' with hb' | hb'
        · exact k3.disU .hand .hand b hb hb'
        · exact k3.disU .hand (.ext 0) b hb hb'
        · exact k3.disU (.ext 0) .hand b hb hb'
        · exact k3.disU (.ext 0) (.ext 0) b hb hb'
      inF := by
        intro b hb
        rw [← k4] at hb
        rcases List.mem_append.1 hb with hb | hb
        · exact k3.inF .hand b hb
        · exact k3.inF (.ext 0) b hb
      inU := by
        intro b hb
        rw [← k5] at hb
        rcases List.mem_append.1 hb with hb | hb
        · exact k3.inU .hand b hb
        · exact k3.inU (.ext 0) b hb
      os := k3.os
      tape := k3.tape
      output := k3.output
      size := k3.size
      keep := fun b hb hF => k3.keep b hb hF (fun e => by cases e) }
  rcases he with rfl | rfl
  · exact hpost
  · exact hpost
section
variable {N : Nat} {E : St} {P : Program} {ops : Array Oper} {oo : Oper} {rest : List Oper} {Q : Exit → St → Prop} {α β : Type} {rr : β}
theorem LWp.cx {x : Option α} {k : α → Option β} (h : x.bind k = some rr) (r : Root) (cells : List TV) (d : Option Nat) (enc : α → SV) (fin : α → List TV) {f : FuncId} {x0 : Operand} {args : Array Operand} {tys : Array TypeId} {fn : Func} {l : List AV} {n : Nat} {c : Bool}
    (ho : oo.op = .call { callee := .value (.func f), args := args, argTypes := tys }) (hx0 : args.toList.head? = some x0) (hsh : shArgs P (E.without r) ((tys.toList.tail.zip args.toList.tail).map fun (t, x) => (false, t, x)) (List.replicate (args.size - 1) none) = some (l, c))
    (hgv : ∀ v, x = some v → Gives P f (.ext cells :: l) (enc v) (.ext (fin v) :: List.replicate n .gone)) (hcs : c = true ∨ ∀ v, svShared (enc v) = false ∧ hasShareds (fin v) = false) (hlen : ∀ v, (fin v).length = cells.length)
    (hk : ∀ v, x = some v → k v = some rr → LWp P N ops rest (((E.setRoot r (fin v)).bump r).put d (enc v)) Q)
    (hp : E.ptr? x0 = some (r, [], 0) := by rfl) (hbx : E.boxes r = some cells := by rfl) (hm : r.mem = true := by rfl) (hf : P.funcs[f]? = some fn := by rfl) (hn : (fn.name == "runtime.NumGoroutine") = false := by rfl) (hb : fn.body.isNone = false := by rfl) (hd : oo.dst = d := by rfl) (hN : d.all (fun d => Nat.blt d N) = true := by rfl) (hz : tys.size = args.size := by rfl) (hg : guardOpen P ops E oo = some true := by rfl) : LWp P N ops (oo :: rest) E Q := by
  obtain ⟨v, hv, h⟩ := Option.bind_eq_some_iff.1 h
  intro w0 FA UA w a blk FS US hr hF hU
  simp only [wpList, guard_rel hr hg, if_true]
  have hlen2 : ((tys.toList.tail.zip args.toList.tail).map fun (t, x) => (false, t, x)).length = args.size - 1 := by simp [hz]
  refine .inl (call_ext hr hF hU ho ⟨fn, hf, by intro e; rw [e] at hn; simp at hn, hb⟩ (fun d' hd' => by rw [hd] at hd'; subst hd'; simpa [Nat.blt_eq] using hN) (x := x0) (l := (tys.toList.tail.zip args.toList.tail).map fun (t, x) => (false, t, x)) ?_ hm hp hbx (hlen v) (by rw [hlen2]; exact hsh) (hcs.imp id (fun h => h v)) (hgv v hv) fun w' v' blk' FS' US' k1 k2 k3 => ?_)
  · rw [List.map_map]
    have : ((fun x : Bool × TypeId × Operand => x.2.2) ∘ fun (x : TypeId × Operand) => (false, x.1, x.2)) = Prod.snd := rfl
    have h2 := (congrArg (fun g => List.map g (tys.toList.tail.zip args.toList.tail)) this).trans (List.map_snd_zip (by simp [hz]))
    rw [h2]
    cases ha : args.toList with
    | nil => rw [ha] at hx0; cases hx0
    | cons y l => rw [ha] at hx0; simp at hx0; subst hx0; rfl
  · rw [hd] at k1
    rw [hd]
    exact hk v hv h _ _ _ _ _ _ _ _ k1 k2 k3
theorem KOp.cx {ts : List Nat} {K : St → Prop} {QQ : Exit → St → Prop} {x : Option α} {k : α → Option β} (h : x.bind k = some rr) (i : Nat) (r : Root) (cells : List TV) (d : Option Nat) (enc : α → SV) (fin : α → List TV) {f : FuncId} {x0 : Operand} {args : Array Operand} {tys : Array TypeId} {fn : Func} {l : List AV} {n : Nat} {c : Bool}
    (hi : ops[i]? = some oo) (ho : oo.op = .call { callee := .value (.func f), args := args, argTypes := tys }) (hx0 : args.toList.head? = some x0) (hsh : shArgs P (E.without r) ((tys.toList.tail.zip args.toList.tail).map fun (t, x) => (false, t, x)) (List.replicate (args.size - 1) none) = some (l, c))
    (hgv : ∀ v, x = some v → Gives P f (.ext cells :: l) (enc v) (.ext (fin v) :: List.replicate n .gone)) (hcs : c = true ∨ ∀ v, svShared (enc v) = false ∧ hasShareds (fin v) = false) (hlen : ∀ v, (fin v).length = cells.length)
    (hk : ∀ v, x = some v → k v = some rr → K (((E.setRoot r (fin v)).bump r).put d (enc v))) (hts : ts.contains i = true := by decide)
    (hp : E.ptr? x0 = some (r, [], 0) := by rfl) (hbx : E.boxes r = some cells := by rfl) (hm : r.mem = true := by rfl) (hf : P.funcs[f]? = some fn := by rfl) (hn : (fn.name == "runtime.NumGoroutine") = false := by rfl) (hb : fn.body.isNone = false := by rfl) (hd : oo.dst = d := by rfl) (hN : d.all (fun d => Nat.blt d N) = true := by rfl) (hz : tys.size = args.size := by rfl) (hg : guardOpen P ops E oo = some true := by rfl) : KOp P N ops ts i E K QQ := by
  obtain ⟨v, hv, h⟩ := Option.bind_eq_some_iff.1 h
  intro w0 FA UA w a blk FS US hr hF hU
  unfold wpOp
  simp only [hi, guard_rel hr hg, if_true]
  have hlen2 : ((tys.toList.tail.zip args.toList.tail).map fun (t, x) => (false, t, x)).length = args.size - 1 := by simp [hz]
  refine .inl (call_ext hr hF hU ho ⟨fn, hf, by intro e; rw [e] at hn; simp at hn, hb⟩ (fun d' hd' => by rw [hd] at hd'; subst hd'; simpa [Nat.blt_eq] using hN) (x := x0) (l := (tys.toList.tail.zip args.toList.tail).map fun (t, x) => (false, t, x)) ?_ hm hp hbx (hlen v) (by rw [hlen2]; exact hsh) (hcs.imp id (fun h => h v)) (hgv v hv) fun w' v' blk' FS' US' k1 k2 k3 => ?_)
  · rw [List.map_map]
    have : ((fun x : Bool × TypeId × Operand => x.2.2) ∘ fun (x : TypeId × Operand) => (false, x.1, x.2)) = Prod.snd := rfl
    have h2 := (congrArg (fun g => List.map g (tys.toList.tail.zip args.toList.tail)) this).trans (List.map_snd_zip (by simp [hz]))
    rw [h2]
    cases ha : args.toList with
    | nil => rw [ha] at hx0; cases hx0
    | cons y l => rw [ha] at hx0; simp at hx0; subst hx0; rfl
  · rw [hd] at k1
    rw [hd]
    exact ⟨fun ht => (by rw [hts] at ht; cases ht), _, _, _, _, hk v hv h, k1, k2, k3⟩
end
theorem p_xa {P : Program} {E : St} {o : Oper} {n : Int} {m : Nat} (r : Root) (q : List Nat) (j : Nat) (hn : n = (m : Int)) {t e : TypeId} {a i : Operand} {k : IntKind} {len : Nat} (ho : o.op = .indexAddr t a i := by rfl) (ht : P.underlying t = some (.array len e) := by rfl) (hi : E.cell1 P 0 i = some (.int k n) := by rfl) (hp : E.ptr? a = some (r, q, j) := by rfl)
    (hc : P.cellsOf e = 1 := by rfl) (hl : Nat.blt m len = true := by rfl) (hs : (E.place r q (j + m)).isSome = true := by rfl) : pureOp P E o = some (.one (.ptr r (E.stamp r q) q (j + m))) := by
  subst hn
  have hl' : m < len := by simpa [Nat.blt_eq] using hl
  simp only [pureOp, ho, ht, hi, hp, hc, Int.toNat_natCast, Nat.mul_one]
  rw [if_pos ⟨by omega, by omega, by omega, hs⟩]
def strB (l : List Int) : ByteArray := strOfNums l
theorem bytesTV_encs {f : Int → List TV} (hf : ∀ n, f n = [.int .u8 n]) : ∀ l, bytesTV (encs f l) = some l
  | [] => rfl
  | n :: l => by
    have : encs f (n :: l) = f n ++ encs f l := by simp [encs]
    rw [this, hf]
    simp only [List.singleton_append, bytesTV, bytesTV_encs hf l, Option.map_some]
theorem p_cv {P : Program} {E : St} {o : Oper} {f : Int → List TV} (hf : ∀ n, f n = [.int .u8 n]) (l : List Int) {s d e e' : TypeId} {x : Operand} {own : Bool} {r : Root} {q : List Nat} {j : Nat} (ho : o.op = .convert s d x := by rfl) (hs : P.underlying s = some (.slice e) := by rfl) (hd : P.underlying d = some .string := by rfl) (he : P.underlying e = some (.int .u8) := by rfl)
    (hr : E.ref x = some (r, q, j) := by rfl) (hp : E.place r q j = some (.sl own e' 1 (encs f l)) := by rfl) : pureOp P E o = some (.one (.str (strB l))) := by
  simp only [pureOp, ho, hs, hd, he, hr, hp, if_true, bytesTV_encs hf, Option.map_some]
  rfl
def shl (k : IntKind) (a b : Int) : Option Int := if b < 0 then none else some (k.wrap (a * 2 ^ (min b.toNat k.bits)))
theorem p_shl {P : Program} {E : St} {o : Oper} {k k2 : IntKind} {a b v : Int} (h : shl k a b = some v) {t t2 : TypeId} {x y : Operand} (ho : o.op = .binOp .shl t x y t2 := by rfl) (hx : E.cell1 P t x = some (.int k a) := by rfl) (hy : E.cell1 P t y = some (.int k2 b) := by rfl) : pureOp P E o = some (.one (.int k v)) := by
  unfold shl at h
  split at h
  · cases h
  · rename_i hb
    injection h with h
    subst h
    simp only [pureOp, ho, hx, hy, boolOk, if_true, binTV, if_neg hb, Option.map_some]
section
variable {α : Type} {f : α → List TV} {sz : Nat}
end
theorem bsplit {β : Type} {b : Bool} {x y : Option β} {r : β} {G : Prop} (h : (bif b then x else y) = some r) (h1 : b = true → x = some r → G) (h2 : y = some r → G) : G := by
  cases b with
  | true => exact h1 rfl h
  | false => exact h2 h
def sby (b : ByteArray) : List Int := b.data.toList.map fun c => (c.toNat : Int)
def aps (l : List Int) (b : ByteArray) : Option (List Int) := if l.length + b.size ≤ 140737488355328 then some (l ++ sby b) else none
theorem strTVs_encs {f : Int → List TV} (hf : ∀ n, f n = [.int .u8 n]) (b : ByteArray) : strTVs b = encs f (sby b) := by
  unfold strTVs sby
  induction b.data.toList with
  | nil => rfl
  | cons c l ih =>
    have e : ∀ (x : Int) (m : List Int), encs f (x :: m) = f x ++ encs f m := fun x m => by simp [encs]
    rw [List.map_cons, List.map_cons, e, hf, ih]
    rfl
section
variable {P : Program} {N : Nat} {E : St} {o : Oper} {d : Nat}
theorem s_aps {f : Int → List TV} (hf : ∀ n, f n = [.int .u8 n]) (ms : List (Root × List TV)) (l : List Int) {b : ByteArray} {u : List Int} (h : aps l b = some u) {t tu e e1 : TypeId} {s x : Operand} {sv : TV}
    (ho : o.op = .call { callee := .builtin .append, args := #[s, x], argTypes := #[t, tu] } := by rfl) (hd : o.dst = some d := by rfl) (hN : Nat.blt d N = true := by rfl) (ht : P.underlying t = some (.slice e) := by rfl) (htu : P.underlying tu = some .string := by rfl) (hne : Nat.beq t tu = false := by rfl) (hs : E.cell1 P t s = some sv := by rfl) (hx : E.cell1 P tu x = some (.str b) := by rfl)
    (h1 : takeCell E sv = some (.sl true e1 1 (encs f l), mvs E ms) := by rfl) (he : Nat.beq e1 e = true := by rfl) (hu8 : isU8 P e = true := by rfl) : stepOp P N false E o = some ((mvs E ms).put (some d) (.one (.sl true e 1 (encs f u)))) := by
  have hN' : d < N := by simpa [Nat.blt_eq] using hN
  have he' : e1 = e := Nat.eq_of_beq_eq_true he
  have hne' : t ≠ tu := by intro e; subst e; simp at hne
  unfold aps at h
  split at h
  case isFalse => cases h
  rename_i hb
  injection h with h
  subst h
  have hl : (encs f l).length = l.length := by rw [encs_len (sz := 1) (fun n => by rw [hf]; rfl), Nat.mul_one]
  unfold stepOp
  rw [hd]
  simp only [if_pos hN', ho, if_neg hne', effAppendS, ht, htu, hs, hx, h1]
  rw [if_pos ⟨he', trivial, hu8, by rw [hl]; exact hb⟩, strTVs_encs hf, encs_append]
theorem s_sb {f : Int → List TV} (hf : ∀ n, f n = [.int .u8 n]) {b : ByteArray} {src dst e : TypeId} {x : Operand} (ho : o.op = .convert src dst x := by rfl) (hd : o.dst = some d := by rfl) (hN : Nat.blt d N = true := by rfl) (hs : P.underlying src = some .string := by rfl) (hds : P.underlying dst = some (.slice e) := by rfl)
    (hx : E.cell1 P src x = some (.str b) := by rfl) (hu8 : isU8u P e = true := by rfl) : stepOp P N false E o = some (E.put (some d) (.one (.sl false e 1 (encs f (sby b))))) := by
  have hN' : d < N := by simpa [Nat.blt_eq] using hN
  unfold stepOp
  rw [hd]
  simp only [if_pos hN', ho, effConv, hs, hds, hx]
  rw [if_pos hu8, strTVs_encs hf]
end
end Go.TI
