/- An interpreter of loaded Go code on trees, for every program: build and buildSlice are sound. No condition; no program is in sight. -/
import Derived.Test.YtngfcadblnecpaaTIx
import Derived.Laws.Tables
import Derived.Great.BuildSlice
namespace Go.TI
open Go Go.RowKit
set_option linter.unusedSimpArgs false
set_option linter.unusedVariables false

theorem setRow_cons {α : Type} (cs : List α) (p : Nat) (u : α) (us : List α) (h : p + us.length < cs.length) : setRow (cs.set p u) (p + 1) us = setRow cs p (u :: us) := by
  have hp : p < cs.length := by omega
  simp only [setRow, List.length_cons]
  rw [List.set_eq_take_append_cons_drop, if_pos hp]
  have hl : (cs.take p).length = p := by rw [List.length_take]; omega
  have e1 : (cs.take p ++ u :: cs.drop (p + 1)).take (p + 1) = cs.take p ++ [u] := by
    rw [List.take_append, hl]
    rw [List.take_of_length_le (by omega), show p + 1 - p = 1 from by omega]
    simp
  have e2 : (cs.take p ++ u :: cs.drop (p + 1)).drop (p + 1 + us.length) = cs.drop (p + (us.length + 1)) := by
    rw [List.drop_append, hl]
    rw [List.drop_eq_nil_of_le (by omega), List.nil_append, show p + 1 + us.length - p = us.length + 1 from by omega, List.drop_succ_cons, List.drop_drop]
    congr 1
    omega
  rw [e1, e2]
  simp

theorem fold_setRow : ∀ (us : List Value) (k off : Nat) (cs : Array Value), off + k + us.length ≤ cs.size →
    ((us.zipIdx k).foldl (fun cs x => cs.setIfInBounds (off + x.2) x.1) cs).toList = setRow cs.toList (off + k) us
  | [], k, off, cs, h => by simp [setRow]
  | u :: us, k, off, cs, h => by
    simp only [List.length_cons] at h
    simp only [List.zipIdx_cons, List.foldl_cons]
    rw [fold_setRow us (k + 1) off _ (by simp; omega)]
    rw [← setRow_cons _ _ _ _ (by simp; omega)]
    simp
    rfl

def fillT (place : Nat → Option (Nat × Nat)) (cells : List TV) : List (Nat × SV) → Option (List TV)
  | [] => some cells
  | (i, s) :: rest => match place i with
    | some (off, size) => if s.plain = true ∧ s.cells.length = size ∧ off + size ≤ cells.length then fillT place (setRow cells off s.cells) rest else none
    | none => none

section
variable {w0 : World} {FA UA : List Nat} {N : Nat} {w : World} {a : Act} {E : St} {blk : Root → Nat} {FS US : Root → List Nat} {P : Program}

theorem cellsX_append : ∀ {xs ys : List TV} {vs us : List Value} {U V : List Nat}, cellsX w a E blk xs vs [] U → cellsX w a E blk ys us [] V → cellsX w a E blk (xs ++ ys) (vs ++ us) [] (U ++ V)
  | [], ys, vs, us, U, V, h, k => by
    obtain ⟨rfl, _, rfl⟩ := h
    simpa using k
  | x :: xs, ys, vs, us, U, V, h, k => by
    obtain ⟨v, vs', F1, F2, U1, U2, rfl, hF, rfl, h1, h2⟩ := h
    obtain ⟨rfl, rfl⟩ := List.append_eq_nil_iff.1 hF.symm
    exact ⟨v, vs' ++ us, [], [], U1, U2 ++ V, rfl, rfl, by simp, h1, cellsX_append h2 k⟩
theorem cellsX_split : ∀ (j : Nat) {ts : List TV} {vs : List Value} {U : List Nat}, cellsX w a E blk ts vs [] U →
    ∃ U1 U2, (∀ b ∈ U1 ++ U2, b ∈ U) ∧ cellsX w a E blk (ts.take j) (vs.take j) [] U1 ∧ cellsX w a E blk (ts.drop j) (vs.drop j) [] U2
  | 0, ts, vs, U, h => ⟨[], U, by simp, ⟨rfl, rfl, rfl⟩, by simpa using h⟩
  | j + 1, [], vs, U, h => by
    obtain ⟨rfl, _, rfl⟩ := h
    exact ⟨[], [], by simp, ⟨rfl, rfl, rfl⟩, ⟨rfl, rfl, rfl⟩⟩
  | j + 1, t :: ts, vs, U, h => by
    obtain ⟨v, vs', F1, F2, U1, U2, rfl, hF, rfl, h1, h2⟩ := h
    obtain ⟨rfl, rfl⟩ := List.append_eq_nil_iff.1 hF.symm
    obtain ⟨U3, U4, h3, h4, h5⟩ := cellsX_split j h2
    refine ⟨U1 ++ U3, U4, fun b hb => ?_, ⟨v, _, [], [], U1, U3, rfl, rfl, rfl, h1, h4⟩, by simpa using h5⟩
    have := h3 b
    simp at hb this ⊢
    rcases hb with hb | hb | hb
    · exact .inl hb
    · exact .inr (this (.inl hb))
    · exact .inr (this (.inr hb))
theorem cellsX_setRow {ts xs : List TV} {vs us : List Value} {U V : List Nat} (j : Nat) (h : cellsX w a E blk ts vs [] U) (k : cellsX w a E blk xs us [] V) :
    ∃ U', (∀ b ∈ U', b ∈ U ∨ b ∈ V) ∧ cellsX w a E blk (setRow ts j xs) (setRow vs j us) [] U' := by
  obtain ⟨U1, U2, h1, h2, h3⟩ := cellsX_split j h
  obtain ⟨U3, U4, h4, _, h5⟩ := cellsX_split xs.length h3
  have hl : us.length = xs.length := cellsX_len k
  refine ⟨U1 ++ V ++ U4, fun b hb => ?_, ?_⟩
  · simp at hb
    rcases hb with hb | hb | hb
    · exact .inl (h1 b (by simp [hb]))
    · exact .inr hb
    · exact .inl (h1 b (by simp [h4 b (by simp [hb])]))
  · have := cellsX_append (cellsX_append h2 k) h5
    rw [List.drop_drop, List.drop_drop] at this
    simp only [setRow]
    rw [hl]
    exact this

/-- The parts, in the machine and as trees. -/
def partsX (w : World) (a : Act) (E : St) (blk : Root → Nat) (US : Root → List Nat) : List (Nat × SV) → List (Nat × Value) → Prop
  | [], ps => ps = []
  | (i, s) :: ss, ps => ∃ v ps' U, ps = (i, v) :: ps' ∧ svX w a E blk s v [] U ∧ (∀ b ∈ U, ∃ r, b ∈ US r) ∧ partsX w a E blk US ss ps'

theorem fill_rel {place : Nat → Option (Nat × Nat)} : ∀ {ss : List (Nat × SV)} {ps : List (Nat × Value)} {cells cells' : List TV} {cs : Array Value} {U : List Nat}, partsX w a E blk US ss ps → cellsX w a E blk cells cs.toList [] U → (∀ b ∈ U, ∃ r, b ∈ US r) → fillT place cells ss = some cells' →
    ∃ cs' U', Instr.fill place cs ps = some cs' ∧ cellsX w a E blk cells' cs'.toList [] U' ∧ (∀ b ∈ U', ∃ r, b ∈ US r) ∧ cs'.size = cs.size
  | [], ps, cells, cells', cs, U, hp, hc, hU, hf => by
    simp only [partsX] at hp
    subst hp
    simp only [fillT, Option.some.injEq] at hf
    subst hf
    exact ⟨cs, U, rfl, hc, hU, rfl⟩
  | (i, s) :: ss, ps, cells, cells', cs, U, hp, hc, hU, hf => by
    simp only [partsX] at hp
    obtain ⟨v, ps', V, rfl, h1, h2, h3⟩ := hp
    simp only [fillT] at hf
    split at hf
    · rename_i off size hpl
      split at hf
      · rename_i hcond
        obtain ⟨c1, c2, c3⟩ := hcond
        have hcv := sv_cells h1 c1
        have hl1 := cellsX_len hcv
        have hl2 := cellsX_len hc
        have hvs : v.cells.size = size := by simpa [c2] using hl1
        have hcs : cs.size = cells.length := by simpa using hl2
        obtain ⟨U', hU', hx⟩ := cellsX_setRow off hc hcv
        have hfold : (v.cells.zipIdx.foldl (fun cs (x : Value × Nat) => cs.setIfInBounds (off + x.2) x.1) cs).toList = setRow cs.toList off v.cells.toList := by
          have := fold_setRow v.cells.toList 0 off cs (by simp; omega)
          rw [Nat.add_zero] at this
          rw [← this, ← Array.foldl_toList, Array.toList_zipIdx]
        rw [← hfold] at hx
        obtain ⟨cs', U2, k1, k2, k3, k4⟩ := fill_rel h3 hx (fun b hb => (hU' b hb).elim (hU b) (h2 b)) hf
        refine ⟨cs', U2, ?_, k2, k3, ?_⟩
        · simp only [Instr.fill, hpl]
          rw [if_neg (by simp; omega)]
          exact k1
        · rw [k4]
          have := congrArg List.length hfold
          rw [setRow_length (by simp; omega)] at this
          simpa using this
      · cases hf
    · cases hf

variable (P) in
def partVals (E : St) (ty : Nat → TypeId) : List (Nat × Operand) → Option (List (Nat × SV))
  | [] => some []
  | (i, x) :: ps => match E.val P (ty i) x, partVals E ty ps with
    | some s, some ss => some ((i, s) :: ss)
    | _, _ => none

theorem partVals_rel (h : Rel w0 FA UA N w a E blk FS US) {ty : Nat → TypeId} : ∀ {ps : List (Nat × Operand)} {ss : List (Nat × SV)}, partVals P E ty ps = some ss → partsX w a E blk US ss (ps.map fun (i, x) => (i, a.eval x))
  | [], ss, hp => by
    simp only [partVals, Option.some.injEq] at hp
    subst hp
    simp [partsX]
  | (i, x) :: ps, ss, hp => by
    simp only [partVals] at hp
    split at hp
    · rename_i s ss' hs hss
      injection hp with hp
      subst hp
      obtain ⟨U, h1, h2⟩ := val_rel h hs
      simp only [partsX, List.map_cons]
      exact ⟨_, _, U, rfl, h1, h2, partVals_rel h hss⟩
    · cases hp

variable (P) in
/-- A struct or an array put together. -/
def buildOp (E : St) (t : TypeId) (parts : List (Nat × Operand)) : Option SV := match zeroTVs P t with
  | some zs => match P.underlying t with
    | some (.struct fields) => match fields.toList.mapM (fun f => (P.info? f.type).map fun i => (f.offset, i.size)), partVals P E (fun i => (fields[i]?.map (·.type)).getD 0) parts with
      | some places, some ss => (fillT (places.toArray[·]?) zs ss).map .agg
      | _, _ => none
    | some (.array _ e) => match P.info? e, partVals P E (fun _ => e) parts with
      | some ie, some ss => (fillT (fun i => some (i * ie.size, ie.size)) zs ss).map .agg
      | _, _ => none
    | _ => none
  | none => none

theorem ok_build (h : Rel w0 FA UA N w a E blk FS US) {o : Oper} {t : TypeId} {parts : Array (Nat × Operand)} (ho : o.op = .build t parts) {s : SV} (hp : buildOp P E t parts.toList = some s) : PureOk P w a E blk FS US o s := by
  unfold buildOp at hp
  split at hp
  · rename_i zs hz
    obtain ⟨i, z, hi, hzz, hzs, hr⟩ := zeroTVs_rep (w := w) hz
    have hcx := cellsX_of_reps (a := a) (E := E) (blk := blk) hr
    have fin : ∀ {place : Nat → Option (Nat × Nat)} {ss : List (Nat × SV)} {ty : Nat → TypeId}, partVals P E ty parts.toList = some ss → (fillT place zs ss).map SV.agg = some s →
        (∀ cs ps, Instr.fill place z.cells ps = some cs → P.built t ps = some cs) → PureOk P w a E blk FS US o s := by
      intro place ss ty hss hf hb
      obtain ⟨cells', hf2, rfl⟩ := Option.map_eq_some_iff.1 hf
      obtain ⟨cs', U', k1, k2, k3, _⟩ := fill_rel (partVals_rel h hss) hcx (by simp) hf2
      have hbuilt := hb _ _ k1
      refine ⟨.agg cs', U', fun w2 _ => ?_, ?_, k3⟩
      · have hparts : (parts.map fun (i, x) => (i, a.eval x)).toList = parts.toList.map fun (i, x) => (i, a.eval x) := by simp
        have := run_build (P := P) w2 t (parts.map fun (i, x) => (i, a.eval x)) cs' (by rw [hparts]; exact hbuilt)
        simp [execOp, ho, this]
      · simp only [svX]
        exact ⟨cs'.toList, by simp, k2⟩
    split at hp
    · rename_i fields hu
      split at hp
      · rename_i places ss hpl hss
        exact fin hss hp (fun cs ps hk => by simp only [Program.built, hi, hu, hzz, hpl, hk])
      · cases hp
    · rename_i n e hu
      split at hp
      · rename_i ie ss hie hss
        exact fin hss hp (fun cs ps hk => by simp only [Program.built, hi, hu, hzz, hie, hk])
      · cases hp
    · cases hp
  · cases hp

variable (P) in
def effBuildSlice (E : St) (d : Nat) (t : TypeId) (len : Nat) (parts : List (Nat × Operand)) : Option St := match P.underlying t with
  | some (.slice e) => match zeroTVs P e, partVals P E (fun _ => e) parts with
    | some zs, some ss => match fillT (fun i => some (i * P.cellsOf e, P.cellsOf e)) (List.replicate len zs).flatten ss with
      | some cells => match takeCells E cells with
        | some (xs, E1) => if len * P.cellsOf e ≤ 16777216 ∧ 0 < P.cellsOf e then some (E1.put (some d) (.one (.sl true e (P.cellsOf e) xs))) else none
        | none => none
      | none => none
    | _, _ => none
  | _ => none

theorem Done.buildSlice (h : Rel w0 FA UA N w a E blk FS US) (hF : FS .hand = []) (hU : US .hand = []) {o : Oper} {d : Nat} {t : TypeId} {len : Nat} {parts : Array (Nat × Operand)} (ho : o.op = .buildSlice t len parts) (hd : o.dst = some d) (hN : d < N) {E' : St} (he : effBuildSlice P E d t len parts.toList = some E') : Done P w0 FA UA N w a o E' := by
  unfold effBuildSlice at he
  split at he
  · rename_i e hu
    split at he
    · rename_i zs ss hz hss
      split at he
      · rename_i cells hf
        split at he
        · rename_i xs E1 hx
          split at he
          · rename_i hcond
            obtain ⟨hsmall, hpos⟩ := hcond
            injection he with he
            subst he
            obtain ⟨i, z, hi, hzz, hzs, hr⟩ := zeroTVs_rep (w := w) hz
            have hsz : i.size = P.cellsOf e := by simp [Program.cellsOf, hi]
            have hm : (madeCells z.cells (len * P.cellsOf e)).toList = (List.replicate len z.cells.toList).flatten := madeCells_flat _ _ hzs _
            have hr2 : reps w (List.replicate len zs).flatten (madeCells z.cells (len * P.cellsOf e)).toList [] [] := by
              rw [hm]
              exact reps_replicate hr _
            obtain ⟨cs', U', k1, k2, k3, k4⟩ := fill_rel (partVals_rel h hss) (cellsX_of_reps (a := a) (E := E) (blk := blk) hr2) (by simp) hf
            obtain ⟨FS1, US1, F1, U1, h3, h4, h5, h6, _, _⟩ := takeCells_rel h k2 k3 hx
            rw [hF, List.nil_append] at h5
            rw [hU, List.nil_append] at h6
            subst h5 h6
            have hxl := reps_len h3
            have hcs : cs'.size = len * P.cellsOf e := by rw [k4, size_madeCells]
            have hle : len ≤ len * P.cellsOf e := Nat.le_mul_of_pos_right _ hpos
            obtain ⟨FS', US', g1, g2, g3⟩ := h4.newRow (d := d) (e := e) (sz := P.cellsOf e) (n := len) hN h3 (by rw [← hxl]; simpa using hcs) (by simp only [maxLen]; omega)
            refine ⟨.value _, _, _, blk, FS', US', ?_, .inl rfl, by rw [hd]; exact g1, g2, g3⟩
            have hparts : (parts.map fun (i, x) => (i, a.eval x)).toList = parts.toList.map fun (i, x) => (i, a.eval x) := by simp
            have hk1 : Instr.fill (fun i => some (i * P.cellsOf e, P.cellsOf e)) ((Array.range (len * P.cellsOf e)).map (z.cells[· % z.cells.size]!)) (parts.map fun (i, x) => (i, a.eval x)).toList = some cs' := by
              rw [hparts]
              exact k1
            by_cases h0 : len * P.cellsOf e = 0
            · have hl0 : len = 0 := by
                rcases Nat.mul_eq_zero.1 h0 with h0 | h0 <;> omega
              subst hl0
              rw [Nat.zero_mul] at hk1
              have hk1' : Instr.fill (fun i => some (i * P.cellsOf e, P.cellsOf e)) #[] (parts.toList.map fun (i, x) => (i, a.eval x)) = some cs' := by
                have e0 : ((Array.range 0).map (z.cells[· % z.cells.size]!)) = #[] := by simp
                rw [← hparts, ← e0]
                exact hk1
              simp [execOp, ho, Instr.buildSlice, run_underlying hu, sizeOf, typeInfo, hi, hsz, h0, hk1', newRow, Array.range_zero']
            · have := run_buildSlice (P := P) w t e len (parts.map fun (i, x) => (i, a.eval x)) cs' i z hu hi hzz (by rw [hsz]; omega) (by rw [hsz]; exact h0) (by rw [hsz]; exact hk1)
              simp [execOp, ho, this]
          · cases he
        · cases he
      · cases he
    · cases he
  · cases he
end
end Go.TI
