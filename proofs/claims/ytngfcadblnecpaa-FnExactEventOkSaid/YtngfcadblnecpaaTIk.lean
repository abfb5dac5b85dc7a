/- An interpreter of loaded Go code on trees, for every program: operations that make nothing are sound, first part. No condition; no program is in sight. -/
import Derived.Test.YtngfcadblnecpaaTIj
namespace Go.TI
open Go Go.RowKit
set_option linter.unusedSimpArgs false
set_option linter.unusedVariables false

/-- The root that an operation loads from. -/
def readRoot (E : St) (o : Oper) : Option Root :=
  match o.op with
  | .load _ x => (E.ptr? x).map (·.1)
  | _ => none

/-- It yields v wherever what it reads lies as it lies in w. -/
def YieldsAt (P : Program) (FS US : Root → List Nat) (w : World) (a : Act) (E : St) (o : Oper) (v : Value) : Prop :=
  ∀ w2 : World, (∀ r, readRoot E o = some r → (∀ b ∈ FS r, w2.heap[b]? = w.heap[b]?) ∧ ∀ b ∈ US r, w2.heap[b]? = w.heap[b]?) → (execOp a.eval o).run P w2 = .ok (.value v) w2

section
variable {w0 : World} {FA UA : List Nat} {N : Nat} {w : World} {a : Act} {E : St} {blk : Root → Nat} {FS US : Root → List Nat} {P : Program}

def PureOk (P : Program) (w : World) (a : Act) (E : St) (blk : Root → Nat) (FS US : Root → List Nat) (o : Oper) (s : SV) : Prop :=
  ∃ v U, YieldsAt P FS US w a E o v ∧ svX w a E blk s v [] U ∧ ∀ b ∈ U, ∃ r, b ∈ US r

theorem one_scalar {w : World} {a : Act} {E : St} {blk : Root → Nat} {z : TV} {v : Value} (h : z.toV = some v) : svX w a E blk (.one z) v [] [] := by
  cases z <;> simp only [TV.toV, Option.some.injEq, reduceCtorEq] at h <;> subst h <;> simp [svX, cellX, rep, Value.cells]

theorem one_ptr {w : World} {a : Act} {E : St} {blk : Root → Nat} {r : Root} {q : List Nat} {j : Nat} {ad : Addr} (hq : (E.place r q j).isSome = true) (h : pa w a blk r q j = some ad) : svX w a E blk (.one (.ptr r (E.stamp r q) q j)) (.pointer (some ad)) [] [] := by
  simp only [svX, cellX]
  exact ⟨⟨by trivial, by trivial, Nat.le_refl _, fun _ => ⟨hq, ad, h, rfl⟩⟩, fun _ => rfl⟩

theorem pa_add {w : World} {a : Act} {blk : Root → Nat} {r : Root} {q : List Nat} {j k : Nat} {ad : Addr} (h : pa w a blk r q j = some ad) : pa w a blk r q (j + k) = some (ad.add k) := by
  cases q with
  | nil =>
    cases r <;> simp only [pa, reduceCtorEq, Option.some.injEq] at h ⊢ <;> subst h <;> rw [add_add]
  | cons c q =>
    simp only [pa] at h ⊢
    obtain ⟨v, h1, h⟩ := Option.bind_eq_some_iff.1 h
    obtain ⟨ad1, h2, rfl⟩ := Option.map_eq_some_iff.1 h
    rw [h1]
    simp only [Option.bind_some, h2, Option.map_some]
    rw [add_add]

theorem cont_snoc : ∀ {q : List Nat} {cs row : List TV} {j : Nat} {o : Bool} {e sz : Nat} {cells : List TV}, cont cs q = some row → row[j]? = some (.sl o e sz cells) → cont cs (q ++ [j]) = some cells
  | [], cs, row, j, o, e, sz, cells, h, hj => by
    simp only [cont, Option.some.injEq] at h
    subst h
    simp [cont, hj]
  | c :: q, cs, row, j, o, e, sz, cells, h, hj => by
    simp only [cont, List.cons_append] at h ⊢
    split at h
    · exact cont_snoc h hj
    · cases h
theorem place_snoc {E : St} {r : Root} {q : List Nat} {j i : Nat} {o : Bool} {e sz : Nat} {cells : List TV} (h : E.place r q j = some (.sl o e sz cells)) (hi : i < cells.length) : (E.place r (q ++ [j]) i).isSome = true := by
  unfold St.place at h
  obtain ⟨cs, h1, h⟩ := Option.bind_eq_some_iff.1 h
  obtain ⟨row, h2, h3⟩ := Option.bind_eq_some_iff.1 h
  simp [St.place, h1, cont_snoc h2 h3, hi]

theorem info_of_cells {t : TypeId} (h : P.cellsOf t ≠ 0) : ∃ i, P.info? t = some i ∧ i.size = P.cellsOf t := by
  unfold Program.cellsOf at h ⊢
  cases hi : P.info? t with
  | none => simp [hi] at h
  | some i => exact ⟨i, rfl, by simp⟩

theorem val_ok (h : Rel w0 FA UA N w a E blk FS US) {o : Oper} {x : Operand} {t : TypeId} {s : SV} (hv : E.val P t x = some s) (hrun : ∀ w2 : World, (execOp a.eval o).run P w2 = .ok (.value (a.eval x)) w2) : PureOk P w a E blk FS US o s := by
  obtain ⟨U, h1, h2⟩ := val_rel h hv
  exact ⟨a.eval x, U, fun w2 _ => hrun w2, h1, h2⟩

theorem scalar_ok {o : Oper} {z : TV} {v : Value} (hz : z.toV = some v) (hrun : ∀ w2 : World, (execOp a.eval o).run P w2 = .ok (.value v) w2) : PureOk P w a E blk FS US o (.one z) :=
  ⟨v, [], fun w2 _ => hrun w2, one_scalar hz, by simp⟩

theorem ok_move (h : Rel w0 FA UA N w a E blk FS US) {o : Oper} {x : Operand} (ho : o.op = .move x) {s : SV} (hp : pureOp P E o = some s) : PureOk P w a E blk FS US o s := by
  simp only [pureOp, ho] at hp
  exact val_ok h hp (fun w2 => by simp [execOp, ho])
theorem ok_assign (h : Rel w0 FA UA N w a E blk FS US) {o : Oper} {x : Operand} (ho : o.op = .assign x) {s : SV} (hp : pureOp P E o = some s) : PureOk P w a E blk FS US o s := by
  simp only [pureOp, ho] at hp
  exact val_ok h hp (fun w2 => by simp [execOp, ho])
theorem ok_nilCheck (h : Rel w0 FA UA N w a E blk FS US) {o : Oper} {x : Operand} (ho : o.op = .nilCheck x) {s : SV} (hp : pureOp P E o = some s) : PureOk P w a E blk FS US o s := by
  simp only [pureOp, ho] at hp
  split at hp
  · rename_i p hpt
    obtain ⟨r, q, j⟩ := p
    obtain ⟨_, ad, _, he⟩ := ptr_rel h hpt
    exact val_ok h hp (fun w2 => by simp [execOp, ho, he])
  · cases hp
theorem ok_pick (h : Rel w0 FA UA N w a E blk FS US) {o : Oper} {c x y : Operand} (ho : o.op = .pick c x y) {s : SV} (hp : pureOp P E o = some s) : PureOk P w a E blk FS US o s := by
  simp only [pureOp, ho] at hp
  split at hp
  · rename_i hc
    have := cell1_bool h hc
    exact val_ok h hp (fun w2 => by simp [execOp, ho, this, asBool])
  · rename_i hc
    have := cell1_bool h hc
    exact val_ok h hp (fun w2 => by simp [execOp, ho, this, asBool])
  · cases hp
theorem toV_of_bin {op : BinOp} {x y z : TV} (h : binTV op x y = some z) : ∃ vx vy, x.toV = some vx ∧ y.toV = some vy := by
  cases x <;> cases y <;> simp only [binTV, reduceCtorEq] at h <;> exact ⟨_, _, rfl, rfl⟩
theorem ok_binOp (h : Rel w0 FA UA N w a E blk FS US) {o : Oper} {op : BinOp} {t t' : TypeId} {x y : Operand} (ho : o.op = .binOp op t x y t') {s : SV} (hp : pureOp P E o = some s) : PureOk P w a E blk FS US o s := by
  simp only [pureOp, ho] at hp
  split at hp
  · rename_i u v hu hv
    split at hp
    · rename_i hb
      obtain ⟨z, hz, rfl⟩ := Option.map_eq_some_iff.1 hp
      obtain ⟨vx, vy, hx, hy⟩ := toV_of_bin hz
      have h1 := cell1_toV h hu hx
      have h2 := cell1_toV h hv hy
      obtain ⟨vz, hvz, hrun⟩ := run_binTV (P := P) (op := op) (t := t) (ox := x) (oy := y) hz (fun b hb' => by
        subst hb'
        exact boolOk_bool P hb) hx hy
      refine scalar_ok hvz (fun w2 => ?_)
      have := hrun w2
      simp only [execOp, ho, h1, h2]
      simp only [Sem.run_bind] at this ⊢
      rw [this]
      rfl
    · cases hp
  · cases hp
theorem ok_unOp (h : Rel w0 FA UA N w a E blk FS US) {o : Oper} {op : UnOp} {t : TypeId} {x : Operand} (ho : o.op = .unOp op t x) {s : SV} (hp : pureOp P E o = some s) : PureOk P w a E blk FS US o s := by
  simp only [pureOp, ho] at hp
  split at hp
  · rename_i u hu
    obtain ⟨z, hz, rfl⟩ := Option.map_eq_some_iff.1 hp
    have : ∃ vx, u.toV = some vx := by cases op <;> cases u <;> simp only [unTV, reduceCtorEq] at hz <;> exact ⟨_, rfl⟩
    obtain ⟨vx, hx⟩ := this
    have h1 := cell1_toV h hu hx
    obtain ⟨vz, hvz, hrun⟩ := run_unTV (P := P) hz hx
    refine scalar_ok hvz (fun w2 => ?_)
    simp [execOp, ho, h1, hrun w2]
  · cases hp
theorem ok_convert (h : Rel w0 FA UA N w a E blk FS US) {o : Oper} {src dst : TypeId} {x : Operand} (ho : o.op = .convert src dst x) {s : SV} (hp : pureOp P E o = some s) : PureOk P w a E blk FS US o s := by
  simp only [pureOp, ho] at hp
  split at hp
  · rename_i k0 k k1 n hs hd hu
    injection hp with hp
    subst hp
    have h1 := cell1_int h hu
    refine scalar_ok rfl (fun w2 => ?_)
    simp [execOp, ho, h1, convert, run_underlying hs, run_underlying hd, Conv.intToInt]
  · cases hp
theorem ok_fieldAddr (h : Rel w0 FA UA N w a E blk FS US) {o : Oper} {st : TypeId} {x : Operand} {f : Nat} (ho : o.op = .fieldAddr st x f) {s : SV} (hp : pureOp P E o = some s) : PureOk P w a E blk FS US o s := by
  simp only [pureOp, ho] at hp
  split at hp
  · rename_i fs r q j hs hpt
    split at hp
    · rename_i fd hf
      split at hp
      · cases hp
      · rename_i hne
        split at hp
        case isFalse => cases hp
        rename_i hq
        injection hp with hp
        subst hp
        obtain ⟨_, ad, h1, h2⟩ := ptr_rel h hpt
        obtain ⟨i, hi, _⟩ := info_of_cells hne
        refine ⟨_, [], fun w2 _ => ?_, one_ptr hq (pa_add h1), by simp⟩
        simp [execOp, ho, h2, Instr.fieldAt, run_underlying hs, hf, Instr.sureAddr, fieldPlace, run_sizeOf w2 hi, hne]
    · cases hp
  · cases hp
theorem ok_indexAddr (h : Rel w0 FA UA N w a E blk FS US) {o : Oper} {t : TypeId} {x i : Operand} (ho : o.op = .indexAddr t x i) {s : SV} (hp : pureOp P E o = some s) : PureOk P w a E blk FS US o s := by
  simp only [pureOp, ho] at hp
  split at hp
  · rename_i e k n ht hi
    split at hp
    · rename_i r q j href
      split at hp
      · rename_i o' e' sz cells hpl
        split at hp
        · rename_i hc
          obtain ⟨rfl, hs0, hn0, hn1⟩ := hc
          injection hp with hp
          subst hp
          have h1 := cell1_int h hi
          have h2 := ref_rel h href
          obtain ⟨F, U, h3, _, _⟩ := place_sl h hpl h2
          obtain ⟨A, m, c, hv, hm, hA⟩ := rep_sl_form h3
          have hpos : 0 < cells.length := Nat.lt_of_lt_of_le (Nat.mul_pos (by omega) hs0) hn1
          obtain ⟨ad, rfl⟩ := hA hpos
          obtain ⟨inf, hinf, _⟩ := info_of_cells (P := P) (t := e) (by omega)
          have hlt : n < (m : Int) := by
            have : (n.toNat + 1) ≤ m := Nat.le_of_mul_le_mul_right (by rw [hm]; exact hn1) hs0
            omega
          rw [hv] at h2
          have hst : E.stamp r (q ++ [j]) = E.ver r := stamp_cons (by simp)
          rw [← hst]
          refine ⟨_, [], fun w2 _ => ?_, one_ptr (place_snoc hpl (Nat.lt_of_lt_of_le (by rw [Nat.add_mul]; omega) hn1)) (pa_snoc h2), by simp⟩
          simp [execOp, ho, h1, hv, Instr.indexAt, run_underlying ht, asIntOf, hn0, hlt, run_sizeOf w2 hinf]
        · cases hp
      · cases hp
    · cases hp
  · rename_i len e k n ht hi
    split at hp
    · rename_i r q j hpt
      split at hp
      · rename_i hc
        injection hp with hp
        subst hp
        have h1 := cell1_int h hi
        obtain ⟨_, ad, h2, h3⟩ := ptr_rel h hpt
        obtain ⟨inf, hinf, _⟩ := info_of_cells (P := P) (t := e) (by omega)
        refine ⟨_, [], fun w2 _ => ?_, one_ptr hc.2.2.2 (pa_add h2), by simp⟩
        simp [execOp, ho, h1, h3, Instr.indexAt, run_underlying ht, asIntOf, Instr.sureAddr, hc, run_sizeOf w2 hinf]
      · cases hp
    · cases hp
  · cases hp
end
end Go.TI
