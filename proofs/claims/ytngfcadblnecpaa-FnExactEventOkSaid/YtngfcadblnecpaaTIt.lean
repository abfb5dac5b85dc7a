/- An interpreter of loaded Go code on trees, for every program: box and alloc are sound. No condition; no program is in sight. -/
import Derived.Test.YtngfcadblnecpaaTIs
import Derived.Laws.MakeOwn
namespace Go.TI
open Go Go.RowKit
set_option linter.unusedSimpArgs false
set_option linter.unusedVariables false

section
variable (P : Program)
def zipConst : List TypeId → List Value → Option (List TV)
  | [], [] => some []
  | t :: ts, v :: vs => match constTV P t v, zipConst ts vs with
    | some x, some xs => some (x :: xs)
    | _, _ => none
  | _, _ => none
/-- The zero of a type, cell by cell. -/
def zeroTVs (t : TypeId) : Option (List TV) := match P.info? t with
  | some i => match i.zero, P.cellTypes P.depth t with
    | some z, some ts => if z.cells.size = P.cellsOf t then zipConst P ts z.cells.toList else none
    | _, _ => none
  | none => none

def effBox (E : St) (d : Nat) (t : TypeId) (x : Operand) : Option St := match E.val P t x with
  | some s => match takeSV E s with
    | some (xs, E1) => if xs.isEmpty = true then none else some (E1.newBox d xs)
    | none => none
  | none => none
def effAlloc (E : St) (d : Nat) (t : TypeId) : Option St := match zeroTVs P t with
  | some xs => if xs.isEmpty = true then none else some (E.newBox d xs)
  | none => none
def effMake (E : St) (d : Nat) (t : TypeId) (l c : Operand) : Option St := match P.underlying t, E.cell1 P 0 l, E.cell1 P 0 c with
  | some (.slice e), some (.int _ n), some (.int _ m) => match zeroTVs P e with
    | some zs => if n = m ∧ 0 ≤ n ∧ (P.bytesOf e : Int) * n ≤ 281474976710656 ∧ n ≤ 9223372036854775807 then some (E.put (some d) (.one (.sl true e (P.cellsOf e) (List.replicate n.toNat zs).flatten))) else none
    | none => none
  | _, _, _ => none
end

section
variable {w0 : World} {FA UA : List Nat} {N : Nat} {w : World} {a : Act} {E : St} {blk : Root → Nat} {FS US : Root → List Nat} {P : Program}

theorem zipConst_rep {w : World} : ∀ {ts : List TypeId} {vs : List Value} {xs : List TV}, zipConst P ts vs = some xs → reps w xs vs [] []
  | [], [], xs, h => by
    simp only [zipConst, Option.some.injEq] at h
    subst h
    simp [reps]
  | t :: ts, v :: vs, xs, h => by
    simp only [zipConst] at h
    split at h
    · rename_i x xs' hx hxs
      injection h with h
      subst h
      simp only [reps]
      exact ⟨v, vs, [], [], [], [], rfl, rfl, rfl, (const_rep hx).1, zipConst_rep hxs⟩
    · cases h
  | [], v :: vs, xs, h => by simp [zipConst] at h
  | t :: ts, [], xs, h => by simp [zipConst] at h

theorem zeroTVs_rep {w : World} {t : TypeId} {xs : List TV} (h : zeroTVs P t = some xs) : ∃ i z, P.info? t = some i ∧ i.zero = some z ∧ z.cells.size = P.cellsOf t ∧ reps w xs z.cells.toList [] [] := by
  unfold zeroTVs at h
  split at h
  · rename_i i hi
    split at h
    · rename_i z ts hz hts
      split at h
      · rename_i hs
        exact ⟨i, z, hi, hz, hs, zipConst_rep h⟩
      · cases h
    · cases h
  · cases h

theorem reps_append {w : World} : ∀ {xs ys : List TV} {vs us : List Value} {F G U V : List Nat}, reps w xs vs F U → reps w ys us G V → reps w (xs ++ ys) (vs ++ us) (F ++ G) (U ++ V)
  | [], ys, vs, us, F, G, U, V, h, k => by
    simp only [reps] at h
    obtain ⟨rfl, rfl, rfl⟩ := h
    simpa using k
  | x :: xs, ys, vs, us, F, G, U, V, h, k => by
    simp only [reps] at h
    obtain ⟨v, vs', F1, F2, U1, U2, rfl, rfl, rfl, h1, h2⟩ := h
    simp only [List.cons_append, reps]
    exact ⟨v, vs' ++ us, F1, F2 ++ G, U1, U2 ++ V, rfl, by simp, by simp, h1, reps_append h2 k⟩
theorem reps_replicate {w : World} {xs : List TV} {vs : List Value} (h : reps w xs vs [] []) : ∀ n, reps w (List.replicate n xs).flatten (List.replicate n vs).flatten [] []
  | 0 => by simp [reps]
  | n + 1 => by
    simp only [List.replicate_succ, List.flatten_cons]
    exact reps_append h (reps_replicate h n)

theorem Done.box (h : Rel w0 FA UA N w a E blk FS US) (hF : FS .hand = []) (hU : US .hand = []) {o : Oper} {d : Nat} {t : TypeId} {x : Operand} (ho : o.op = .box t x) (hd : o.dst = some d) (hN : d < N) {E' : St} (he : effBox P E d t x = some E') : Done P w0 FA UA N w a o E' := by
  unfold effBox at he
  split at he
  · rename_i s hs
    split at he
    · rename_i xs E1 hx
      split at he
      · cases he
      · rename_i hne
        injection he with he
        subst he
        obtain ⟨U, h1, h2⟩ := val_rel h hs
        obtain ⟨FS1, US1, F1, U1, h3, h4, h5, h6, _, _⟩ := takeSV_rel h h1 h2 hx
        rw [hF, List.nil_append] at h5
        rw [hU, List.nil_append] at h6
        subst h5 h6
        obtain ⟨blk', FS', US', h7, h8, h9⟩ := h4.newBox (T := t) hN (by intro e; subst e; simp at hne) h3
        refine ⟨.value (.pointer (some ⟨w.heap.size, 0, none⟩)), _, _, blk', FS', US', ?_, .inl rfl, by rw [hd]; exact h7, h8, h9⟩
        simp [execOp, ho, Instr.box, newVar, newRow]
    · cases he
  · cases he

theorem Done.alloc (h : Rel w0 FA UA N w a E blk FS US) (hF : FS .hand = []) (hU : US .hand = []) {o : Oper} {d : Nat} {t : TypeId} (ho : o.op = .alloc t) (hd : o.dst = some d) (hN : d < N) {E' : St} (he : effAlloc P E d t = some E') : Done P w0 FA UA N w a o E' := by
  unfold effAlloc at he
  split at he
  · rename_i xs hx
    split at he
    · cases he
    · rename_i hne
      injection he with he
      subst he
      obtain ⟨i, z, hi, hz, hs, hr⟩ := zeroTVs_rep (w := w) hx
      obtain ⟨blk', FS', US', h7, h8, h9⟩ := h.newBox (T := t) (xs := xs) hN (by intro e; subst e; simp at hne) (by rw [hF, hU]; exact hr)
      refine ⟨.value (.pointer (some ⟨w.heap.size, 0, none⟩)), _, _, blk', FS', US', ?_, .inl rfl, by rw [hd]; exact h7, h8, h9⟩
      simp [execOp, ho, Instr.alloc, zeroValue, run_typeInfo w hi, hz, newVar, newRow]
  · cases he
end
end Go.TI
