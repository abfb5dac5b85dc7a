/- An interpreter of loaded Go code on trees, for every program: operations that make nothing: definitions. No condition; no program is in sight. -/
import Derived.Test.YtngfcadblnecpaaTIh
import Derived.Laws.Cells
import Derived.Laws.Entries
import Derived.ChangeKeysEq
namespace Go.TI
open Go Go.RowKit
set_option linter.unusedSimpArgs false

/-- A pointer that an operand holds. -/
def St.ptr? (E : St) : Operand → Option (Root × List Nat × Nat)
  | .tmp n => match E.slots n with
    | .one (.ptr r v q j) => if E.stamp r q = v then some (r, q, j) else none
    | _ => none
  | _ => none

/-- Where a slice header stands: the root, the path, the place. -/
def St.ref (E : St) : Operand → Option (Root × List Nat × Nat)
  | .tmp n => match E.slots n with
    | .one (.sl ..) => some (.slot n, [], 0)
    | .one (.view r v q j) => if E.ver r = v then some (r, q, j) else none
    | _ => none
  | _ => none

section
variable (P : Program)
def aggT (t : TypeId) : Bool := match P.underlying t with
  | some (.struct _) | some (.array _ _) => true
  | _ => false

/-- An operand's one cell. -/
def St.cell1 (E : St) (t : TypeId) (o : Operand) : Option TV := match E.val P t o with
  | some (.one x) => some x
  | _ => none

/-- The cells of a slice operand: none for a nil. -/
def St.sliceCells (E : St) (o : Operand) : Option (Nat × List TV) := match E.ref o with
  | some (r, q, j) => match E.place r q j with
    | some (.sl _ _ sz cells) => some (sz, cells)
    | _ => none
  | none => none

def boolOk (t : TypeId) : TV → Bool
  | .bool _ => match P.underlying t with
    | some .bool => true
    | _ => false
  | _ => true
theorem boolOk_bool {t : TypeId} {b : Bool} (h : boolOk P t (.bool b) = true) : P.underlying t = some .bool := by
  simp only [boolOk] at h
  split at h
  · assumption
  · cases h

/-- The builtins that make nothing. -/
def builtinPure (E : St) : Builtin → List Operand → List TypeId → Option SV
  | .len, [x], [t] => match P.underlying t with
    | some .string => match E.cell1 P t x with
      | some (.str s) => some (.one (.int .i64 s.size))
      | _ => none
    | some (.slice _) => match E.sliceCells x with
      | some (sz, cells) => if 0 < sz then some (.one (.int .i64 (cells.length / sz : Nat))) else none
      | none => none
    | _ => none
  | .min, [x, y], [t, _] => match E.cell1 P t x, E.cell1 P t y with
    | some (.int k a), some (.int _ b) => some (.one (.int k (if b < a then b else a)))
    | _, _ => none
  | .max, [x, y], [t, _] => match E.cell1 P t x, E.cell1 P t y with
    | some (.int k a), some (.int _ b) => some (.one (.int k (if b > a then b else a)))
    | _, _ => none
  | _, _, _ => none

/-- Operations that make nothing and turn nothing. -/
def pureOp (E : St) (o : Oper) : Option SV :=
  match o.op with
  | .move x => E.val P o.type x
  | .assign x => E.val P o.type x
  | .nilCheck x => match E.ptr? x with
    | some _ => E.val P o.type x
    | none => none
  | .pick c x y => match E.cell1 P 0 c with
    | some (.bool true) => E.val P o.type x
    | some (.bool false) => E.val P o.type y
    | _ => none
  | .binOp op t x y _ => match E.cell1 P t x, E.cell1 P t y with
    | some x, some y => if boolOk P t x = true then (binTV op x y).map .one else none
    | _, _ => none
  | .unOp op t x => match E.cell1 P t x with
    | some x => (unTV op x).map .one
    | none => none
  | .convert src dst x => match P.underlying src, P.underlying dst, E.cell1 P src x with
    | some (.int _), some (.int k), some (.int _ n) => some (.one (.int k (k.wrap n)))
    | _, _, _ => none
  | .fieldAddr s x f => match P.underlying s, E.ptr? x with
    | some (.struct fs), some (r, q, j) => match fs[f]? with
      | some fd => if P.cellsOf fd.type = 0 then none else if (E.place r q (j + fd.offset)).isSome = true then some (.one (.ptr r (E.stamp r q) q (j + fd.offset))) else none
      | none => none
    | _, _ => none
  | .indexAddr t x i => match P.underlying t, E.cell1 P 0 i with
    | some (.slice e), some (.int _ n) => match E.ref x with
      | some (r, q, j) => match E.place r q j with
        | some (.sl _ _ sz cells) => if sz = P.cellsOf e ∧ 0 < sz ∧ 0 ≤ n ∧ (n.toNat + 1) * sz ≤ cells.length then some (.one (.ptr r (E.ver r) (q ++ [j]) (n.toNat * sz))) else none
        | _ => none
      | none => none
    | some (.array len e), some (.int _ n) => match E.ptr? x with
      | some (r, q, j) => if 0 < P.cellsOf e ∧ 0 ≤ n ∧ n < len ∧ (E.place r q (j + n.toNat * P.cellsOf e)).isSome = true then some (.one (.ptr r (E.stamp r q) q (j + n.toNat * P.cellsOf e))) else none
      | none => none
    | _, _ => none
  | .load t x => match E.ptr? x with
    | some (r, q, j) => match (E.root r).bind fun cs => cont cs q with
      | some row => if j + P.cellsOf t ≤ row.length then
          (if aggT P t then some (.agg (sees E r q j ((row.drop j).take (P.cellsOf t))))
          else if P.cellsOf t = 1 ∧ (P.underlying t).isSome = true then (row[j]?).map fun x => .one (see E r q j x) else none)
        else none
      | none => none
    | none => none
  | .index t x i => match P.underlying t, E.cell1 P t x, E.cell1 P 0 i with
    | some .string, some (.str s), some (.int _ n) => if 0 ≤ n ∧ n < s.size then some (.one (.int .u8 (bt s n))) else none
    | _, _, _ => none
  | .slice t x lo hi none => match P.underlying t, E.cell1 P t x with
    | some .string, some (.str s) => match (match lo with | some o => E.cell1 P 0 o | none => some (.int .i64 0)), (match hi with | some o => E.cell1 P 0 o | none => some (.int .i64 s.size)) with
      | some (.int _ l), some (.int _ h) => if 0 ≤ l ∧ l ≤ h ∧ h ≤ s.size then some (.one (.str (s.extract l.toNat h.toNat))) else none
      | _, _ => none
    | _, _ => none
  | .call c => match c.callee with
    | .builtin b => builtinPure P E b c.args.toList c.argTypes.toList
    | _ => none
  | _ => none
where
  bt (s : ByteArray) (i : Int) : Int := if h : i.toNat < s.size then ((s[i.toNat]'h).toNat : Int) else 0
end
end Go.TI
