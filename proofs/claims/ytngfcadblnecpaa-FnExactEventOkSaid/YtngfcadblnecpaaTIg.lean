/- An interpreter of loaded Go code on trees, for every program: arithmetic. No condition; no program is in sight. -/
import Derived.Test.YtngfcadblnecpaaTIf
namespace Go.TI
set_option linter.unusedSimpArgs false
open Go Go.RowKit

def TV.toV : TV → Option Value
  | .int k n => some (.int k n)
  | .bool b => some (.bool b)
  | .str s => some (.string s)
  | _ => none

def intTV (op : BinOp) (k : IntKind) (a b : Int) : Option TV :=
  match op with
  | .add => some (.int k (k.wrap (a + b)))
  | .sub => some (.int k (k.wrap (a - b)))
  | .mul => some (.int k (k.wrap (a * b)))
  | .quo => if b = 0 then none else some (.int k (k.wrap (a.tdiv b)))
  | .rem => if b = 0 then none else some (.int k (a.tmod b))
  | .and => some (.int k (k.wrap (BitVec.ofInt k.bits a &&& BitVec.ofInt k.bits b).toNat))
  | .or => some (.int k (k.wrap (BitVec.ofInt k.bits a ||| BitVec.ofInt k.bits b).toNat))
  | .xor => some (.int k (k.wrap (BitVec.ofInt k.bits a ^^^ BitVec.ofInt k.bits b).toNat))
  | .eql => some (.bool (a == b))
  | .neq => some (.bool (a != b))
  | .lss => some (.bool (decide (a < b)))
  | .leq => some (.bool (decide (a ≤ b)))
  | .gtr => some (.bool (decide (a > b)))
  | .geq => some (.bool (decide (a ≥ b)))
  | _ => none

def binTV (op : BinOp) (x y : TV) : Option TV :=
  match x, y with
  | .int k a, .int k' b => match op with
    | .shl => if b < 0 then none else some (.int k (k.wrap (a * 2 ^ (min b.toNat k.bits))))
    | .shr => if b < 0 then none else some (.int k (a.fdiv (2 ^ (min b.toNat k.bits))))
    | op => if k = k' then intTV op k a b else none
  | .str a, .str b => match op with
    | .add => if ((a.size + b.size : Nat) : Int) > 9223372036854775807 then none else some (.str (a ++ b))
    | .eql => some (.bool (a.toList == b.toList))
    | .neq => some (.bool (!(a.toList == b.toList)))
    | .lss => some (.bool (Op.bytesLess a.toList b.toList))
    | _ => none
  | .bool a, .bool b => match op with
    | .eql => some (.bool (a == b))
    | .neq => some (.bool (!(a == b)))
    | _ => none
  | _, _ => none

theorem run_binTV {P : Program} {op : BinOp} {t : TypeId} {ox oy : Operand} {x y z : TV} (h : binTV op x y = some z) (hb : ∀ b, x = .bool b → P.underlying t = some .bool) {vx vy : Value} (hx : x.toV = some vx) (hy : y.toV = some vy) :
    ∃ vz, z.toV = some vz ∧ ∀ W : World, (do eqGuard op t ox oy vx vy; Go.binOp op t vx vy : Sem Value).run P W = .ok vz W := by
  cases x <;> simp only [TV.toV, Option.some.injEq, reduceCtorEq] at hx <;> subst hx <;> cases y <;> simp only [TV.toV, Option.some.injEq, reduceCtorEq] at hy <;> subst hy <;> simp only [binTV, reduceCtorEq] at h
  · rename_i k a k' b
    cases op <;> simp only [intTV, reduceCtorEq, ite_eq_left_iff, Option.ite_none_left_eq_some, Option.ite_none_right_eq_some, Option.some.injEq] at h
    all_goals first
      | (obtain ⟨rfl, h0, rfl⟩ := h; refine ⟨_, rfl, fun W => ?_⟩; simp [eqGuard, Go.binOp, Op.intArith, Op.intDiv, Op.intBits, Op.intCmp, h0]; done)
      | (obtain ⟨rfl, rfl⟩ := h; refine ⟨_, rfl, fun W => ?_⟩; simp [eqGuard, Go.binOp, Op.intArith, Op.intDiv, Op.intBits, Op.intCmp]; done)
      | (obtain ⟨h0, rfl⟩ := h; refine ⟨_, rfl, fun W => ?_⟩; simp [eqGuard, Go.binOp, Op.shift, h0]; done)
      | (simp at h; done)
      | skip
  · rename_i a b
    have ht := hb a rfl
    cases op <;> simp only [reduceCtorEq, Option.some.injEq] at h
    all_goals first
      | (subst h; refine ⟨_, rfl, fun W => ?_⟩; simp [eqGuard, Go.binOp, Op.equal, Op.maxDepth, run_equalIn_bool', ht]; done)
      | skip
  · rename_i a b
    cases op <;> simp only [reduceCtorEq, Option.ite_none_left_eq_some, Option.some.injEq] at h
    all_goals first
      | (obtain ⟨h0, rfl⟩ := h; refine ⟨_, rfl, fun W => ?_⟩; have h1 : ¬ (((a.size + b.size : Nat) : Int) > IntKind.i64.max) := h0; simp only [eqGuard, Go.binOp, Op.stringOp, if_neg h1]; rfl)
      | (subst h; refine ⟨_, rfl, fun W => ?_⟩; simp [eqGuard, Go.binOp, Op.stringOp]; done)
      | skip

def unTV (op : UnOp) (x : TV) : Option TV :=
  match op, x with
  | .neg, .int k n => some (.int k (k.wrap (0 - n)))
  | .not, .bool b => some (.bool (!b))
  | .xor, .int k n => some (.int k (k.wrap (BitVec.ofInt k.bits (if k.signed then -1 else k.max) ^^^ BitVec.ofInt k.bits n).toNat))
  | _, _ => none
theorem run_unTV {P : Program} {op : UnOp} {x z : TV} (h : unTV op x = some z) {vx : Value} (hx : x.toV = some vx) :
    ∃ vz, z.toV = some vz ∧ ∀ W : World, (Op.unary op vx).run P W = .ok vz W := by
  cases op <;> cases x <;> simp only [unTV, reduceCtorEq, Option.some.injEq] at h <;> subst h <;> simp only [TV.toV, Option.some.injEq] at hx <;> subst hx <;> exact ⟨_, rfl, fun W => by simp [Op.unary, Op.intArith, Op.intBits]⟩

end Go.TI
