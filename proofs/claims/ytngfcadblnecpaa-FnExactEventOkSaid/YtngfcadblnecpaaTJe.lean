/- An interpreter of loaded Go code on trees, for every program: rules with the state told. No condition; no program is in sight. -/
import Derived.Test.YtngfcadblnecpaaTJd
namespace Go.TI
open Go
set_option linter.unusedSimpArgs false

section
variable {E : St} {d n : Nat} {s : SV} {r : Root} {xs : List TV} {P : Program} {N : Nat}
theorem put_slots : (E.put (some d) s).slots n = if n = d then s else E.slots n := rfl
theorem put_boxes : (E.put (some d) s).boxes r = E.boxes r := rfl
theorem put_verx : (E.put (some d) s).ver r = if r = .slot d then E.ver (.slot d) + 1 else E.ver r := rfl
theorem put_genx : (E.put (some d) s).gen r = E.gen r := rfl
theorem put_none : E.put none s = E := rfl
theorem newBox_slots : (E.newBox d xs).slots n = if n = d then .one (.ptr (.box d) (E.gen (.box d) + 1) [] 0) else E.slots n := by simp [St.newBox, St.put, upd]
theorem newBox_boxes : (E.newBox d xs).boxes r = if r = .box d then some xs else E.boxes r := rfl
theorem newBox_gen : (E.newBox d xs).gen r = if r = .box d then E.gen (.box d) + 1 else E.gen r := rfl
theorem newBox_ver : (E.newBox d xs).ver r = if r = .slot d then E.ver (.slot d) + 1 else if r = .box d then E.ver (.box d) + 1 else E.ver r := by simp [St.newBox, St.put, upd]
theorem bump_ver : (E.bump r).ver = fun s => if s = r then E.ver r + 1 else E.ver s := rfl
theorem bump_slotsx : (E.bump r).slots n = E.slots n := rfl
theorem bump_boxesx {s : Root} : (E.bump r).boxes s = E.boxes s := rfl
theorem bump_genx {s : Root} : (E.bump r).gen s = E.gen s := rfl
theorem init_slots {l : List AV} : (St.init l).slots n = match l[n]? with | some x => avSlot n x | none => .one .junk := rfl
theorem init_ver {l : List AV} : (St.init l).ver r = 0 := rfl
theorem init_gen {l : List AV} : (St.init l).gen r = 0 := rfl
theorem init_box {l : List AV} : (St.init l).boxes (.box n) = none := rfl
theorem root_slot : E.root (.slot n) = some (E.slots n).cells := rfl
theorem root_box : E.root (.box n) = E.boxes (.box n) := rfl
theorem setRoot_box_slots {cs : List TV} {m : Nat} : (E.setRoot (.box n) cs).slots m = E.slots m := rfl
theorem setRoot_box_boxes {cs : List TV} : (E.setRoot (.box n) cs).boxes r = if r = .box n then some cs else E.boxes r := rfl
theorem setRoot_box_ver {cs : List TV} : (E.setRoot (.box n) cs).ver r = E.ver r := rfl
theorem setRoot_box_gen {cs : List TV} : (E.setRoot (.box n) cs).gen r = E.gen r := rfl
theorem setRoot_slot_slots {cs : List TV} {m : Nat} : (E.setRoot (.slot n) cs).slots m = if m = n then (E.slots n).withCells cs else E.slots m := rfl
theorem setRoot_slot_boxes {cs : List TV} : (E.setRoot (.slot n) cs).boxes r = E.boxes r := rfl
theorem setRoot_slot_ver {cs : List TV} : (E.setRoot (.slot n) cs).ver r = E.ver r := rfl
theorem setRoot_slot_gen {cs : List TV} : (E.setRoot (.slot n) cs).gen r = E.gen r := rfl

theorem LWp.split {ops : Array Oper} {l : List Oper} {Q : Exit → St → Prop} (t : Nat) {b : Bool} (_ : E.cell1 P 0 (.tmp t) = some (.bool b)) (ht : b = true → LWp P N ops l E Q) (hf : b = false → LWp P N ops l E Q) : LWp P N ops l E Q := by
  cases b
  · exact hf rfl
  · exact ht rfl
theorem LWp.pureE {ops : Array Oper} {Q : Exit → St → Prop} {o : Oper} {rest : List Oper} (s : SV) {d : Nat} (hg : guardOpen P ops E o = some true) (hs : stepOp P N false E o = some (E.put (some d) s)) (h : LWp P N ops rest (E.put (some d) s) Q) : LWp P N ops (o :: rest) E Q := LWp.op false hg hs h
theorem LWp.boxE {ops : Array Oper} {Q : Exit → St → Prop} {o : Oper} {rest : List Oper} (xs : List TV) {d : Nat} (hg : guardOpen P ops E o = some true) (hs : stepOp P N false E o = some (E.newBox d xs)) (h : LWp P N ops rest (E.newBox d xs) Q) : LWp P N ops (o :: rest) E Q := LWp.op false hg hs h
theorem LWp.storeE {ops : Array Oper} {Q : Exit → St → Prop} {o : Oper} {rest : List Oper} (r : Root) (xs : List TV) (hg : guardOpen P ops E o = some true) (hs : stepOp P N false E o = some (E.setRoot r xs)) (h : LWp P N ops rest (E.setRoot r xs) Q) : LWp P N ops (o :: rest) E Q := LWp.op false hg hs h
/-- A call whose arguments are all shared, or none is a slice. -/
theorem LWp.callS {ops : Array Oper} {Q : Exit → St → Prop} {o : Oper} {rest : List Oper} {f : FuncId} {args : Array Operand} {tys : Array TypeId} (ho : o.op = .call { callee := .value (.func f), args := args, argTypes := tys }) {fn : Func} (hf : P.funcs[f]? = some fn) (hn : fn.name ≠ "runtime.NumGoroutine") (hb : fn.body.isNone = false)
    (hg : guardOpen P ops E o = some true) {d : Nat} (hd : o.dst = some d) (hN : d < N) (hz : tys.size = args.size) {l : List AV} {res : SV} {n : Nat} (hgv : Gives P f l res (List.replicate n .gone)) {c : Bool}
    (hsh : shArgs P E ((tys.toList.zip args.toList).map fun (t, x) => (false, t, x)) (List.replicate args.size none) = some (l, c)) (hc : c = true ∨ svShared res = false)
    (h : LWp P N ops rest (E.put (some d) res) Q) : LWp P N ops (o :: rest) E Q := by
  have hmv : ∀ (l : List (TypeId × Operand)), mvArgs P E (l.map fun (t, x) => (false, t, x)) = some (List.replicate l.length none, E) := by
    intro l
    induction l with
    | nil => rfl
    | cons x l ih =>
      obtain ⟨t, x⟩ := x
      simp only [List.map_cons, mvArgs, ih, List.length_cons, List.replicate_succ]
  have hlen : (tys.toList.zip args.toList).length = args.size := by simp [hz]
  refine LWp.call ho ⟨fn, hf, hn, hb⟩ hg (fun d' hd' => by rw [hd] at hd'; injection hd' with hd'; subst hd'; exact hN) ((tys.toList.zip args.toList).map fun (t, x) => (false, t, x)) ?_ hgv ⟨_, E, c, hmv _, by rw [hlen]; exact hsh, hc, by rw [hd]⟩ h
  rw [List.map_map]
  have : ((fun x : Bool × TypeId × Operand => x.2.2) ∘ fun (x : TypeId × Operand) => (false, x.1, x.2)) = Prod.snd := rfl
  exact (congrArg (fun g => List.map g _) this).trans (List.map_snd_zip (by simp [hz]))
end
end Go.TI
