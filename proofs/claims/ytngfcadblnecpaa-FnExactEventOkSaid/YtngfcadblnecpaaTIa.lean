/- An interpreter of loaded Go code on trees, for every program: the trees, the state and its updates: definitions. No condition; no program is in sight. -/
import Derived.Calls
import Derived.WalkKit
import Derived.Laws.AppendOwn
import Derived.Laws.OwnMore
import Derived.OrdersHeld
namespace Go.TI
open Go

/-- A variable that holds a tree: a slot of the frame, a variable in memory that the slot n points to, the caller's variable that parameter n points to; what is on its way. -/
inductive Root where
  | slot (n : Nat)
  | box (n : Nat)
  | ext (n : Nat)
  | hand
  deriving DecidableEq

/-- A cell's content. sl: a slice as a tree (own: the array is this cell's alone); view: a slice header that another variable's cell holds; ptr: a cell's address. -/
inductive TV where
  | int (k : IntKind) (n : Int)
  | bool (b : Bool)
  | str (s : ByteArray)
  | sl (own : Bool) (e sz : Nat) (cells : List TV)
  | view (r : Root) (ver : Nat) (q : List Nat) (j : Nat)
  | ptr (r : Root) (ver : Nat) (q : List Nat) (j : Nat)
  | junk

inductive SV where
  | one (t : TV)
  | agg (cells : List TV)
  | tup (vs : List SV)

structure St where
  slots : Nat → SV
  boxes : Root → Option (List TV)
  ver : Root → Nat
  gen : Root → Nat

/-- The stamp of an address: of a variable itself it is out of date only when the variable is made anew. -/
def St.stamp (E : St) (r : Root) (q : List Nat) : Nat := match q with
  | [] => E.gen r
  | _ => E.ver r

def SV.cells : SV → List TV
  | .one t => [t]
  | .agg cs => cs
  | .tup _ => []

def upd {α β : Type} [DecidableEq α] (f : α → β) (a : α) (b : β) : α → β := fun x => if x = a then b else f x

/-- What a root holds. -/
def St.root (E : St) : Root → Option (List TV)
  | .slot n => some (E.slots n).cells
  | r => E.boxes r

def SV.withCells : SV → List TV → SV
  | .one _, [t] => .one t
  | .agg _, cs => .agg cs
  | s, _ => s

def St.setRoot (E : St) (r : Root) (cs : List TV) : St :=
  match r with
  | .slot n => { E with slots := upd E.slots n ((E.slots n).withCells cs) }
  | r => { E with boxes := upd E.boxes r (some cs) }

def St.bump (E : St) (r : Root) : St := { E with ver := upd E.ver r (E.ver r + 1) }

/-- The row of cells that a path of headers leads to. -/
def cont : List TV → List Nat → Option (List TV)
  | cs, [] => some cs
  | cs, c :: q => match cs[c]? with
    | some (.sl _ _ _ cells) => cont cells q
    | _ => none

/-- All headers on the way are owned. -/
def ownP : List TV → List Nat → Bool
  | _, [] => true
  | cs, c :: q => match cs[c]? with
    | some (.sl o _ _ cells) => o && ownP cells q
    | _ => false

def updC : List TV → List Nat → (List TV → List TV) → List TV
  | cs, [], f => f cs
  | cs, c :: q, f => match cs[c]? with
    | some (.sl o e sz cells) => cs.set c (.sl o e sz (updC cells q f))
    | _ => cs

def setRow {α : Type} (cs : List α) (j : Nat) (xs : List α) : List α := cs.take j ++ xs ++ cs.drop (j + xs.length)

def TV.isSl : TV → Bool
  | .sl .. => true
  | _ => false
def TV.isJunk : TV → Bool
  | .junk => true
  | _ => false
def TV.scalar : TV → Bool
  | .int .. | .bool _ | .str _ => true
  | _ => false

mutual
/-- The tree as what is only read. -/
def share : TV → TV
  | .sl _ e sz cells => .sl false e sz (shares cells)
  | t => t
def shares : List TV → List TV
  | [] => []
  | t :: ts => share t :: shares ts
end
mutual
/-- Has it a part that is shared (or that cannot be told)? -/
def hasShared : TV → Bool
  | .sl o _ _ cells => !o || hasShareds cells
  | .int .. | .bool _ | .str _ => false
  | _ => true
def hasShareds : List TV → Bool
  | [] => false
  | t :: ts => hasShared t || hasShareds ts
end

/-- A cell seen from elsewhere: an owned slice stays where it is. -/
def see (E : St) (r : Root) (q : List Nat) (c : Nat) (t : TV) : TV :=
  match t with
  | .sl true _ _ _ => .view r (E.ver r) q c
  | t => t
def sees (E : St) (r : Root) (q : List Nat) : Nat → List TV → List TV
  | _, [] => []
  | c, t :: ts => see E r q c t :: sees E r q (c + 1) ts

section
variable (P : Program)

/-- The zero of a slice type, and of a constant. -/
def constTV (t : TypeId) : Value → Option TV
  | .int k n => some (.int k n)
  | .bool b => some (.bool b)
  | .string s => some (.str s)
  | .slice none 0 0 => match P.underlying t with
    | some (.slice e) => some (.sl true e (P.cellsOf e) [])
    | _ => none
  | _ => none

/-- An operand's value, copied (owned slices stay where they are). -/
def St.val (E : St) (t : TypeId) : Operand → Option SV
  | .tmp n => match E.slots n with
    | .one x => some (.one (see E (.slot n) [] 0 x))
    | .agg cs => some (.agg (sees E (.slot n) [] 0 cs))
    | .tup _ => none
  | .const v => (constTV P t v).map .one
  | _ => none

def St.put (E : St) (d : Option Tmp) (s : SV) : St :=
  match d with
  | some d => { E with slots := upd E.slots d s, ver := upd E.ver (.slot d) (E.ver (.slot d) + 1) }
  | none => E
end
end Go.TI
