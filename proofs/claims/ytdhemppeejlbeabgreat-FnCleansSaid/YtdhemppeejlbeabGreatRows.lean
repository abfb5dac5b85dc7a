/-
  No cell of these rows narrows 'for every input' (looked for: loops, veiled, ifaces, maps, wideKeys, modest, calm, conditions, laid).
  DERIVED. THE GIVEN ROWS OF THIS SEAT. 3 by the template 'for every input the law returns true; each argument reads behind the call as it read before'; 0 by the template 'total and deterministic' (their statements: YtdhemppeejlbeabGreatTotals.lean).
  GIVEN WITH THE SEED: the statements are not yours to turn. If you find one false, say at which input.
  Laid BY PROGRAM, IN A SANDBOX (cutbox-rows.mjs): the forced cells as the released guide's own fill.sh prints them over the translation 7f9c1ba50a655235… (all of the seat's roots in one cut). By AI agents, Wed Nov 11 2026. No macro, syntax, notation, axiom, sorry.
-/
import Derived.Test.YtdhemppeejlbeabGreatChecked
import GoSem.Claim
import GoSem.ClaimJoined
import GoSem.ClaimMapViews
import Derived.JoinedTies
import Derived.KernelRfl
namespace Go.Proofs.YtdhemppeejlbeabGreat
/- THE CELL 'sum', in the pinned program and in every row, IS THE sha256 OF THE DUMP (.gsa) THAT YtdhemppeejlbeabGreatProg.lean LOADS. Nothing in Lean hashes anything: it is a label: what it is worth is what the hold of that sum in a sandbox is worth. -/
noncomputable def Tryz.pinned : Pinned := { name := "ytdhemppeejlbeabgreat", sum := "7f9c1ba50a65523538a8354aa76978aee13cb698a4c37f5684c57614cce281fd", checked := Tryz.checked }
namespace Rows
def none {H : Type} : Left H := { results := [], args := [] }

/-- 'laws.FnOrphans': WHATEVER THE INPUT: true; the input reads as it did. -/
def fnOrphansSpec : ChangeSpec := { name := "fnOrphans", fn := fun _ => fun
  | [d] => { results := [.lit (.bool true)], args := [d] }
  | _ => none }
def fnOrphansRow : OpenClaim := { program := "ytdhemppeejlbeabgreat", sum := "7f9c1ba50a65523538a8354aa76978aee13cb698a4c37f5684c57614cce281fd", func := "loop.example/g00195/laws.FnOrphans", spec := "fnOrphans", inPlace := ["internal/reflectlite.ValueOf", "internal/reflectlite.Swapper", "(internal/reflectlite.Value).Len"], unfollowed := true, recurses := true, apart := false }
def FnOrphansSaid : Prop := fnOrphansRow.holds Tryz.pinned (OpenSpec.ofChange fnOrphansSpec)

/-- ITS FALSE NEIGHBOUR: 'it returns false'. Refute it at one input. -/
def fnOrphansWrong : ChangeSpec := { name := "fnOrphans", fn := fun _ => fun
  | [d] => { results := [.lit (.bool false)], args := [d] }
  | _ => none }
def FnOrphansWrongFalsely : Prop := fnOrphansRow.holds Tryz.pinned (OpenSpec.ofChange fnOrphansWrong)

/-- 'laws.FnWrites': WHATEVER THE INPUT: true; the input reads as it did. -/
def fnWritesSpec : ChangeSpec := { name := "fnWrites", fn := fun _ => fun
  | [d] => { results := [.lit (.bool true)], args := [d] }
  | _ => none }
def fnWritesRow : OpenClaim := { program := "ytdhemppeejlbeabgreat", sum := "7f9c1ba50a65523538a8354aa76978aee13cb698a4c37f5684c57614cce281fd", func := "loop.example/g00195/laws.FnWrites", spec := "fnWrites", inPlace := ["internal/reflectlite.ValueOf", "internal/reflectlite.Swapper", "(internal/reflectlite.Value).Len"], unfollowed := true, recurses := true, apart := false }
def FnWritesSaid : Prop := fnWritesRow.holds Tryz.pinned (OpenSpec.ofChange fnWritesSpec)

/-- ITS FALSE NEIGHBOUR: 'it returns false'. Refute it at one input. -/
def fnWritesWrong : ChangeSpec := { name := "fnWrites", fn := fun _ => fun
  | [d] => { results := [.lit (.bool false)], args := [d] }
  | _ => none }
def FnWritesWrongFalsely : Prop := fnWritesRow.holds Tryz.pinned (OpenSpec.ofChange fnWritesWrong)

/-- 'laws.FnCleans': WHATEVER THE INPUT: true; the input reads as it did. -/
def fnCleansSpec : ChangeSpec := { name := "fnCleans", fn := fun _ => fun
  | [d] => { results := [.lit (.bool true)], args := [d] }
  | _ => none }
def fnCleansRow : OpenClaim := { program := "ytdhemppeejlbeabgreat", sum := "7f9c1ba50a65523538a8354aa76978aee13cb698a4c37f5684c57614cce281fd", func := "loop.example/g00195/laws.FnCleans", spec := "fnCleans", inPlace := ["internal/reflectlite.ValueOf", "internal/reflectlite.Swapper", "(internal/reflectlite.Value).Len"], unfollowed := true, recurses := true, apart := false }
def FnCleansSaid : Prop := fnCleansRow.holds Tryz.pinned (OpenSpec.ofChange fnCleansSpec)

/-- ITS FALSE NEIGHBOUR: 'it returns false'. Refute it at one input. -/
def fnCleansWrong : ChangeSpec := { name := "fnCleans", fn := fun _ => fun
  | [d] => { results := [.lit (.bool false)], args := [d] }
  | _ => none }
def FnCleansWrongFalsely : Prop := fnCleansRow.holds Tryz.pinned (OpenSpec.ofChange fnCleansWrong)

/- THE SECOND FORM. 'bulk': how many values and letters a reading holds, each counted each time it is reached (what is shared counts as often as it is met; a slice's spare places count too). A statement '..UptoSaid' is the law's where the arguments, and the package variables that the reading takes, are together of bulk at most 1048576: NARROWER than '..Said'. Prove '..Said' where nothing that the law and all that it calls make is longer than what came in: it says more and counts as full. Else prove '..UptoSaid'. A law counts once. -/
mutual
def uptoBulk {H : Type} : DataW H → Nat
  | .lit (.string bytes) => bytes.length + 1
  | .lit _ => 1
  | .nil => 1
  | .ptr d => uptoBulk d + 1
  | .slice elems spare => uptoBulkAll elems + uptoBulkAll spare + 1
  | .agg parts => uptoBulkAll parts + 1
  | .iface _ d => uptoBulk d + 1
  | .map entries => uptoBulkEntries entries + 1
  | .held _ => 1
def uptoBulkAll {H : Type} : List (DataW H) → Nat
  | [] => 0
  | d :: r => uptoBulk d + uptoBulkAll r
def uptoBulkEntries {H : Type} : List (Lit × DataW H) → Nat
  | [] => 0
  | x :: r => uptoBulkEntry x + uptoBulkEntries r
def uptoBulkEntry {H : Type} : Lit × DataW H → Nat
  | (.string bytes, d) => bytes.length + uptoBulk d + 1
  | (_, d) => uptoBulk d + 1
 end
def uptoSmall : (H : Type) → List (DataW H) → Bool := fun _ ds => decide (uptoBulkAll ds ≤ 1048576)
def OpenSpec.upto (s : _root_.Go.ChangeSpec) : _root_.Go.OpenSpec := { _root_.Go.OpenSpec.ofChange s with cond := some uptoSmall }

/-- 'laws.FnOrphans', WHERE WHAT IT READS IS OF BULK AT MOST 1048576: true; the input reads as it did. -/
def fnOrphansUptoRow : OpenClaim := { program := "ytdhemppeejlbeabgreat", sum := "7f9c1ba50a65523538a8354aa76978aee13cb698a4c37f5684c57614cce281fd", func := "loop.example/g00195/laws.FnOrphans", spec := "fnOrphans", inPlace := ["internal/reflectlite.ValueOf", "internal/reflectlite.Swapper", "(internal/reflectlite.Value).Len"], unfollowed := true, recurses := true, apart := false, narrowed := true }
def FnOrphansUptoSaid : Prop := fnOrphansUptoRow.holds Tryz.pinned (OpenSpec.upto fnOrphansSpec)

/-- 'laws.FnWrites', WHERE WHAT IT READS IS OF BULK AT MOST 1048576: true; the input reads as it did. -/
def fnWritesUptoRow : OpenClaim := { program := "ytdhemppeejlbeabgreat", sum := "7f9c1ba50a65523538a8354aa76978aee13cb698a4c37f5684c57614cce281fd", func := "loop.example/g00195/laws.FnWrites", spec := "fnWrites", inPlace := ["internal/reflectlite.ValueOf", "internal/reflectlite.Swapper", "(internal/reflectlite.Value).Len"], unfollowed := true, recurses := true, apart := false, narrowed := true }
def FnWritesUptoSaid : Prop := fnWritesUptoRow.holds Tryz.pinned (OpenSpec.upto fnWritesSpec)

/-- 'laws.FnCleans', WHERE WHAT IT READS IS OF BULK AT MOST 1048576: true; the input reads as it did. -/
def fnCleansUptoRow : OpenClaim := { program := "ytdhemppeejlbeabgreat", sum := "7f9c1ba50a65523538a8354aa76978aee13cb698a4c37f5684c57614cce281fd", func := "loop.example/g00195/laws.FnCleans", spec := "fnCleans", inPlace := ["internal/reflectlite.ValueOf", "internal/reflectlite.Swapper", "(internal/reflectlite.Value).Len"], unfollowed := true, recurses := true, apart := false, narrowed := true }
def FnCleansUptoSaid : Prop := fnCleansUptoRow.holds Tryz.pinned (OpenSpec.upto fnCleansSpec)

end Rows
end Go.Proofs.YtdhemppeejlbeabGreat
