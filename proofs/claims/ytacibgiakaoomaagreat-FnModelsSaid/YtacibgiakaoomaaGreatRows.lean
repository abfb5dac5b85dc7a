/-
  No cell of these rows narrows 'for every input' (looked for: loops, veiled, ifaces, maps, wideKeys, modest, calm, conditions, laid).
  DERIVED. THE GIVEN ROWS OF THIS SEAT. 4 by the template 'for every input the law returns true; each argument reads behind the call as it read before'; 0 by the template 'total and deterministic' (their statements: YtacibgiakaoomaaGreatTotals.lean).
  GIVEN WITH THE SEED: the statements are not yours to turn. If you find one false, say at which input.
  Laid BY PROGRAM, IN A SANDBOX (cutbox-rows.mjs): the forced cells as the released guide's own fill.sh prints them over the translation 05a921f22bdc356f… (all of the seat's roots in one cut). By AI agents, Wed Nov 11 2026. No macro, syntax, notation, axiom, sorry.
-/
import Derived.Test.YtacibgiakaoomaaGreatChecked
import GoSem.Claim
import GoSem.ClaimJoined
import GoSem.ClaimMapViews
import Derived.JoinedTies
import Derived.KernelRfl
namespace Go.Proofs.YtacibgiakaoomaaGreat
/- THE CELL 'sum', in the pinned program and in every row, IS THE sha256 OF THE DUMP (.gsa) THAT YtacibgiakaoomaaGreatProg.lean LOADS. Nothing in Lean hashes anything: it is a label: what it is worth is what the hold of that sum in a sandbox is worth. -/
noncomputable def Tryz.pinned : Pinned := { name := "ytacibgiakaoomaagreat", sum := "05a921f22bdc356f3ba4e57406c7f7b94f540e43c836d4e02634082cc2effcb7", checked := Tryz.checked }
namespace Rows
def none {H : Type} : Left H := { results := [], args := [] }

/-- 'laws.FnModels': WHATEVER THE INPUT: true; the input reads as it did. -/
def fnModelsSpec : ChangeSpec := { name := "fnModels", fn := fun _ => fun
  | [d] => { results := [.lit (.bool true)], args := [d] }
  | _ => none }
def fnModelsRow : OpenClaim := { program := "ytacibgiakaoomaagreat", sum := "05a921f22bdc356f3ba4e57406c7f7b94f540e43c836d4e02634082cc2effcb7", func := "loop.example/g00195/laws.FnModels", spec := "fnModels", apart := false }
def FnModelsSaid : Prop := fnModelsRow.holds Tryz.pinned (OpenSpec.ofChange fnModelsSpec)

/-- ITS FALSE NEIGHBOUR: 'it returns false'. Refute it at one input. -/
def fnModelsWrong : ChangeSpec := { name := "fnModels", fn := fun _ => fun
  | [d] => { results := [.lit (.bool false)], args := [d] }
  | _ => none }
def FnModelsWrongFalsely : Prop := fnModelsRow.holds Tryz.pinned (OpenSpec.ofChange fnModelsWrong)

/-- 'laws.FnReadBack': WHATEVER THE INPUT: true; the input reads as it did. -/
def fnReadBackSpec : ChangeSpec := { name := "fnReadBack", fn := fun _ => fun
  | [d] => { results := [.lit (.bool true)], args := [d] }
  | _ => none }
def fnReadBackRow : OpenClaim := { program := "ytacibgiakaoomaagreat", sum := "05a921f22bdc356f3ba4e57406c7f7b94f540e43c836d4e02634082cc2effcb7", func := "loop.example/g00195/laws.FnReadBack", spec := "fnReadBack", inPlace := ["internal/reflectlite.ValueOf", "internal/reflectlite.Swapper", "(internal/reflectlite.Value).Len"], unfollowed := true, recurses := true, apart := false }
def FnReadBackSaid : Prop := fnReadBackRow.holds Tryz.pinned (OpenSpec.ofChange fnReadBackSpec)

/-- ITS FALSE NEIGHBOUR: 'it returns false'. Refute it at one input. -/
def fnReadBackWrong : ChangeSpec := { name := "fnReadBack", fn := fun _ => fun
  | [d] => { results := [.lit (.bool false)], args := [d] }
  | _ => none }
def FnReadBackWrongFalsely : Prop := fnReadBackRow.holds Tryz.pinned (OpenSpec.ofChange fnReadBackWrong)

/-- 'laws.FnOnceKept': WHATEVER THE INPUT: true; the input reads as it did. -/
def fnOnceKeptSpec : ChangeSpec := { name := "fnOnceKept", fn := fun _ => fun
  | [d] => { results := [.lit (.bool true)], args := [d] }
  | _ => none }
def fnOnceKeptRow : OpenClaim := { program := "ytacibgiakaoomaagreat", sum := "05a921f22bdc356f3ba4e57406c7f7b94f540e43c836d4e02634082cc2effcb7", func := "loop.example/g00195/laws.FnOnceKept", spec := "fnOnceKept", inPlace := ["internal/reflectlite.ValueOf", "internal/reflectlite.Swapper", "(internal/reflectlite.Value).Len"], unfollowed := true, recurses := true, apart := false }
def FnOnceKeptSaid : Prop := fnOnceKeptRow.holds Tryz.pinned (OpenSpec.ofChange fnOnceKeptSpec)

/-- ITS FALSE NEIGHBOUR: 'it returns false'. Refute it at one input. -/
def fnOnceKeptWrong : ChangeSpec := { name := "fnOnceKept", fn := fun _ => fun
  | [d] => { results := [.lit (.bool false)], args := [d] }
  | _ => none }
def FnOnceKeptWrongFalsely : Prop := fnOnceKeptRow.holds Tryz.pinned (OpenSpec.ofChange fnOnceKeptWrong)

/-- 'laws.FnRoomAgain': WHATEVER THE INPUT: true; the input reads as it did. -/
def fnRoomAgainSpec : ChangeSpec := { name := "fnRoomAgain", fn := fun _ => fun
  | [d] => { results := [.lit (.bool true)], args := [d] }
  | _ => none }
def fnRoomAgainRow : OpenClaim := { program := "ytacibgiakaoomaagreat", sum := "05a921f22bdc356f3ba4e57406c7f7b94f540e43c836d4e02634082cc2effcb7", func := "loop.example/g00195/laws.FnRoomAgain", spec := "fnRoomAgain", inPlace := ["internal/reflectlite.ValueOf", "internal/reflectlite.Swapper", "(internal/reflectlite.Value).Len"], unfollowed := true, recurses := true, apart := false }
def FnRoomAgainSaid : Prop := fnRoomAgainRow.holds Tryz.pinned (OpenSpec.ofChange fnRoomAgainSpec)

/-- ITS FALSE NEIGHBOUR: 'it returns false'. Refute it at one input. -/
def fnRoomAgainWrong : ChangeSpec := { name := "fnRoomAgain", fn := fun _ => fun
  | [d] => { results := [.lit (.bool false)], args := [d] }
  | _ => none }
def FnRoomAgainWrongFalsely : Prop := fnRoomAgainRow.holds Tryz.pinned (OpenSpec.ofChange fnRoomAgainWrong)

/- THE SECOND FORM. 'bulk': how many values and letters a reading holds, each counted each time it is reached (what is shared counts as often as it is met; a slice's spare places count too). A statement '..UptoSaid' is the law's where the arguments, and the package variables that the reading takes, are together of bulk at most 1048576: NARROWER than '..Said'. Prove '..Said' where nothing that the law and all that it calls make is longer than what came in: it says more and counts as full. Else prove '..UptoSaid'. A law counts once. -/
mutual
def uptoBulk {H : Type} : DataW H → Nat
  | .lit (.string bytes) => bytes.length + 1
  | .lit _ => 1
  | .nil => 1
  | .ptr d => uptoBulk d + 1
  | .slice elems spare => uptoBulkAll elems + uptoBulkAll spare + 1
  | .agg parts => uptoBulkAll parts + 1
  | .iface _ d => uptoBulk d + 1
  | .map entries => uptoBulkEntries entries + 1
  | .held _ => 1
def uptoBulkAll {H : Type} : List (DataW H) → Nat
  | [] => 0
  | d :: r => uptoBulk d + uptoBulkAll r
def uptoBulkEntries {H : Type} : List (Lit × DataW H) → Nat
  | [] => 0
  | x :: r => uptoBulkEntry x + uptoBulkEntries r
def uptoBulkEntry {H : Type} : Lit × DataW H → Nat
  | (.string bytes, d) => bytes.length + uptoBulk d + 1
  | (_, d) => uptoBulk d + 1
 end
def uptoSmall : (H : Type) → List (DataW H) → Bool := fun _ ds => decide (uptoBulkAll ds ≤ 1048576)
def OpenSpec.upto (s : _root_.Go.ChangeSpec) : _root_.Go.OpenSpec := { _root_.Go.OpenSpec.ofChange s with cond := some uptoSmall }

/-- 'laws.FnModels', WHERE WHAT IT READS IS OF BULK AT MOST 1048576: true; the input reads as it did. -/
def fnModelsUptoRow : OpenClaim := { program := "ytacibgiakaoomaagreat", sum := "05a921f22bdc356f3ba4e57406c7f7b94f540e43c836d4e02634082cc2effcb7", func := "loop.example/g00195/laws.FnModels", spec := "fnModels", apart := false, narrowed := true }
def FnModelsUptoSaid : Prop := fnModelsUptoRow.holds Tryz.pinned (OpenSpec.upto fnModelsSpec)

/-- 'laws.FnReadBack', WHERE WHAT IT READS IS OF BULK AT MOST 1048576: true; the input reads as it did. -/
def fnReadBackUptoRow : OpenClaim := { program := "ytacibgiakaoomaagreat", sum := "05a921f22bdc356f3ba4e57406c7f7b94f540e43c836d4e02634082cc2effcb7", func := "loop.example/g00195/laws.FnReadBack", spec := "fnReadBack", inPlace := ["internal/reflectlite.ValueOf", "internal/reflectlite.Swapper", "(internal/reflectlite.Value).Len"], unfollowed := true, recurses := true, apart := false, narrowed := true }
def FnReadBackUptoSaid : Prop := fnReadBackUptoRow.holds Tryz.pinned (OpenSpec.upto fnReadBackSpec)

/-- 'laws.FnOnceKept', WHERE WHAT IT READS IS OF BULK AT MOST 1048576: true; the input reads as it did. -/
def fnOnceKeptUptoRow : OpenClaim := { program := "ytacibgiakaoomaagreat", sum := "05a921f22bdc356f3ba4e57406c7f7b94f540e43c836d4e02634082cc2effcb7", func := "loop.example/g00195/laws.FnOnceKept", spec := "fnOnceKept", inPlace := ["internal/reflectlite.ValueOf", "internal/reflectlite.Swapper", "(internal/reflectlite.Value).Len"], unfollowed := true, recurses := true, apart := false, narrowed := true }
def FnOnceKeptUptoSaid : Prop := fnOnceKeptUptoRow.holds Tryz.pinned (OpenSpec.upto fnOnceKeptSpec)

/-- 'laws.FnRoomAgain', WHERE WHAT IT READS IS OF BULK AT MOST 1048576: true; the input reads as it did. -/
def fnRoomAgainUptoRow : OpenClaim := { program := "ytacibgiakaoomaagreat", sum := "05a921f22bdc356f3ba4e57406c7f7b94f540e43c836d4e02634082cc2effcb7", func := "loop.example/g00195/laws.FnRoomAgain", spec := "fnRoomAgain", inPlace := ["internal/reflectlite.ValueOf", "internal/reflectlite.Swapper", "(internal/reflectlite.Value).Len"], unfollowed := true, recurses := true, apart := false, narrowed := true }
def FnRoomAgainUptoSaid : Prop := fnRoomAgainUptoRow.holds Tryz.pinned (OpenSpec.upto fnRoomAgainSpec)

end Rows
end Go.Proofs.YtacibgiakaoomaaGreat
