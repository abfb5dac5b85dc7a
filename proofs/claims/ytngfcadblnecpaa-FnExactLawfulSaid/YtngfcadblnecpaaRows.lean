/-
  No cell of these rows narrows 'for every input' (looked for: loops, veiled, ifaces, maps, wideKeys, modest, calm, conditions, laid).
  DERIVED. THE GIVEN ROWS OF THIS SEAT. 5 by the template 'for every input the law returns true; each argument reads behind the call as it read before'; 0 by the template 'total and deterministic' (their statements: YtngfcadblnecpaaTotals.lean).
  GIVEN WITH THE SEED: the statements are not yours to turn. If you find one false, say at which input.
  Laid BY PROGRAM, IN A SANDBOX (cutbox-rows.mjs): the forced cells as the released guide's own fill.sh prints them over the translation 7f3c85a92247812b… (all of the seat's roots in one cut). By AI agents, Wed Nov 11 2026. No macro, syntax, notation, axiom, sorry.
-/
import Derived.Test.YtngfcadblnecpaaChecked
import GoSem.Claim
import GoSem.ClaimJoined
import GoSem.ClaimMapViews
import Derived.JoinedTies
import Derived.KernelRfl
namespace Go.Proofs.Ytngfcadblnecpaa
/- THE CELL 'sum', in the pinned program and in every row, IS THE sha256 OF THE DUMP (.gsa) THAT YtngfcadblnecpaaProg.lean LOADS. Nothing in Lean hashes anything: it is a label: what it is worth is what the hold of that sum in a sandbox is worth. -/
noncomputable def Try.pinned : Pinned := { name := "ytngfcadblnecpaa", sum := "7f3c85a92247812bcd4d773c8b48d1242ddd338169ea3cb1730d2b640db47df3", checked := Try.checked }
namespace Rows
def none {H : Type} : Left H := { results := [], args := [] }

/-- 'laws.FnExactEventOk': WHATEVER THE INPUT: true; the input reads as it did. -/
def fnExactEventOkSpec : ChangeSpec := { name := "fnExactEventOk", fn := fun _ => fun
  | [d] => { results := [.lit (.bool true)], args := [d] }
  | _ => none }
def fnExactEventOkRow : OpenClaim := { program := "ytngfcadblnecpaa", sum := "7f3c85a92247812bcd4d773c8b48d1242ddd338169ea3cb1730d2b640db47df3", func := "loop.example/g00195/laws.FnExactEventOk", spec := "fnExactEventOk", apart := false }
def FnExactEventOkSaid : Prop := fnExactEventOkRow.holds Try.pinned (OpenSpec.ofChange fnExactEventOkSpec)

/-- ITS FALSE NEIGHBOUR: 'it returns false'. Refute it at one input. -/
def fnExactEventOkWrong : ChangeSpec := { name := "fnExactEventOk", fn := fun _ => fun
  | [d] => { results := [.lit (.bool false)], args := [d] }
  | _ => none }
def FnExactEventOkWrongFalsely : Prop := fnExactEventOkRow.holds Try.pinned (OpenSpec.ofChange fnExactEventOkWrong)

/-- 'laws.FnExactSameModel': WHATEVER THE INPUT: true; the input reads as it did. -/
def fnExactSameModelSpec : ChangeSpec := { name := "fnExactSameModel", fn := fun _ => fun
  | [d1, d2] => { results := [.lit (.bool true)], args := [d1, d2] }
  | _ => none }
def fnExactSameModelRow : OpenClaim := { program := "ytngfcadblnecpaa", sum := "7f3c85a92247812bcd4d773c8b48d1242ddd338169ea3cb1730d2b640db47df3", func := "loop.example/g00195/laws.FnExactSameModel", spec := "fnExactSameModel", apart := false }
def FnExactSameModelSaid : Prop := fnExactSameModelRow.holds Try.pinned (OpenSpec.ofChange fnExactSameModelSpec)

/-- ITS FALSE NEIGHBOUR: 'it returns false'. Refute it at one input. -/
def fnExactSameModelWrong : ChangeSpec := { name := "fnExactSameModel", fn := fun _ => fun
  | [d1, d2] => { results := [.lit (.bool false)], args := [d1, d2] }
  | _ => none }
def FnExactSameModelWrongFalsely : Prop := fnExactSameModelRow.holds Try.pinned (OpenSpec.ofChange fnExactSameModelWrong)

/-- 'laws.FnExactWholeOrNot': WHATEVER THE INPUT: true; the input reads as it did. -/
def fnExactWholeOrNotSpec : ChangeSpec := { name := "fnExactWholeOrNot", fn := fun _ => fun
  | [d1, d2, d3] => { results := [.lit (.bool true)], args := [d1, d2, d3] }
  | _ => none }
def fnExactWholeOrNotRow : OpenClaim := { program := "ytngfcadblnecpaa", sum := "7f3c85a92247812bcd4d773c8b48d1242ddd338169ea3cb1730d2b640db47df3", func := "loop.example/g00195/laws.FnExactWholeOrNot", spec := "fnExactWholeOrNot", apart := false }
def FnExactWholeOrNotSaid : Prop := fnExactWholeOrNotRow.holds Try.pinned (OpenSpec.ofChange fnExactWholeOrNotSpec)

/-- ITS FALSE NEIGHBOUR: 'it returns false'. Refute it at one input. -/
def fnExactWholeOrNotWrong : ChangeSpec := { name := "fnExactWholeOrNot", fn := fun _ => fun
  | [d1, d2, d3] => { results := [.lit (.bool false)], args := [d1, d2, d3] }
  | _ => none }
def FnExactWholeOrNotWrongFalsely : Prop := fnExactWholeOrNotRow.holds Try.pinned (OpenSpec.ofChange fnExactWholeOrNotWrong)

/-- 'laws.FnExactLawful': WHATEVER THE INPUT: true; the input reads as it did. -/
def fnExactLawfulSpec : ChangeSpec := { name := "fnExactLawful", fn := fun _ => fun
  | [d1, d2] => { results := [.lit (.bool true)], args := [d1, d2] }
  | _ => none }
def fnExactLawfulRow : OpenClaim := { program := "ytngfcadblnecpaa", sum := "7f3c85a92247812bcd4d773c8b48d1242ddd338169ea3cb1730d2b640db47df3", func := "loop.example/g00195/laws.FnExactLawful", spec := "fnExactLawful", apart := false }
def FnExactLawfulSaid : Prop := fnExactLawfulRow.holds Try.pinned (OpenSpec.ofChange fnExactLawfulSpec)

/-- ITS FALSE NEIGHBOUR: 'it returns false'. Refute it at one input. -/
def fnExactLawfulWrong : ChangeSpec := { name := "fnExactLawful", fn := fun _ => fun
  | [d1, d2] => { results := [.lit (.bool false)], args := [d1, d2] }
  | _ => none }
def FnExactLawfulWrongFalsely : Prop := fnExactLawfulRow.holds Try.pinned (OpenSpec.ofChange fnExactLawfulWrong)

/-- 'laws.FnExactModelOf': WHATEVER THE INPUT: true; the input reads as it did. -/
def fnExactModelOfSpec : ChangeSpec := { name := "fnExactModelOf", fn := fun _ => fun
  | [d1, d2] => { results := [.lit (.bool true)], args := [d1, d2] }
  | _ => none }
def fnExactModelOfRow : OpenClaim := { program := "ytngfcadblnecpaa", sum := "7f3c85a92247812bcd4d773c8b48d1242ddd338169ea3cb1730d2b640db47df3", func := "loop.example/g00195/laws.FnExactModelOf", spec := "fnExactModelOf", apart := false }
def FnExactModelOfSaid : Prop := fnExactModelOfRow.holds Try.pinned (OpenSpec.ofChange fnExactModelOfSpec)

/-- ITS FALSE NEIGHBOUR: 'it returns false'. Refute it at one input. -/
def fnExactModelOfWrong : ChangeSpec := { name := "fnExactModelOf", fn := fun _ => fun
  | [d1, d2] => { results := [.lit (.bool false)], args := [d1, d2] }
  | _ => none }
def FnExactModelOfWrongFalsely : Prop := fnExactModelOfRow.holds Try.pinned (OpenSpec.ofChange fnExactModelOfWrong)

/- THE SECOND FORM. 'bulk': how many values and letters a reading holds, each counted each time it is reached (what is shared counts as often as it is met; a slice's spare places count too). A statement '..UptoSaid' is the law's where the arguments, and the package variables that the reading takes, are together of bulk at most 1048576: NARROWER than '..Said'. Prove '..Said' where nothing that the law and all that it calls make is longer than what came in: it says more and counts as full. Else prove '..UptoSaid'. A law counts once. -/
mutual
def uptoBulk {H : Type} : DataW H → Nat
  | .lit (.string bytes) => bytes.length + 1
  | .lit _ => 1
  | .nil => 1
  | .ptr d => uptoBulk d + 1
  | .slice elems spare => uptoBulkAll elems + uptoBulkAll spare + 1
  | .agg parts => uptoBulkAll parts + 1
  | .iface _ d => uptoBulk d + 1
  | .map entries => uptoBulkEntries entries + 1
  | .held _ => 1
def uptoBulkAll {H : Type} : List (DataW H) → Nat
  | [] => 0
  | d :: r => uptoBulk d + uptoBulkAll r
def uptoBulkEntries {H : Type} : List (Lit × DataW H) → Nat
  | [] => 0
  | x :: r => uptoBulkEntry x + uptoBulkEntries r
def uptoBulkEntry {H : Type} : Lit × DataW H → Nat
  | (.string bytes, d) => bytes.length + uptoBulk d + 1
  | (_, d) => uptoBulk d + 1
 end
def uptoSmall : (H : Type) → List (DataW H) → Bool := fun _ ds => decide (uptoBulkAll ds ≤ 1048576)
def OpenSpec.upto (s : _root_.Go.ChangeSpec) : _root_.Go.OpenSpec := { _root_.Go.OpenSpec.ofChange s with cond := some uptoSmall }

/-- 'laws.FnExactEventOk', WHERE WHAT IT READS IS OF BULK AT MOST 1048576: true; the input reads as it did. -/
def fnExactEventOkUptoRow : OpenClaim := { program := "ytngfcadblnecpaa", sum := "7f3c85a92247812bcd4d773c8b48d1242ddd338169ea3cb1730d2b640db47df3", func := "loop.example/g00195/laws.FnExactEventOk", spec := "fnExactEventOk", apart := false, narrowed := true }
def FnExactEventOkUptoSaid : Prop := fnExactEventOkUptoRow.holds Try.pinned (OpenSpec.upto fnExactEventOkSpec)

/-- 'laws.FnExactSameModel', WHERE WHAT IT READS IS OF BULK AT MOST 1048576: true; the input reads as it did. -/
def fnExactSameModelUptoRow : OpenClaim := { program := "ytngfcadblnecpaa", sum := "7f3c85a92247812bcd4d773c8b48d1242ddd338169ea3cb1730d2b640db47df3", func := "loop.example/g00195/laws.FnExactSameModel", spec := "fnExactSameModel", apart := false, narrowed := true }
def FnExactSameModelUptoSaid : Prop := fnExactSameModelUptoRow.holds Try.pinned (OpenSpec.upto fnExactSameModelSpec)

/-- 'laws.FnExactWholeOrNot', WHERE WHAT IT READS IS OF BULK AT MOST 1048576: true; the input reads as it did. -/
def fnExactWholeOrNotUptoRow : OpenClaim := { program := "ytngfcadblnecpaa", sum := "7f3c85a92247812bcd4d773c8b48d1242ddd338169ea3cb1730d2b640db47df3", func := "loop.example/g00195/laws.FnExactWholeOrNot", spec := "fnExactWholeOrNot", apart := false, narrowed := true }
def FnExactWholeOrNotUptoSaid : Prop := fnExactWholeOrNotUptoRow.holds Try.pinned (OpenSpec.upto fnExactWholeOrNotSpec)

/-- 'laws.FnExactLawful', WHERE WHAT IT READS IS OF BULK AT MOST 1048576: true; the input reads as it did. -/
def fnExactLawfulUptoRow : OpenClaim := { program := "ytngfcadblnecpaa", sum := "7f3c85a92247812bcd4d773c8b48d1242ddd338169ea3cb1730d2b640db47df3", func := "loop.example/g00195/laws.FnExactLawful", spec := "fnExactLawful", apart := false, narrowed := true }
def FnExactLawfulUptoSaid : Prop := fnExactLawfulUptoRow.holds Try.pinned (OpenSpec.upto fnExactLawfulSpec)

/-- 'laws.FnExactModelOf', WHERE WHAT IT READS IS OF BULK AT MOST 1048576: true; the input reads as it did. -/
def fnExactModelOfUptoRow : OpenClaim := { program := "ytngfcadblnecpaa", sum := "7f3c85a92247812bcd4d773c8b48d1242ddd338169ea3cb1730d2b640db47df3", func := "loop.example/g00195/laws.FnExactModelOf", spec := "fnExactModelOf", apart := false, narrowed := true }
def FnExactModelOfUptoSaid : Prop := fnExactModelOfUptoRow.holds Try.pinned (OpenSpec.upto fnExactModelOfSpec)

end Rows
end Go.Proofs.Ytngfcadblnecpaa
