/-
  No cell of these rows narrows 'for every input' (looked for: loops, veiled, ifaces, maps, wideKeys, modest, calm, conditions, laid).
  DERIVED. THE GIVEN ROWS OF THIS SEAT. 5 by the template 'for every input the law returns true; each argument reads behind the call as it read before'; 0 by the template 'total and deterministic' (their statements: YtcjepealfaimfaaGreatTotals.lean).
  GIVEN WITH THE SEED: the statements are not yours to turn. If you find one false, say at which input.
  Laid BY PROGRAM, IN A SANDBOX (cutbox-rows.mjs): the forced cells as the released guide's own fill.sh prints them over the translation a77fb21707012176… (all of the seat's roots in one cut). By AI agents, Wed Nov 11 2026. No macro, syntax, notation, axiom, sorry.
-/
import Derived.Test.YtcjepealfaimfaaGreatChecked
import GoSem.Claim
import GoSem.ClaimJoined
import GoSem.ClaimMapViews
import Derived.JoinedTies
import Derived.KernelRfl
namespace Go.Proofs.YtcjepealfaimfaaGreat
/- THE CELL 'sum', in the pinned program and in every row, IS THE sha256 OF THE DUMP (.gsa) THAT YtcjepealfaimfaaGreatProg.lean LOADS. Nothing in Lean hashes anything: it is a label: what it is worth is what the hold of that sum in a sandbox is worth. -/
noncomputable def Tryz.pinned : Pinned := { name := "ytcjepealfaimfaagreat", sum := "a77fb217070121765a9dad8a658b446e3be45515e4f5231d9076d60c9c095525", checked := Tryz.checked }
namespace Rows
def none {H : Type} : Left H := { results := [], args := [] }

/-- 'laws.FnExactWriteSteps': WHATEVER THE INPUT: true; the input reads as it did. -/
def fnExactWriteStepsSpec : ChangeSpec := { name := "fnExactWriteSteps", fn := fun _ => fun
  | [d1, d2, d3] => { results := [.lit (.bool true)], args := [d1, d2, d3] }
  | _ => none }
def fnExactWriteStepsRow : OpenClaim := { program := "ytcjepealfaimfaagreat", sum := "a77fb217070121765a9dad8a658b446e3be45515e4f5231d9076d60c9c095525", func := "loop.example/g00195/laws.FnExactWriteSteps", spec := "fnExactWriteSteps", apart := false }
def FnExactWriteStepsSaid : Prop := fnExactWriteStepsRow.holds Tryz.pinned (OpenSpec.ofChange fnExactWriteStepsSpec)

/-- ITS FALSE NEIGHBOUR: 'it returns false'. Refute it at one input. -/
def fnExactWriteStepsWrong : ChangeSpec := { name := "fnExactWriteSteps", fn := fun _ => fun
  | [d1, d2, d3] => { results := [.lit (.bool false)], args := [d1, d2, d3] }
  | _ => none }
def FnExactWriteStepsWrongFalsely : Prop := fnExactWriteStepsRow.holds Tryz.pinned (OpenSpec.ofChange fnExactWriteStepsWrong)

/-- 'laws.FnExactBaseSteps': WHATEVER THE INPUT: true; the input reads as it did. -/
def fnExactBaseStepsSpec : ChangeSpec := { name := "fnExactBaseSteps", fn := fun _ => fun
  | [d] => { results := [.lit (.bool true)], args := [d] }
  | _ => none }
def fnExactBaseStepsRow : OpenClaim := { program := "ytcjepealfaimfaagreat", sum := "a77fb217070121765a9dad8a658b446e3be45515e4f5231d9076d60c9c095525", func := "loop.example/g00195/laws.FnExactBaseSteps", spec := "fnExactBaseSteps", apart := false }
def FnExactBaseStepsSaid : Prop := fnExactBaseStepsRow.holds Tryz.pinned (OpenSpec.ofChange fnExactBaseStepsSpec)

/-- ITS FALSE NEIGHBOUR: 'it returns false'. Refute it at one input. -/
def fnExactBaseStepsWrong : ChangeSpec := { name := "fnExactBaseSteps", fn := fun _ => fun
  | [d] => { results := [.lit (.bool false)], args := [d] }
  | _ => none }
def FnExactBaseStepsWrongFalsely : Prop := fnExactBaseStepsRow.holds Tryz.pinned (OpenSpec.ofChange fnExactBaseStepsWrong)

/-- 'laws.FnExactModelOfDevice': WHATEVER THE INPUT: true; the input reads as it did. -/
def fnExactModelOfDeviceSpec : ChangeSpec := { name := "fnExactModelOfDevice", fn := fun _ => fun
  | [d] => { results := [.lit (.bool true)], args := [d] }
  | _ => none }
def fnExactModelOfDeviceRow : OpenClaim := { program := "ytcjepealfaimfaagreat", sum := "a77fb217070121765a9dad8a658b446e3be45515e4f5231d9076d60c9c095525", func := "loop.example/g00195/laws.FnExactModelOfDevice", spec := "fnExactModelOfDevice", inPlace := ["internal/reflectlite.ValueOf", "internal/reflectlite.Swapper", "(internal/reflectlite.Value).Len"], unfollowed := true, recurses := true, apart := false }
def FnExactModelOfDeviceSaid : Prop := fnExactModelOfDeviceRow.holds Tryz.pinned (OpenSpec.ofChange fnExactModelOfDeviceSpec)

/-- ITS FALSE NEIGHBOUR: 'it returns false'. Refute it at one input. -/
def fnExactModelOfDeviceWrong : ChangeSpec := { name := "fnExactModelOfDevice", fn := fun _ => fun
  | [d] => { results := [.lit (.bool false)], args := [d] }
  | _ => none }
def FnExactModelOfDeviceWrongFalsely : Prop := fnExactModelOfDeviceRow.holds Tryz.pinned (OpenSpec.ofChange fnExactModelOfDeviceWrong)

/-- 'laws.FnExactDeadBlocks': WHATEVER THE INPUT: true; the input reads as it did. -/
def fnExactDeadBlocksSpec : ChangeSpec := { name := "fnExactDeadBlocks", fn := fun _ => fun
  | [d] => { results := [.lit (.bool true)], args := [d] }
  | _ => none }
def fnExactDeadBlocksRow : OpenClaim := { program := "ytcjepealfaimfaagreat", sum := "a77fb217070121765a9dad8a658b446e3be45515e4f5231d9076d60c9c095525", func := "loop.example/g00195/laws.FnExactDeadBlocks", spec := "fnExactDeadBlocks", inPlace := ["internal/reflectlite.ValueOf", "internal/reflectlite.Swapper", "(internal/reflectlite.Value).Len"], unfollowed := true, recurses := true, apart := false }
def FnExactDeadBlocksSaid : Prop := fnExactDeadBlocksRow.holds Tryz.pinned (OpenSpec.ofChange fnExactDeadBlocksSpec)

/-- ITS FALSE NEIGHBOUR: 'it returns false'. Refute it at one input. -/
def fnExactDeadBlocksWrong : ChangeSpec := { name := "fnExactDeadBlocks", fn := fun _ => fun
  | [d] => { results := [.lit (.bool false)], args := [d] }
  | _ => none }
def FnExactDeadBlocksWrongFalsely : Prop := fnExactDeadBlocksRow.holds Tryz.pinned (OpenSpec.ofChange fnExactDeadBlocksWrong)

/-- 'laws.FnExactPlanOf': WHATEVER THE INPUT: true; the input reads as it did. -/
def fnExactPlanOfSpec : ChangeSpec := { name := "fnExactPlanOf", fn := fun _ => fun
  | [d1, d2] => { results := [.lit (.bool true)], args := [d1, d2] }
  | _ => none }
def fnExactPlanOfRow : OpenClaim := { program := "ytcjepealfaimfaagreat", sum := "a77fb217070121765a9dad8a658b446e3be45515e4f5231d9076d60c9c095525", func := "loop.example/g00195/laws.FnExactPlanOf", spec := "fnExactPlanOf", inPlace := ["internal/reflectlite.ValueOf", "internal/reflectlite.Swapper", "(internal/reflectlite.Value).Len"], unfollowed := true, recurses := true, apart := false }
def FnExactPlanOfSaid : Prop := fnExactPlanOfRow.holds Tryz.pinned (OpenSpec.ofChange fnExactPlanOfSpec)

/-- ITS FALSE NEIGHBOUR: 'it returns false'. Refute it at one input. -/
def fnExactPlanOfWrong : ChangeSpec := { name := "fnExactPlanOf", fn := fun _ => fun
  | [d1, d2] => { results := [.lit (.bool false)], args := [d1, d2] }
  | _ => none }
def FnExactPlanOfWrongFalsely : Prop := fnExactPlanOfRow.holds Tryz.pinned (OpenSpec.ofChange fnExactPlanOfWrong)

/- THE SECOND FORM. 'bulk': how many values and letters a reading holds, each counted each time it is reached (what is shared counts as often as it is met; a slice's spare places count too). A statement '..UptoSaid' is the law's where the arguments, and the package variables that the reading takes, are together of bulk at most 1048576: NARROWER than '..Said'. Prove '..Said' where nothing that the law and all that it calls make is longer than what came in: it says more and counts as full. Else prove '..UptoSaid'. A law counts once. -/
mutual
def uptoBulk {H : Type} : DataW H → Nat
  | .lit (.string bytes) => bytes.length + 1
  | .lit _ => 1
  | .nil => 1
  | .ptr d => uptoBulk d + 1
  | .slice elems spare => uptoBulkAll elems + uptoBulkAll spare + 1
  | .agg parts => uptoBulkAll parts + 1
  | .iface _ d => uptoBulk d + 1
  | .map entries => uptoBulkEntries entries + 1
  | .held _ => 1
def uptoBulkAll {H : Type} : List (DataW H) → Nat
  | [] => 0
  | d :: r => uptoBulk d + uptoBulkAll r
def uptoBulkEntries {H : Type} : List (Lit × DataW H) → Nat
  | [] => 0
  | x :: r => uptoBulkEntry x + uptoBulkEntries r
def uptoBulkEntry {H : Type} : Lit × DataW H → Nat
  | (.string bytes, d) => bytes.length + uptoBulk d + 1
  | (_, d) => uptoBulk d + 1
 end
def uptoSmall : (H : Type) → List (DataW H) → Bool := fun _ ds => decide (uptoBulkAll ds ≤ 1048576)
def OpenSpec.upto (s : _root_.Go.ChangeSpec) : _root_.Go.OpenSpec := { _root_.Go.OpenSpec.ofChange s with cond := some uptoSmall }

/-- 'laws.FnExactWriteSteps', WHERE WHAT IT READS IS OF BULK AT MOST 1048576: true; the input reads as it did. -/
def fnExactWriteStepsUptoRow : OpenClaim := { program := "ytcjepealfaimfaagreat", sum := "a77fb217070121765a9dad8a658b446e3be45515e4f5231d9076d60c9c095525", func := "loop.example/g00195/laws.FnExactWriteSteps", spec := "fnExactWriteSteps", apart := false, narrowed := true }
def FnExactWriteStepsUptoSaid : Prop := fnExactWriteStepsUptoRow.holds Tryz.pinned (OpenSpec.upto fnExactWriteStepsSpec)

/-- 'laws.FnExactBaseSteps', WHERE WHAT IT READS IS OF BULK AT MOST 1048576: true; the input reads as it did. -/
def fnExactBaseStepsUptoRow : OpenClaim := { program := "ytcjepealfaimfaagreat", sum := "a77fb217070121765a9dad8a658b446e3be45515e4f5231d9076d60c9c095525", func := "loop.example/g00195/laws.FnExactBaseSteps", spec := "fnExactBaseSteps", apart := false, narrowed := true }
def FnExactBaseStepsUptoSaid : Prop := fnExactBaseStepsUptoRow.holds Tryz.pinned (OpenSpec.upto fnExactBaseStepsSpec)

/-- 'laws.FnExactModelOfDevice', WHERE WHAT IT READS IS OF BULK AT MOST 1048576: true; the input reads as it did. -/
def fnExactModelOfDeviceUptoRow : OpenClaim := { program := "ytcjepealfaimfaagreat", sum := "a77fb217070121765a9dad8a658b446e3be45515e4f5231d9076d60c9c095525", func := "loop.example/g00195/laws.FnExactModelOfDevice", spec := "fnExactModelOfDevice", inPlace := ["internal/reflectlite.ValueOf", "internal/reflectlite.Swapper", "(internal/reflectlite.Value).Len"], unfollowed := true, recurses := true, apart := false, narrowed := true }
def FnExactModelOfDeviceUptoSaid : Prop := fnExactModelOfDeviceUptoRow.holds Tryz.pinned (OpenSpec.upto fnExactModelOfDeviceSpec)

/-- 'laws.FnExactDeadBlocks', WHERE WHAT IT READS IS OF BULK AT MOST 1048576: true; the input reads as it did. -/
def fnExactDeadBlocksUptoRow : OpenClaim := { program := "ytcjepealfaimfaagreat", sum := "a77fb217070121765a9dad8a658b446e3be45515e4f5231d9076d60c9c095525", func := "loop.example/g00195/laws.FnExactDeadBlocks", spec := "fnExactDeadBlocks", inPlace := ["internal/reflectlite.ValueOf", "internal/reflectlite.Swapper", "(internal/reflectlite.Value).Len"], unfollowed := true, recurses := true, apart := false, narrowed := true }
def FnExactDeadBlocksUptoSaid : Prop := fnExactDeadBlocksUptoRow.holds Tryz.pinned (OpenSpec.upto fnExactDeadBlocksSpec)

/-- 'laws.FnExactPlanOf', WHERE WHAT IT READS IS OF BULK AT MOST 1048576: true; the input reads as it did. -/
def fnExactPlanOfUptoRow : OpenClaim := { program := "ytcjepealfaimfaagreat", sum := "a77fb217070121765a9dad8a658b446e3be45515e4f5231d9076d60c9c095525", func := "loop.example/g00195/laws.FnExactPlanOf", spec := "fnExactPlanOf", inPlace := ["internal/reflectlite.ValueOf", "internal/reflectlite.Swapper", "(internal/reflectlite.Value).Len"], unfollowed := true, recurses := true, apart := false, narrowed := true }
def FnExactPlanOfUptoSaid : Prop := fnExactPlanOfUptoRow.holds Tryz.pinned (OpenSpec.upto fnExactPlanOfSpec)

end Rows
end Go.Proofs.YtcjepealfaimfaaGreat
