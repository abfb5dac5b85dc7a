/-
  No cell of these rows narrows 'for every input' (looked for: loops, veiled, ifaces, maps, wideKeys, modest, calm, conditions, laid).
  DERIVED. THE GIVEN ROWS OF THIS SEAT. 6 by the template 'for every input the law returns true; each argument reads behind the call as it read before'; 0 by the template 'total and deterministic' (their statements: YtjjfmdpchohfaaaGreatTotals.lean).
  GIVEN WITH THE SEED: the statements are not yours to turn. If you find one false, say at which input.
  Laid BY PROGRAM, IN A SANDBOX (cutbox-rows.mjs): the forced cells as the released guide's own fill.sh prints them over the translation 21efa03c0a2e6736… (all of the seat's roots in one cut). By AI agents, Wed Nov 11 2026. No macro, syntax, notation, axiom, sorry.
-/
import Derived.Test.YtjjfmdpchohfaaaGreatChecked
import GoSem.Claim
import GoSem.ClaimJoined
import GoSem.ClaimMapViews
import Derived.JoinedTies
import Derived.KernelRfl
namespace Go.Proofs.YtjjfmdpchohfaaaGreat
/- THE CELL 'sum', in the pinned program and in every row, IS THE sha256 OF THE DUMP (.gsa) THAT YtjjfmdpchohfaaaGreatProg.lean LOADS. Nothing in Lean hashes anything: it is a label: what it is worth is what the hold of that sum in a sandbox is worth. -/
noncomputable def Tryz.pinned : Pinned := { name := "ytjjfmdpchohfaaagreat", sum := "21efa03c0a2e6736d68a66146d60b0ea0e573b3f55d3d8555cd8f7129e7b63dc", checked := Tryz.checked }
namespace Rows
def none {H : Type} : Left H := { results := [], args := [] }

/-- 'laws.FnWholeOrNot': WHATEVER THE INPUT: true; the input reads as it did. -/
def fnWholeOrNotSpec : ChangeSpec := { name := "fnWholeOrNot", fn := fun _ => fun
  | [d] => { results := [.lit (.bool true)], args := [d] }
  | _ => none }
def fnWholeOrNotRow : OpenClaim := { program := "ytjjfmdpchohfaaagreat", sum := "21efa03c0a2e6736d68a66146d60b0ea0e573b3f55d3d8555cd8f7129e7b63dc", func := "loop.example/g00195/laws.FnWholeOrNot", spec := "fnWholeOrNot", inPlace := ["internal/reflectlite.ValueOf", "internal/reflectlite.Swapper", "(internal/reflectlite.Value).Len"], unfollowed := true, recurses := true, apart := false }
def FnWholeOrNotSaid : Prop := fnWholeOrNotRow.holds Tryz.pinned (OpenSpec.ofChange fnWholeOrNotSpec)

/-- ITS FALSE NEIGHBOUR: 'it returns false'. Refute it at one input. -/
def fnWholeOrNotWrong : ChangeSpec := { name := "fnWholeOrNot", fn := fun _ => fun
  | [d] => { results := [.lit (.bool false)], args := [d] }
  | _ => none }
def FnWholeOrNotWrongFalsely : Prop := fnWholeOrNotRow.holds Tryz.pinned (OpenSpec.ofChange fnWholeOrNotWrong)

/-- 'laws.FnTrimmed': WHATEVER THE INPUT: true; the input reads as it did. -/
def fnTrimmedSpec : ChangeSpec := { name := "fnTrimmed", fn := fun _ => fun
  | [d] => { results := [.lit (.bool true)], args := [d] }
  | _ => none }
def fnTrimmedRow : OpenClaim := { program := "ytjjfmdpchohfaaagreat", sum := "21efa03c0a2e6736d68a66146d60b0ea0e573b3f55d3d8555cd8f7129e7b63dc", func := "loop.example/g00195/laws.FnTrimmed", spec := "fnTrimmed", inPlace := ["internal/reflectlite.ValueOf", "internal/reflectlite.Swapper", "(internal/reflectlite.Value).Len"], unfollowed := true, recurses := true, apart := false }
def FnTrimmedSaid : Prop := fnTrimmedRow.holds Tryz.pinned (OpenSpec.ofChange fnTrimmedSpec)

/-- ITS FALSE NEIGHBOUR: 'it returns false'. Refute it at one input. -/
def fnTrimmedWrong : ChangeSpec := { name := "fnTrimmed", fn := fun _ => fun
  | [d] => { results := [.lit (.bool false)], args := [d] }
  | _ => none }
def FnTrimmedWrongFalsely : Prop := fnTrimmedRow.holds Tryz.pinned (OpenSpec.ofChange fnTrimmedWrong)

/-- 'laws.FnTwoCuts': WHATEVER THE INPUT: true; the input reads as it did. -/
def fnTwoCutsSpec : ChangeSpec := { name := "fnTwoCuts", fn := fun _ => fun
  | [d] => { results := [.lit (.bool true)], args := [d] }
  | _ => none }
def fnTwoCutsRow : OpenClaim := { program := "ytjjfmdpchohfaaagreat", sum := "21efa03c0a2e6736d68a66146d60b0ea0e573b3f55d3d8555cd8f7129e7b63dc", func := "loop.example/g00195/laws.FnTwoCuts", spec := "fnTwoCuts", inPlace := ["internal/reflectlite.ValueOf", "internal/reflectlite.Swapper", "(internal/reflectlite.Value).Len"], unfollowed := true, recurses := true, apart := false }
def FnTwoCutsSaid : Prop := fnTwoCutsRow.holds Tryz.pinned (OpenSpec.ofChange fnTwoCutsSpec)

/-- ITS FALSE NEIGHBOUR: 'it returns false'. Refute it at one input. -/
def fnTwoCutsWrong : ChangeSpec := { name := "fnTwoCuts", fn := fun _ => fun
  | [d] => { results := [.lit (.bool false)], args := [d] }
  | _ => none }
def FnTwoCutsWrongFalsely : Prop := fnTwoCutsRow.holds Tryz.pinned (OpenSpec.ofChange fnTwoCutsWrong)

/-- 'laws.FnTop': WHATEVER THE INPUT: true; the input reads as it did. -/
def fnTopSpec : ChangeSpec := { name := "fnTop", fn := fun _ => fun
  | [d] => { results := [.lit (.bool true)], args := [d] }
  | _ => none }
def fnTopRow : OpenClaim := { program := "ytjjfmdpchohfaaagreat", sum := "21efa03c0a2e6736d68a66146d60b0ea0e573b3f55d3d8555cd8f7129e7b63dc", func := "loop.example/g00195/laws.FnTop", spec := "fnTop", inPlace := ["internal/reflectlite.ValueOf", "internal/reflectlite.Swapper", "(internal/reflectlite.Value).Len"], unfollowed := true, recurses := true, apart := false }
def FnTopSaid : Prop := fnTopRow.holds Tryz.pinned (OpenSpec.ofChange fnTopSpec)

/-- ITS FALSE NEIGHBOUR: 'it returns false'. Refute it at one input. -/
def fnTopWrong : ChangeSpec := { name := "fnTop", fn := fun _ => fun
  | [d] => { results := [.lit (.bool false)], args := [d] }
  | _ => none }
def FnTopWrongFalsely : Prop := fnTopRow.holds Tryz.pinned (OpenSpec.ofChange fnTopWrong)

/-- 'laws.FnLives': WHATEVER THE INPUT: true; the input reads as it did. -/
def fnLivesSpec : ChangeSpec := { name := "fnLives", fn := fun _ => fun
  | [d] => { results := [.lit (.bool true)], args := [d] }
  | _ => none }
def fnLivesRow : OpenClaim := { program := "ytjjfmdpchohfaaagreat", sum := "21efa03c0a2e6736d68a66146d60b0ea0e573b3f55d3d8555cd8f7129e7b63dc", func := "loop.example/g00195/laws.FnLives", spec := "fnLives", inPlace := ["internal/reflectlite.ValueOf", "internal/reflectlite.Swapper", "(internal/reflectlite.Value).Len"], unfollowed := true, recurses := true, apart := false }
def FnLivesSaid : Prop := fnLivesRow.holds Tryz.pinned (OpenSpec.ofChange fnLivesSpec)

/-- ITS FALSE NEIGHBOUR: 'it returns false'. Refute it at one input. -/
def fnLivesWrong : ChangeSpec := { name := "fnLives", fn := fun _ => fun
  | [d] => { results := [.lit (.bool false)], args := [d] }
  | _ => none }
def FnLivesWrongFalsely : Prop := fnLivesRow.holds Tryz.pinned (OpenSpec.ofChange fnLivesWrong)

/-- 'laws.FnWatches': WHATEVER THE INPUT: true; the input reads as it did. -/
def fnWatchesSpec : ChangeSpec := { name := "fnWatches", fn := fun _ => fun
  | [d] => { results := [.lit (.bool true)], args := [d] }
  | _ => none }
def fnWatchesRow : OpenClaim := { program := "ytjjfmdpchohfaaagreat", sum := "21efa03c0a2e6736d68a66146d60b0ea0e573b3f55d3d8555cd8f7129e7b63dc", func := "loop.example/g00195/laws.FnWatches", spec := "fnWatches", inPlace := ["internal/reflectlite.ValueOf", "internal/reflectlite.Swapper", "(internal/reflectlite.Value).Len"], unfollowed := true, recurses := true, apart := false }
def FnWatchesSaid : Prop := fnWatchesRow.holds Tryz.pinned (OpenSpec.ofChange fnWatchesSpec)

/-- ITS FALSE NEIGHBOUR: 'it returns false'. Refute it at one input. -/
def fnWatchesWrong : ChangeSpec := { name := "fnWatches", fn := fun _ => fun
  | [d] => { results := [.lit (.bool false)], args := [d] }
  | _ => none }
def FnWatchesWrongFalsely : Prop := fnWatchesRow.holds Tryz.pinned (OpenSpec.ofChange fnWatchesWrong)

/- THE SECOND FORM. 'bulk': how many values and letters a reading holds, each counted each time it is reached (what is shared counts as often as it is met; a slice's spare places count too). A statement '..UptoSaid' is the law's where the arguments, and the package variables that the reading takes, are together of bulk at most 1048576: NARROWER than '..Said'. Prove '..Said' where nothing that the law and all that it calls make is longer than what came in: it says more and counts as full. Else prove '..UptoSaid'. A law counts once. -/
mutual
def uptoBulk {H : Type} : DataW H → Nat
  | .lit (.string bytes) => bytes.length + 1
  | .lit _ => 1
  | .nil => 1
  | .ptr d => uptoBulk d + 1
  | .slice elems spare => uptoBulkAll elems + uptoBulkAll spare + 1
  | .agg parts => uptoBulkAll parts + 1
  | .iface _ d => uptoBulk d + 1
  | .map entries => uptoBulkEntries entries + 1
  | .held _ => 1
def uptoBulkAll {H : Type} : List (DataW H) → Nat
  | [] => 0
  | d :: r => uptoBulk d + uptoBulkAll r
def uptoBulkEntries {H : Type} : List (Lit × DataW H) → Nat
  | [] => 0
  | x :: r => uptoBulkEntry x + uptoBulkEntries r
def uptoBulkEntry {H : Type} : Lit × DataW H → Nat
  | (.string bytes, d) => bytes.length + uptoBulk d + 1
  | (_, d) => uptoBulk d + 1
 end
def uptoSmall : (H : Type) → List (DataW H) → Bool := fun _ ds => decide (uptoBulkAll ds ≤ 1048576)
def OpenSpec.upto (s : _root_.Go.ChangeSpec) : _root_.Go.OpenSpec := { _root_.Go.OpenSpec.ofChange s with cond := some uptoSmall }

/-- 'laws.FnWholeOrNot', WHERE WHAT IT READS IS OF BULK AT MOST 1048576: true; the input reads as it did. -/
def fnWholeOrNotUptoRow : OpenClaim := { program := "ytjjfmdpchohfaaagreat", sum := "21efa03c0a2e6736d68a66146d60b0ea0e573b3f55d3d8555cd8f7129e7b63dc", func := "loop.example/g00195/laws.FnWholeOrNot", spec := "fnWholeOrNot", inPlace := ["internal/reflectlite.ValueOf", "internal/reflectlite.Swapper", "(internal/reflectlite.Value).Len"], unfollowed := true, recurses := true, apart := false, narrowed := true }
def FnWholeOrNotUptoSaid : Prop := fnWholeOrNotUptoRow.holds Tryz.pinned (OpenSpec.upto fnWholeOrNotSpec)

/-- 'laws.FnTrimmed', WHERE WHAT IT READS IS OF BULK AT MOST 1048576: true; the input reads as it did. -/
def fnTrimmedUptoRow : OpenClaim := { program := "ytjjfmdpchohfaaagreat", sum := "21efa03c0a2e6736d68a66146d60b0ea0e573b3f55d3d8555cd8f7129e7b63dc", func := "loop.example/g00195/laws.FnTrimmed", spec := "fnTrimmed", inPlace := ["internal/reflectlite.ValueOf", "internal/reflectlite.Swapper", "(internal/reflectlite.Value).Len"], unfollowed := true, recurses := true, apart := false, narrowed := true }
def FnTrimmedUptoSaid : Prop := fnTrimmedUptoRow.holds Tryz.pinned (OpenSpec.upto fnTrimmedSpec)

/-- 'laws.FnTwoCuts', WHERE WHAT IT READS IS OF BULK AT MOST 1048576: true; the input reads as it did. -/
def fnTwoCutsUptoRow : OpenClaim := { program := "ytjjfmdpchohfaaagreat", sum := "21efa03c0a2e6736d68a66146d60b0ea0e573b3f55d3d8555cd8f7129e7b63dc", func := "loop.example/g00195/laws.FnTwoCuts", spec := "fnTwoCuts", inPlace := ["internal/reflectlite.ValueOf", "internal/reflectlite.Swapper", "(internal/reflectlite.Value).Len"], unfollowed := true, recurses := true, apart := false, narrowed := true }
def FnTwoCutsUptoSaid : Prop := fnTwoCutsUptoRow.holds Tryz.pinned (OpenSpec.upto fnTwoCutsSpec)

/-- 'laws.FnTop', WHERE WHAT IT READS IS OF BULK AT MOST 1048576: true; the input reads as it did. -/
def fnTopUptoRow : OpenClaim := { program := "ytjjfmdpchohfaaagreat", sum := "21efa03c0a2e6736d68a66146d60b0ea0e573b3f55d3d8555cd8f7129e7b63dc", func := "loop.example/g00195/laws.FnTop", spec := "fnTop", inPlace := ["internal/reflectlite.ValueOf", "internal/reflectlite.Swapper", "(internal/reflectlite.Value).Len"], unfollowed := true, recurses := true, apart := false, narrowed := true }
def FnTopUptoSaid : Prop := fnTopUptoRow.holds Tryz.pinned (OpenSpec.upto fnTopSpec)

/-- 'laws.FnLives', WHERE WHAT IT READS IS OF BULK AT MOST 1048576: true; the input reads as it did. -/
def fnLivesUptoRow : OpenClaim := { program := "ytjjfmdpchohfaaagreat", sum := "21efa03c0a2e6736d68a66146d60b0ea0e573b3f55d3d8555cd8f7129e7b63dc", func := "loop.example/g00195/laws.FnLives", spec := "fnLives", inPlace := ["internal/reflectlite.ValueOf", "internal/reflectlite.Swapper", "(internal/reflectlite.Value).Len"], unfollowed := true, recurses := true, apart := false, narrowed := true }
def FnLivesUptoSaid : Prop := fnLivesUptoRow.holds Tryz.pinned (OpenSpec.upto fnLivesSpec)

/-- 'laws.FnWatches', WHERE WHAT IT READS IS OF BULK AT MOST 1048576: true; the input reads as it did. -/
def fnWatchesUptoRow : OpenClaim := { program := "ytjjfmdpchohfaaagreat", sum := "21efa03c0a2e6736d68a66146d60b0ea0e573b3f55d3d8555cd8f7129e7b63dc", func := "loop.example/g00195/laws.FnWatches", spec := "fnWatches", inPlace := ["internal/reflectlite.ValueOf", "internal/reflectlite.Swapper", "(internal/reflectlite.Value).Len"], unfollowed := true, recurses := true, apart := false, narrowed := true }
def FnWatchesUptoSaid : Prop := fnWatchesUptoRow.holds Tryz.pinned (OpenSpec.upto fnWatchesSpec)

end Rows
end Go.Proofs.YtjjfmdpchohfaaaGreat
