/-
  No cell of these rows narrows 'for every input' (looked for: loops, veiled, ifaces, maps, wideKeys, modest, calm, conditions, laid).
  DERIVED. THE GIVEN ROWS OF THIS SEAT. 2 by the template 'for every input the law returns true; each argument reads behind the call as it read before'; 0 by the template 'total and deterministic' (their statements: YtpnbblnolkhliaaGreatTotals.lean).
  GIVEN WITH THE SEED: the statements are not yours to turn. If you find one false, say at which input.
  Laid BY PROGRAM, IN A SANDBOX (cutbox-rows.mjs): the forced cells as the released guide's own fill.sh prints them over the translation ef13afd1c1cc99ee… (all of the seat's roots in one cut). By AI agents, Wed Nov 11 2026. No macro, syntax, notation, axiom, sorry.
-/
import Derived.Test.YtpnbblnolkhliaaGreatChecked
import GoSem.Claim
import GoSem.ClaimJoined
import GoSem.ClaimMapViews
import Derived.JoinedTies
import Derived.KernelRfl
namespace Go.Proofs.YtpnbblnolkhliaaGreat
/- THE CELL 'sum', in the pinned program and in every row, IS THE sha256 OF THE DUMP (.gsa) THAT YtpnbblnolkhliaaGreatProg.lean LOADS. Nothing in Lean hashes anything: it is a label: what it is worth is what the hold of that sum in a sandbox is worth. -/
noncomputable def Tryz.pinned : Pinned := { name := "ytpnbblnolkhliaagreat", sum := "ef13afd1c1cc99ee5d01912af3f7811802934dd43ce990922e9099bdacd543e8", checked := Tryz.checked }
namespace Rows
def none {H : Type} : Left H := { results := [], args := [] }

/-- 'laws.FnWorn': WHATEVER THE INPUT: true; the input reads as it did. -/
def fnWornSpec : ChangeSpec := { name := "fnWorn", fn := fun _ => fun
  | [d] => { results := [.lit (.bool true)], args := [d] }
  | _ => none }
def fnWornRow : OpenClaim := { program := "ytpnbblnolkhliaagreat", sum := "ef13afd1c1cc99ee5d01912af3f7811802934dd43ce990922e9099bdacd543e8", func := "loop.example/g00195/laws.FnWorn", spec := "fnWorn", inPlace := ["internal/reflectlite.ValueOf", "internal/reflectlite.Swapper", "(internal/reflectlite.Value).Len"], unfollowed := true, recurses := true, apart := false }
def FnWornSaid : Prop := fnWornRow.holds Tryz.pinned (OpenSpec.ofChange fnWornSpec)

/-- ITS FALSE NEIGHBOUR: 'it returns false'. Refute it at one input. -/
def fnWornWrong : ChangeSpec := { name := "fnWorn", fn := fun _ => fun
  | [d] => { results := [.lit (.bool false)], args := [d] }
  | _ => none }
def FnWornWrongFalsely : Prop := fnWornRow.holds Tryz.pinned (OpenSpec.ofChange fnWornWrong)

/-- 'laws.FnLawful': WHATEVER THE INPUT: true; the input reads as it did. -/
def fnLawfulSpec : ChangeSpec := { name := "fnLawful", fn := fun _ => fun
  | [d] => { results := [.lit (.bool true)], args := [d] }
  | _ => none }
def fnLawfulRow : OpenClaim := { program := "ytpnbblnolkhliaagreat", sum := "ef13afd1c1cc99ee5d01912af3f7811802934dd43ce990922e9099bdacd543e8", func := "loop.example/g00195/laws.FnLawful", spec := "fnLawful", inPlace := ["internal/reflectlite.ValueOf", "internal/reflectlite.Swapper", "(internal/reflectlite.Value).Len"], unfollowed := true, recurses := true, apart := false }
def FnLawfulSaid : Prop := fnLawfulRow.holds Tryz.pinned (OpenSpec.ofChange fnLawfulSpec)

/-- ITS FALSE NEIGHBOUR: 'it returns false'. Refute it at one input. -/
def fnLawfulWrong : ChangeSpec := { name := "fnLawful", fn := fun _ => fun
  | [d] => { results := [.lit (.bool false)], args := [d] }
  | _ => none }
def FnLawfulWrongFalsely : Prop := fnLawfulRow.holds Tryz.pinned (OpenSpec.ofChange fnLawfulWrong)

/- THE SECOND FORM. 'bulk': how many values and letters a reading holds, each counted each time it is reached (what is shared counts as often as it is met; a slice's spare places count too). A statement '..UptoSaid' is the law's where the arguments, and the package variables that the reading takes, are together of bulk at most 1048576: NARROWER than '..Said'. Prove '..Said' where nothing that the law and all that it calls make is longer than what came in: it says more and counts as full. Else prove '..UptoSaid'. A law counts once. -/
mutual
def uptoBulk {H : Type} : DataW H → Nat
  | .lit (.string bytes) => bytes.length + 1
  | .lit _ => 1
  | .nil => 1
  | .ptr d => uptoBulk d + 1
  | .slice elems spare => uptoBulkAll elems + uptoBulkAll spare + 1
  | .agg parts => uptoBulkAll parts + 1
  | .iface _ d => uptoBulk d + 1
  | .map entries => uptoBulkEntries entries + 1
  | .held _ => 1
def uptoBulkAll {H : Type} : List (DataW H) → Nat
  | [] => 0
  | d :: r => uptoBulk d + uptoBulkAll r
def uptoBulkEntries {H : Type} : List (Lit × DataW H) → Nat
  | [] => 0
  | x :: r => uptoBulkEntry x + uptoBulkEntries r
def uptoBulkEntry {H : Type} : Lit × DataW H → Nat
  | (.string bytes, d) => bytes.length + uptoBulk d + 1
  | (_, d) => uptoBulk d + 1
 end
def uptoSmall : (H : Type) → List (DataW H) → Bool := fun _ ds => decide (uptoBulkAll ds ≤ 1048576)
def OpenSpec.upto (s : _root_.Go.ChangeSpec) : _root_.Go.OpenSpec := { _root_.Go.OpenSpec.ofChange s with cond := some uptoSmall }

/-- 'laws.FnWorn', WHERE WHAT IT READS IS OF BULK AT MOST 1048576: true; the input reads as it did. -/
def fnWornUptoRow : OpenClaim := { program := "ytpnbblnolkhliaagreat", sum := "ef13afd1c1cc99ee5d01912af3f7811802934dd43ce990922e9099bdacd543e8", func := "loop.example/g00195/laws.FnWorn", spec := "fnWorn", inPlace := ["internal/reflectlite.ValueOf", "internal/reflectlite.Swapper", "(internal/reflectlite.Value).Len"], unfollowed := true, recurses := true, apart := false, narrowed := true }
def FnWornUptoSaid : Prop := fnWornUptoRow.holds Tryz.pinned (OpenSpec.upto fnWornSpec)

/-- 'laws.FnLawful', WHERE WHAT IT READS IS OF BULK AT MOST 1048576: true; the input reads as it did. -/
def fnLawfulUptoRow : OpenClaim := { program := "ytpnbblnolkhliaagreat", sum := "ef13afd1c1cc99ee5d01912af3f7811802934dd43ce990922e9099bdacd543e8", func := "loop.example/g00195/laws.FnLawful", spec := "fnLawful", inPlace := ["internal/reflectlite.ValueOf", "internal/reflectlite.Swapper", "(internal/reflectlite.Value).Len"], unfollowed := true, recurses := true, apart := false, narrowed := true }
def FnLawfulUptoSaid : Prop := fnLawfulUptoRow.holds Tryz.pinned (OpenSpec.upto fnLawfulSpec)

end Rows
end Go.Proofs.YtpnbblnolkhliaaGreat
