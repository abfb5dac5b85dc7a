/- That sort.SliceStable sorts what stands beside. No condition. -/
import Derived.Test.YtcjepealfaimfaaGreatPOSOW
import Derived.Test.YtcjepealfaimfaaGreatPOTIE
import Derived.Lib.ReflectliteSlice
import Derived.WalkKit
import Derived.Below
import Derived.KernelRfl
import Derived.Shelf.Abstract
namespace Go.TI
open Go Go.Proofs Go.Lib Go.RowKit
set_option linter.unusedVariables false
set_option linter.unusedSimpArgs false
set_option maxHeartbeats 1000000 in
set_option maxRecDepth 100000 in
theorem sort_SliceStable_m (t e : TypeId) (i ie : TypeInfo) (hi : Tryz.prog.info? t = some i) (hd : i.desc = .slice e) (hpk : Tryz.prog.packed t = false) (hie : Tryz.prog.info? e = some ie) (ke : Nat) (hke : ∀ w, (Extern.Rtype.kind e).run Tryz.prog w = .ok ke w)
    (p : Option Addr) (n c : Nat) (f : Nat) (hf : Tryz.prog.funcs.findIdx? (·.name == "internal/reflectlite" ++ ".Swapper$" ++ toString (swapperK n ie ke)) = some f) (lf : Fn) (la lb : Array Value) (A A' : Amb) (sb : Array Value) (hsb : sb = if swapperK n ie ke ≤ 2 then #[] else #[.slice p n c, typeHandle Tryz.prog e])
    (hp : GivesA Tryz.prog 194 A [.sv (.agg [.fn lf la lb, .fn (.func f) #[] sb]), .sv (.one (.int .i64 n))] A') (w : World) (hA : A.I w) (hB : ∀ b ∈ A.B, b < w.heap.size) :
    Calls Tryz.prog 159 #[.iface t (.slice p n c), .func lf la lb] w fun e w' => e = .returned (.tuple #[]) ∧ Beside w w' A.B ∧ A'.I w' := by
  have hv := run_valueOf_slice (P := Tryz.prog) t e i hi hd p n c w
  have hs := fun w => run_swapper_slice (P := Tryz.prog) t e i ie hi hd hie ke hke p n c f hf w
  have hl := fun a w ha => run_valueLen_slice (P := Tryz.prog) t e i hi hd hpk a p n c w ha
  rw [← hsb] at hs
  have hc : ∀ x y, Calls Tryz.prog 194 #[.agg #[.func lf la lb, .func (.func f) #[] sb], .int .i64 n] ((w.alloc x).alloc y) fun e w' => e = .returned (.tuple #[]) ∧ Beside w w' A.B ∧ A'.I w' := by
    intro x y
    have k1 : ∀ b, b < w.heap.size → ((w.alloc x).alloc y).heap[b]? = w.heap[b]? := fun b hb => by
      rw [Below.heap_alloc _ _ _ (by simp; omega), Below.heap_alloc _ _ _ hb]
    have := hp ((w.alloc x).alloc y) [.agg #[.func lf la lb, .func (.func f) #[] sb], .int .i64 n] ⟨_, _, [], [], [], [], rfl, rfl, rfl, ⟨[.func lf la lb, .func (.func f) #[] sb], rfl, ⟨_, _, [], [], [], [], rfl, rfl, rfl, ⟨rfl, rfl, rfl⟩, _, _, [], [], [], [], rfl, rfl, rfl, ⟨rfl, rfl, rfl⟩, rfl, rfl, rfl⟩⟩, ⟨_, _, [], [], [], [], rfl, rfl, rfl, ⟨by simp [rep], rfl⟩, ⟨rfl, rfl, rfl⟩⟩⟩
      (fun b hb => by have := hB b hb; simp; omega) (A.st _ _ hA (fun b hb => k1 b (hB b hb)))
    refine this.mono ?_
    rintro e w' ⟨rfl, hb, hI⟩
    refine ⟨rfl, ⟨hb.os, hb.tape, hb.output, ?_, ?_⟩, hI⟩
    · have := hb.size; simp at this; omega
    · intro b h1 h2
      rw [hb.keep b (by simp; omega) h2, k1 b h1]
  clear hp hsb hA hB hf
  simp only [typeHandle, show Tryz.prog.globals.size = 0 from rfl] at hv hl
  go_enter Tryz.func159, Tryz.ntmps159
  go_wp2
  rw [run_callFunc_extern Tryz.func192 (by kernel_rfl) (by kernel_rfl) (by kernel_rfl) (e := fun args => Extern.ReflectliteValue.unpack (args.getD 0 (.tuple #[]))) (by kernel_rfl),
    show Sem.run Tryz.prog ((fun args : Array Value => Extern.ReflectliteValue.unpack (args.getD 0 (.tuple #[]))) #[.iface t (.slice p n c)]) w = _ from hv]
  simp only [Result.andThen]
  rw [Oper.upon_value]
  go_wp2
  rw [run_callFunc_extern Tryz.func193 (by kernel_rfl) (by kernel_rfl) (by kernel_rfl) (e := Extern.ReflectliteSwapper.swapper "internal/reflectlite" (Extern.ReflectliteValue.valueError "Swapper")) (by kernel_rfl), hs]
  simp only [Result.andThen]
  rw [Oper.upon_value]
  go_wp2
  rw [run_callFunc_extern Tryz.func195 (by kernel_rfl) (by kernel_rfl) (by kernel_rfl) (e := Extern.ReflectliteValue.method (Extern.ReflectliteValue.valueError "reflectlite.Value.Len" 0) Extern.ReflectliteValue.len) (by kernel_rfl),
    hl _ _ (by simp)]
  simp only [Result.andThen]
  rw [Oper.upon_value]
  go_wp2_with (go_at_call 194; refine (hc _ _).mono ?_; rintro e w' ⟨rfl, hR⟩)
  go_end0
  exact ⟨rfl, hR⟩
end Go.TI
