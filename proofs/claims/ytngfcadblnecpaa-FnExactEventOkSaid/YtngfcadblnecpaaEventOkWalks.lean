/- What the functions that FnExactEventOk reaches compute, for all arguments, in the given program. No condition. -/
import Derived.Test.YtngfcadblnecpaaTJe
import Derived.Test.YtngfcadblnecpaaProg
namespace Go.TI
open Go Go.Proofs
set_option linter.unusedVariables false
set_option linter.unusedSimpArgs false

def m51 (a0 : Int) (a1 : Int) (a2 : Int) : Bool := (bif (decide (a0 ≥ a1)) then (decide (a0 ≤ a2)) else false)
set_option maxRecDepth 100000 in
theorem t51 (a0 : Int) (a1 : Int) (a2 : Int) : Gives Try.prog 51 [.sv (.one (.int .i64 a0)), .sv (.one (.int .i64 a1)), .sv (.one (.int .i64 a2))] (SV.one (.bool (m51 a0 a1 a2))) (List.replicate 3 .gone) := by
  refine gives_of Try.func51 rfl ?_
  rw [Try.ntmps51]
  refine Wp.seq ?_
  refine Wp.region ?_
  refine LWp.pureE (.one (.bool false)) rfl rfl ?_
  refine LWp.nil ?_
  refine Wp.seq ?_
  refine Wp.region ?_
  refine LWp.pureE (.one (.int .i64 a0)) rfl rfl ?_
  refine LWp.pureE (.one (.int .i64 a1)) rfl rfl ?_
  refine LWp.pureE (.one (.bool (decide (a0 ≥ a1)))) rfl rfl ?_
  refine LWp.pureE (.one (.bool (decide (a0 ≥ a1)))) rfl rfl ?_
  refine LWp.split 10 rfl (fun h1 => ?_) (fun h1 => ?_)
  · simp only [h1]
    refine LWp.pureE (.one (.int .i64 a0)) rfl rfl ?_
    refine LWp.pureE (.one (.int .i64 a2)) rfl rfl ?_
    refine LWp.pureE (.one (.bool (decide (a0 ≤ a2)))) rfl rfl ?_
    refine LWp.pureE (.one (.bool (decide (a0 ≤ a2)))) rfl rfl ?_
    refine LWp.pureE (.one (.bool (decide (a0 ≤ a2)))) rfl rfl ?_
    refine LWp.nil ?_
    exact Wp.ret ⟨.inr rfl, _, _, rfl, (show SV.one (.bool (decide (a0 ≤ a2))) = SV.one (.bool (m51 a0 a1 a2)) by simp only [m51, h1, cond_true, cond_false])⟩
  · simp only [h1]
    refine LWp.shut rfl (by decide) rfl ?_
    refine LWp.shut rfl (by decide) rfl ?_
    refine LWp.shut rfl (by decide) rfl ?_
    refine LWp.pureE (.one (.bool false)) rfl rfl ?_
    refine LWp.pureE (.one (.bool false)) rfl rfl ?_
    refine LWp.nil ?_
    exact Wp.ret ⟨.inr rfl, _, _, rfl, (show SV.one (.bool false) = SV.one (.bool (m51 a0 a1 a2)) by simp only [m51, h1, cond_true, cond_false])⟩

def m52 (a0 : Int) (a1 : Int) (a2 : Int) : Bool := (bif (decide (a0 ≥ a1)) then (decide (a0 ≤ a2)) else false)
set_option maxRecDepth 100000 in
theorem t52 (a0 : Int) (a1 : Int) (a2 : Int) : Gives Try.prog 52 [.sv (.one (.int .i64 a0)), .sv (.one (.int .i64 a1)), .sv (.one (.int .i64 a2))] (SV.one (.bool (m52 a0 a1 a2))) (List.replicate 3 .gone) := by
  refine gives_of Try.func52 rfl ?_
  rw [Try.ntmps52]
  refine Wp.seq ?_
  refine Wp.region ?_
  refine LWp.pureE (.one (.bool false)) rfl rfl ?_
  refine LWp.nil ?_
  refine Wp.seq ?_
  refine Wp.region ?_
  refine LWp.pureE (.one (.int .i64 a0)) rfl rfl ?_
  refine LWp.pureE (.one (.int .i64 a1)) rfl rfl ?_
  refine LWp.pureE (.one (.bool (decide (a0 ≥ a1)))) rfl rfl ?_
  refine LWp.pureE (.one (.bool (decide (a0 ≥ a1)))) rfl rfl ?_
  refine LWp.split 10 rfl (fun h1 => ?_) (fun h1 => ?_)
  · simp only [h1]
    refine LWp.pureE (.one (.int .i64 a0)) rfl rfl ?_
    refine LWp.pureE (.one (.int .i64 a2)) rfl rfl ?_
    refine LWp.pureE (.one (.bool (decide (a0 ≤ a2)))) rfl rfl ?_
    refine LWp.pureE (.one (.bool (decide (a0 ≤ a2)))) rfl rfl ?_
    refine LWp.pureE (.one (.bool (decide (a0 ≤ a2)))) rfl rfl ?_
    refine LWp.nil ?_
    exact Wp.ret ⟨.inr rfl, _, _, rfl, (show SV.one (.bool (decide (a0 ≤ a2))) = SV.one (.bool (m52 a0 a1 a2)) by simp only [m52, h1, cond_true, cond_false])⟩
  · simp only [h1]
    refine LWp.shut rfl (by decide) rfl ?_
    refine LWp.shut rfl (by decide) rfl ?_
    refine LWp.shut rfl (by decide) rfl ?_
    refine LWp.pureE (.one (.bool false)) rfl rfl ?_
    refine LWp.pureE (.one (.bool false)) rfl rfl ?_
    refine LWp.nil ?_
    exact Wp.ret ⟨.inr rfl, _, _, rfl, (show SV.one (.bool false) = SV.one (.bool (m52 a0 a1 a2)) by simp only [m52, h1, cond_true, cond_false])⟩

def m24 (a0_0 : Int) (a0_1 : Int) (a0_2 : Int) (a0_3 : Int) (a0_4 : ByteArray) (a1 : Int) : Int := (bif (decide ((IntKind.i64.wrap (a1 - (ByteArray.size a0_4 : Int))) < 0)) then (-1) else (IntKind.i64.wrap (a1 - (ByteArray.size a0_4 : Int))))
set_option maxRecDepth 100000 in
theorem t24 (a0_0 : Int) (a0_1 : Int) (a0_2 : Int) (a0_3 : Int) (a0_4 : ByteArray) (a1 : Int) : Gives Try.prog 24 [.sv (.agg [.int .i64 a0_0, .int .i64 a0_1, .int .i64 a0_2, .int .i64 a0_3, .str a0_4]), .sv (.one (.int .i64 a1))] (SV.one (.int .i64 (m24 a0_0 a0_1 a0_2 a0_3 a0_4 a1))) (List.replicate 2 .gone) := by
  refine gives_of Try.func24 rfl ?_
  rw [Try.ntmps24]
  refine Wp.seq ?_
  refine Wp.region ?_
  refine LWp.boxE [.int .i64 a0_0, .int .i64 a0_1, .int .i64 a0_2, .int .i64 a0_3, .str a0_4] rfl rfl ?_
  refine LWp.pureE (.one (.int .i64 0)) rfl rfl ?_
  refine LWp.nil ?_
  refine Wp.seq ?_
  refine Wp.region ?_
  refine LWp.pureE (.one (.int .i64 a1)) rfl rfl ?_
  refine LWp.pureE (.one (.ptr (.box 2) 1 [] 4)) rfl rfl ?_
  refine LWp.pureE (.one (.str a0_4)) rfl rfl ?_
  refine LWp.pureE (.one (.int .i64 (ByteArray.size a0_4 : Int))) rfl rfl ?_
  refine LWp.pureE (.one (.int .i64 (IntKind.i64.wrap (a1 - (ByteArray.size a0_4 : Int))))) rfl rfl ?_
  refine LWp.pureE (.one (.int .i64 (IntKind.i64.wrap (a1 - (ByteArray.size a0_4 : Int))))) rfl rfl ?_
  refine LWp.nil ?_
  refine Wp.seq ?_
  refine Wp.seq ?_
  refine Wp.region ?_
  refine LWp.pureE (.one (.int .i64 (IntKind.i64.wrap (a1 - (ByteArray.size a0_4 : Int))))) rfl rfl ?_
  refine LWp.pureE (.one (.bool (decide ((IntKind.i64.wrap (a1 - (ByteArray.size a0_4 : Int))) < 0)))) rfl rfl ?_
  refine LWp.nil ?_
  refine Wp.cond rfl (fun h1 => ?_) (fun h1 => ?_)
  · simp only [h1]
    refine Wp.seq ?_
    refine Wp.region ?_
    refine LWp.pureE (.one (.int .i64 (-1))) rfl rfl ?_
    refine LWp.nil ?_
    exact Wp.ret ⟨.inr rfl, _, _, rfl, (show SV.one (.int .i64 (-1)) = SV.one (.int .i64 (m24 a0_0 a0_1 a0_2 a0_3 a0_4 a1)) by simp only [m24, h1, cond_true, cond_false])⟩
  · simp only [h1]
    refine Wp.skip ?_
    refine Wp.seq ?_
    refine Wp.region ?_
    refine LWp.pureE (.one (.int .i64 (IntKind.i64.wrap (a1 - (ByteArray.size a0_4 : Int))))) rfl rfl ?_
    refine LWp.pureE (.one (.int .i64 (IntKind.i64.wrap (a1 - (ByteArray.size a0_4 : Int))))) rfl rfl ?_
    refine LWp.nil ?_
    exact Wp.ret ⟨.inr rfl, _, _, rfl, (show SV.one (.int .i64 (IntKind.i64.wrap (a1 - (ByteArray.size a0_4 : Int)))) = SV.one (.int .i64 (m24 a0_0 a0_1 a0_2 a0_3 a0_4 a1)) by simp only [m24, h1, cond_true, cond_false])⟩

def m8 (a0_0 : Int) (a0_1 : Int) (a0_2 : Int) (a0_3 : Int) (a0_4 : ByteArray) (a0_5 : Bool) (a0_6 : Int) (a0_7 : Bool) (a1 : Int) : Int := (bif (decide ((m24 a0_0 a0_1 a0_2 a0_3 a0_4 a1) < 0)) then (-1) else (m24 a0_0 a0_1 a0_2 a0_3 a0_4 a1))
set_option maxRecDepth 100000 in
theorem t8 (a0_0 : Int) (a0_1 : Int) (a0_2 : Int) (a0_3 : Int) (a0_4 : ByteArray) (a0_5 : Bool) (a0_6 : Int) (a0_7 : Bool) (a1 : Int) : Gives Try.prog 8 [.sv (.agg [.int .i64 a0_0, .int .i64 a0_1, .int .i64 a0_2, .int .i64 a0_3, .str a0_4, .bool a0_5, .int .i64 a0_6, .bool a0_7]), .sv (.one (.int .i64 a1))] (SV.one (.int .i64 (m8 a0_0 a0_1 a0_2 a0_3 a0_4 a0_5 a0_6 a0_7 a1))) (List.replicate 2 .gone) := by
  refine gives_of Try.func8 rfl ?_
  rw [Try.ntmps8]
  refine Wp.seq ?_
  refine Wp.region ?_
  refine LWp.boxE [.int .i64 a0_0, .int .i64 a0_1, .int .i64 a0_2, .int .i64 a0_3, .str a0_4, .bool a0_5, .int .i64 a0_6, .bool a0_7] rfl rfl ?_
  refine LWp.pureE (.one (.int .i64 0)) rfl rfl ?_
  refine LWp.nil ?_
  refine Wp.seq ?_
  refine Wp.region ?_
  refine LWp.pureE (.one (.ptr (.box 2) 1 [] 0)) rfl rfl ?_
  refine LWp.pureE (.agg [.int .i64 a0_0, .int .i64 a0_1, .int .i64 a0_2, .int .i64 a0_3, .str a0_4]) rfl rfl ?_
  refine LWp.pureE (.one (.int .i64 a1)) rfl rfl ?_
  refine LWp.callS rfl Try.func24 (by decide) rfl rfl rfl (by decide) rfl (t24 _ _ _ _ _ _) rfl (.inl rfl) ?_
  refine LWp.pureE (.one (.int .i64 (m24 a0_0 a0_1 a0_2 a0_3 a0_4 a1))) rfl rfl ?_
  refine LWp.nil ?_
  refine Wp.seq ?_
  refine Wp.seq ?_
  refine Wp.region ?_
  refine LWp.pureE (.one (.int .i64 (m24 a0_0 a0_1 a0_2 a0_3 a0_4 a1))) rfl rfl ?_
  refine LWp.pureE (.one (.bool (decide ((m24 a0_0 a0_1 a0_2 a0_3 a0_4 a1) < 0)))) rfl rfl ?_
  refine LWp.nil ?_
  refine Wp.cond rfl (fun h1 => ?_) (fun h1 => ?_)
  · simp only [h1]
    refine Wp.seq ?_
    refine Wp.region ?_
    refine LWp.pureE (.one (.int .i64 (-1))) rfl rfl ?_
    refine LWp.nil ?_
    exact Wp.ret ⟨.inr rfl, _, _, rfl, (show SV.one (.int .i64 (-1)) = SV.one (.int .i64 (m8 a0_0 a0_1 a0_2 a0_3 a0_4 a0_5 a0_6 a0_7 a1)) by simp only [m8, h1, cond_true, cond_false])⟩
  · simp only [h1]
    refine Wp.skip ?_
    refine Wp.seq ?_
    refine Wp.region ?_
    refine LWp.pureE (.one (.int .i64 (m24 a0_0 a0_1 a0_2 a0_3 a0_4 a1))) rfl rfl ?_
    refine LWp.pureE (.one (.int .i64 (m24 a0_0 a0_1 a0_2 a0_3 a0_4 a1))) rfl rfl ?_
    refine LWp.nil ?_
    exact Wp.ret ⟨.inr rfl, _, _, rfl, (show SV.one (.int .i64 (m24 a0_0 a0_1 a0_2 a0_3 a0_4 a1)) = SV.one (.int .i64 (m8 a0_0 a0_1 a0_2 a0_3 a0_4 a0_5 a0_6 a0_7 a1)) by simp only [m8, h1, cond_true, cond_false])⟩

def m26_0 (a0_0 : Int) (a0_1 : Int) (a0_2 : Int) (a0_3 : Int) (a0_4 : ByteArray) : Int := a0_0
def m26_1 (a0_0 : Int) (a0_1 : Int) (a0_2 : Int) (a0_3 : Int) (a0_4 : ByteArray) : Int := a0_1
def m26_2 (a0_0 : Int) (a0_1 : Int) (a0_2 : Int) (a0_3 : Int) (a0_4 : ByteArray) : Int := a0_2
def m26_3 (a0_0 : Int) (a0_1 : Int) (a0_2 : Int) (a0_3 : Int) (a0_4 : ByteArray) : Int := a0_3
def m26_4 (a0_0 : Int) (a0_1 : Int) (a0_2 : Int) (a0_3 : Int) (a0_4 : ByteArray) : ByteArray := a0_4
set_option maxRecDepth 100000 in
theorem t26 (a0_0 : Int) (a0_1 : Int) (a0_2 : Int) (a0_3 : Int) (a0_4 : ByteArray) : Gives Try.prog 26 [.sv (.agg [.int .i64 a0_0, .int .i64 a0_1, .int .i64 a0_2, .int .i64 a0_3, .str a0_4])] (SV.agg [.int .i64 (m26_0 a0_0 a0_1 a0_2 a0_3 a0_4), .int .i64 (m26_1 a0_0 a0_1 a0_2 a0_3 a0_4), .int .i64 (m26_2 a0_0 a0_1 a0_2 a0_3 a0_4), .int .i64 (m26_3 a0_0 a0_1 a0_2 a0_3 a0_4), .str (m26_4 a0_0 a0_1 a0_2 a0_3 a0_4)]) (List.replicate 1 .gone) := by
  refine gives_of Try.func26 rfl ?_
  rw [Try.ntmps26]
  refine Wp.seq ?_
  refine Wp.region ?_
  refine LWp.boxE [.int .i64 a0_0, .int .i64 a0_1, .int .i64 a0_2, .int .i64 a0_3, .str a0_4] rfl rfl ?_
  refine LWp.boxE [.int .i64 0, .int .i64 0, .int .i64 0, .int .i64 0, .str ⟨#[]⟩] rfl rfl ?_
  refine LWp.nil ?_
  refine Wp.seq ?_
  refine Wp.region ?_
  refine LWp.boxE [.int .i64 0, .int .i64 0, .int .i64 0, .int .i64 0, .str ⟨#[]⟩] rfl rfl ?_
  refine LWp.nil ?_
  refine Wp.seq ?_
  refine Wp.region ?_
  refine LWp.pureE (.one (.ptr (.box 1) 1 [] 0)) rfl rfl ?_
  refine LWp.pureE (.one (.int .i64 a0_0)) rfl rfl ?_
  refine LWp.pureE (.one (.ptr (.box 3) 1 [] 0)) rfl rfl ?_
  refine LWp.storeE (.box 3) [.int .i64 a0_0, .int .i64 0, .int .i64 0, .int .i64 0, .str ⟨#[]⟩] rfl rfl ?_
  refine LWp.nil ?_
  refine Wp.seq ?_
  refine Wp.region ?_
  refine LWp.pureE (.one (.ptr (.box 1) 1 [] 1)) rfl rfl ?_
  refine LWp.pureE (.one (.int .i64 a0_1)) rfl rfl ?_
  refine LWp.pureE (.one (.ptr (.box 3) 1 [] 1)) rfl rfl ?_
  refine LWp.storeE (.box 3) [.int .i64 a0_0, .int .i64 a0_1, .int .i64 0, .int .i64 0, .str ⟨#[]⟩] rfl rfl ?_
  refine LWp.nil ?_
  refine Wp.seq ?_
  refine Wp.region ?_
  refine LWp.pureE (.one (.ptr (.box 1) 1 [] 2)) rfl rfl ?_
  refine LWp.pureE (.one (.int .i64 a0_2)) rfl rfl ?_
  refine LWp.pureE (.one (.ptr (.box 3) 1 [] 2)) rfl rfl ?_
  refine LWp.storeE (.box 3) [.int .i64 a0_0, .int .i64 a0_1, .int .i64 a0_2, .int .i64 0, .str ⟨#[]⟩] rfl rfl ?_
  refine LWp.nil ?_
  refine Wp.seq ?_
  refine Wp.region ?_
  refine LWp.pureE (.one (.ptr (.box 1) 1 [] 3)) rfl rfl ?_
  refine LWp.pureE (.one (.int .i64 a0_3)) rfl rfl ?_
  refine LWp.pureE (.one (.ptr (.box 3) 1 [] 3)) rfl rfl ?_
  refine LWp.storeE (.box 3) [.int .i64 a0_0, .int .i64 a0_1, .int .i64 a0_2, .int .i64 a0_3, .str ⟨#[]⟩] rfl rfl ?_
  refine LWp.nil ?_
  refine Wp.seq ?_
  refine Wp.region ?_
  refine LWp.pureE (.one (.ptr (.box 1) 1 [] 4)) rfl rfl ?_
  refine LWp.pureE (.one (.str a0_4)) rfl rfl ?_
  refine LWp.pureE (.one (.ptr (.box 3) 1 [] 4)) rfl rfl ?_
  refine LWp.storeE (.box 3) [.int .i64 a0_0, .int .i64 a0_1, .int .i64 a0_2, .int .i64 a0_3, .str a0_4] rfl rfl ?_
  refine LWp.nil ?_
  refine Wp.seq ?_
  refine Wp.region ?_
  refine LWp.pureE (.agg [.int .i64 a0_0, .int .i64 a0_1, .int .i64 a0_2, .int .i64 a0_3, .str a0_4]) rfl rfl ?_
  refine LWp.storeE (.box 2) [.int .i64 a0_0, .int .i64 a0_1, .int .i64 a0_2, .int .i64 a0_3, .str a0_4] rfl rfl ?_
  refine LWp.nil ?_
  exact Wp.ret ⟨.inr rfl, _, _, rfl, (show SV.agg [.int .i64 a0_0, .int .i64 a0_1, .int .i64 a0_2, .int .i64 a0_3, .str a0_4] = SV.agg [.int .i64 (m26_0 a0_0 a0_1 a0_2 a0_3 a0_4), .int .i64 (m26_1 a0_0 a0_1 a0_2 a0_3 a0_4), .int .i64 (m26_2 a0_0 a0_1 a0_2 a0_3 a0_4), .int .i64 (m26_3 a0_0 a0_1 a0_2 a0_3 a0_4), .str (m26_4 a0_0 a0_1 a0_2 a0_3 a0_4)] by simp only [m26_0, m26_1, m26_2, m26_3, m26_4, cond_true, cond_false])⟩

def m10_0 (a0_0 : Int) (a0_1 : Int) (a0_2 : Int) (a0_3 : Int) (a0_4 : ByteArray) (a0_5 : Bool) (a0_6 : Int) (a0_7 : Bool) : Int := (m26_0 a0_0 a0_1 a0_2 a0_3 a0_4)
def m10_1 (a0_0 : Int) (a0_1 : Int) (a0_2 : Int) (a0_3 : Int) (a0_4 : ByteArray) (a0_5 : Bool) (a0_6 : Int) (a0_7 : Bool) : Int := (m26_1 a0_0 a0_1 a0_2 a0_3 a0_4)
def m10_2 (a0_0 : Int) (a0_1 : Int) (a0_2 : Int) (a0_3 : Int) (a0_4 : ByteArray) (a0_5 : Bool) (a0_6 : Int) (a0_7 : Bool) : Int := (m26_2 a0_0 a0_1 a0_2 a0_3 a0_4)
def m10_3 (a0_0 : Int) (a0_1 : Int) (a0_2 : Int) (a0_3 : Int) (a0_4 : ByteArray) (a0_5 : Bool) (a0_6 : Int) (a0_7 : Bool) : Int := (m26_3 a0_0 a0_1 a0_2 a0_3 a0_4)
def m10_4 (a0_0 : Int) (a0_1 : Int) (a0_2 : Int) (a0_3 : Int) (a0_4 : ByteArray) (a0_5 : Bool) (a0_6 : Int) (a0_7 : Bool) : ByteArray := (m26_4 a0_0 a0_1 a0_2 a0_3 a0_4)
def m10_5 (a0_0 : Int) (a0_1 : Int) (a0_2 : Int) (a0_3 : Int) (a0_4 : ByteArray) (a0_5 : Bool) (a0_6 : Int) (a0_7 : Bool) : Bool := a0_5
def m10_6 (a0_0 : Int) (a0_1 : Int) (a0_2 : Int) (a0_3 : Int) (a0_4 : ByteArray) (a0_5 : Bool) (a0_6 : Int) (a0_7 : Bool) : Int := a0_6
def m10_7 (a0_0 : Int) (a0_1 : Int) (a0_2 : Int) (a0_3 : Int) (a0_4 : ByteArray) (a0_5 : Bool) (a0_6 : Int) (a0_7 : Bool) : Bool := a0_7
set_option maxRecDepth 100000 in
theorem t10 (a0_0 : Int) (a0_1 : Int) (a0_2 : Int) (a0_3 : Int) (a0_4 : ByteArray) (a0_5 : Bool) (a0_6 : Int) (a0_7 : Bool) : Gives Try.prog 10 [.sv (.agg [.int .i64 a0_0, .int .i64 a0_1, .int .i64 a0_2, .int .i64 a0_3, .str a0_4, .bool a0_5, .int .i64 a0_6, .bool a0_7])] (SV.agg [.int .i64 (m10_0 a0_0 a0_1 a0_2 a0_3 a0_4 a0_5 a0_6 a0_7), .int .i64 (m10_1 a0_0 a0_1 a0_2 a0_3 a0_4 a0_5 a0_6 a0_7), .int .i64 (m10_2 a0_0 a0_1 a0_2 a0_3 a0_4 a0_5 a0_6 a0_7), .int .i64 (m10_3 a0_0 a0_1 a0_2 a0_3 a0_4 a0_5 a0_6 a0_7), .str (m10_4 a0_0 a0_1 a0_2 a0_3 a0_4 a0_5 a0_6 a0_7), .bool (m10_5 a0_0 a0_1 a0_2 a0_3 a0_4 a0_5 a0_6 a0_7), .int .i64 (m10_6 a0_0 a0_1 a0_2 a0_3 a0_4 a0_5 a0_6 a0_7), .bool (m10_7 a0_0 a0_1 a0_2 a0_3 a0_4 a0_5 a0_6 a0_7)]) (List.replicate 1 .gone) := by
  refine gives_of Try.func10 rfl ?_
  rw [Try.ntmps10]
  refine Wp.seq ?_
  refine Wp.region ?_
  refine LWp.boxE [.int .i64 a0_0, .int .i64 a0_1, .int .i64 a0_2, .int .i64 a0_3, .str a0_4, .bool a0_5, .int .i64 a0_6, .bool a0_7] rfl rfl ?_
  refine LWp.boxE [.int .i64 0, .int .i64 0, .int .i64 0, .int .i64 0, .str ⟨#[]⟩, .bool false, .int .i64 0, .bool false] rfl rfl ?_
  refine LWp.nil ?_
  refine Wp.seq ?_
  refine Wp.region ?_
  refine LWp.boxE [.int .i64 0, .int .i64 0, .int .i64 0, .int .i64 0, .str ⟨#[]⟩, .bool false, .int .i64 0, .bool false] rfl rfl ?_
  refine LWp.nil ?_
  refine Wp.seq ?_
  refine Wp.region ?_
  refine LWp.pureE (.one (.ptr (.box 1) 1 [] 0)) rfl rfl ?_
  refine LWp.pureE (.agg [.int .i64 a0_0, .int .i64 a0_1, .int .i64 a0_2, .int .i64 a0_3, .str a0_4]) rfl rfl ?_
  refine LWp.callS rfl Try.func26 (by decide) rfl rfl rfl (by decide) rfl (t26 _ _ _ _ _) rfl (.inl rfl) ?_
  refine LWp.pureE (.one (.ptr (.box 3) 1 [] 0)) rfl rfl ?_
  refine LWp.storeE (.box 3) [.int .i64 (m26_0 a0_0 a0_1 a0_2 a0_3 a0_4), .int .i64 (m26_1 a0_0 a0_1 a0_2 a0_3 a0_4), .int .i64 (m26_2 a0_0 a0_1 a0_2 a0_3 a0_4), .int .i64 (m26_3 a0_0 a0_1 a0_2 a0_3 a0_4), .str (m26_4 a0_0 a0_1 a0_2 a0_3 a0_4), .bool false, .int .i64 0, .bool false] rfl rfl ?_
  refine LWp.nil ?_
  refine Wp.seq ?_
  refine Wp.region ?_
  refine LWp.pureE (.one (.ptr (.box 1) 1 [] 5)) rfl rfl ?_
  refine LWp.pureE (.one (.bool a0_5)) rfl rfl ?_
  refine LWp.pureE (.one (.ptr (.box 3) 1 [] 5)) rfl rfl ?_
  refine LWp.storeE (.box 3) [.int .i64 (m26_0 a0_0 a0_1 a0_2 a0_3 a0_4), .int .i64 (m26_1 a0_0 a0_1 a0_2 a0_3 a0_4), .int .i64 (m26_2 a0_0 a0_1 a0_2 a0_3 a0_4), .int .i64 (m26_3 a0_0 a0_1 a0_2 a0_3 a0_4), .str (m26_4 a0_0 a0_1 a0_2 a0_3 a0_4), .bool a0_5, .int .i64 0, .bool false] rfl rfl ?_
  refine LWp.nil ?_
  refine Wp.seq ?_
  refine Wp.region ?_
  refine LWp.pureE (.one (.ptr (.box 1) 1 [] 6)) rfl rfl ?_
  refine LWp.pureE (.one (.int .i64 a0_6)) rfl rfl ?_
  refine LWp.pureE (.one (.ptr (.box 3) 1 [] 6)) rfl rfl ?_
  refine LWp.storeE (.box 3) [.int .i64 (m26_0 a0_0 a0_1 a0_2 a0_3 a0_4), .int .i64 (m26_1 a0_0 a0_1 a0_2 a0_3 a0_4), .int .i64 (m26_2 a0_0 a0_1 a0_2 a0_3 a0_4), .int .i64 (m26_3 a0_0 a0_1 a0_2 a0_3 a0_4), .str (m26_4 a0_0 a0_1 a0_2 a0_3 a0_4), .bool a0_5, .int .i64 a0_6, .bool false] rfl rfl ?_
  refine LWp.nil ?_
  refine Wp.seq ?_
  refine Wp.region ?_
  refine LWp.pureE (.one (.ptr (.box 1) 1 [] 7)) rfl rfl ?_
  refine LWp.pureE (.one (.bool a0_7)) rfl rfl ?_
  refine LWp.pureE (.one (.ptr (.box 3) 1 [] 7)) rfl rfl ?_
  refine LWp.storeE (.box 3) [.int .i64 (m26_0 a0_0 a0_1 a0_2 a0_3 a0_4), .int .i64 (m26_1 a0_0 a0_1 a0_2 a0_3 a0_4), .int .i64 (m26_2 a0_0 a0_1 a0_2 a0_3 a0_4), .int .i64 (m26_3 a0_0 a0_1 a0_2 a0_3 a0_4), .str (m26_4 a0_0 a0_1 a0_2 a0_3 a0_4), .bool a0_5, .int .i64 a0_6, .bool a0_7] rfl rfl ?_
  refine LWp.nil ?_
  refine Wp.seq ?_
  refine Wp.region ?_
  refine LWp.pureE (.agg [.int .i64 (m26_0 a0_0 a0_1 a0_2 a0_3 a0_4), .int .i64 (m26_1 a0_0 a0_1 a0_2 a0_3 a0_4), .int .i64 (m26_2 a0_0 a0_1 a0_2 a0_3 a0_4), .int .i64 (m26_3 a0_0 a0_1 a0_2 a0_3 a0_4), .str (m26_4 a0_0 a0_1 a0_2 a0_3 a0_4), .bool a0_5, .int .i64 a0_6, .bool a0_7]) rfl rfl ?_
  refine LWp.storeE (.box 2) [.int .i64 (m26_0 a0_0 a0_1 a0_2 a0_3 a0_4), .int .i64 (m26_1 a0_0 a0_1 a0_2 a0_3 a0_4), .int .i64 (m26_2 a0_0 a0_1 a0_2 a0_3 a0_4), .int .i64 (m26_3 a0_0 a0_1 a0_2 a0_3 a0_4), .str (m26_4 a0_0 a0_1 a0_2 a0_3 a0_4), .bool a0_5, .int .i64 a0_6, .bool a0_7] rfl rfl ?_
  refine LWp.nil ?_
  exact Wp.ret ⟨.inr rfl, _, _, rfl, (show SV.agg [.int .i64 (m26_0 a0_0 a0_1 a0_2 a0_3 a0_4), .int .i64 (m26_1 a0_0 a0_1 a0_2 a0_3 a0_4), .int .i64 (m26_2 a0_0 a0_1 a0_2 a0_3 a0_4), .int .i64 (m26_3 a0_0 a0_1 a0_2 a0_3 a0_4), .str (m26_4 a0_0 a0_1 a0_2 a0_3 a0_4), .bool a0_5, .int .i64 a0_6, .bool a0_7] = SV.agg [.int .i64 (m10_0 a0_0 a0_1 a0_2 a0_3 a0_4 a0_5 a0_6 a0_7), .int .i64 (m10_1 a0_0 a0_1 a0_2 a0_3 a0_4 a0_5 a0_6 a0_7), .int .i64 (m10_2 a0_0 a0_1 a0_2 a0_3 a0_4 a0_5 a0_6 a0_7), .int .i64 (m10_3 a0_0 a0_1 a0_2 a0_3 a0_4 a0_5 a0_6 a0_7), .str (m10_4 a0_0 a0_1 a0_2 a0_3 a0_4 a0_5 a0_6 a0_7), .bool (m10_5 a0_0 a0_1 a0_2 a0_3 a0_4 a0_5 a0_6 a0_7), .int .i64 (m10_6 a0_0 a0_1 a0_2 a0_3 a0_4 a0_5 a0_6 a0_7), .bool (m10_7 a0_0 a0_1 a0_2 a0_3 a0_4 a0_5 a0_6 a0_7)] by simp only [m10_0, m10_1, m10_2, m10_3, m10_4, m10_5, m10_6, m10_7, cond_true, cond_false])⟩

def m30 (a0_0 : Int) (a0_1 : Int) (a0_2 : Int) (a0_3 : Int) (a0_4 : ByteArray) : Bool := (bif (!(m51 a0_0 1 6)) then false else (bif (!(m51 a0_1 1 9)) then false else (bif (decide ((ByteArray.size a0_4 : Int) > 64)) then false else (bif (a0_0 != 1) then (bif (!(ByteArray.toList a0_4 == ByteArray.toList ⟨#[]⟩)) then false else (bif (a0_0 == 4) then (bif (a0_2 == 0) then (m51 a0_3 1 9) else false) else (bif (a0_3 != 0) then false else (bif (a0_0 == 3) then (a0_2 == 0) else (bif (a0_0 == 5) then (a0_2 == 0) else (m51 a0_2 0 15)))))) else (bif (a0_0 == 4) then (bif (a0_2 == 0) then (m51 a0_3 1 9) else false) else (bif (a0_3 != 0) then false else (bif (a0_0 == 3) then (a0_2 == 0) else (bif (a0_0 == 5) then (a0_2 == 0) else (m51 a0_2 0 15)))))))))
set_option maxRecDepth 100000 in
theorem t30 (a0_0 : Int) (a0_1 : Int) (a0_2 : Int) (a0_3 : Int) (a0_4 : ByteArray) : Gives Try.prog 30 [.sv (.agg [.int .i64 a0_0, .int .i64 a0_1, .int .i64 a0_2, .int .i64 a0_3, .str a0_4])] (SV.one (.bool (m30 a0_0 a0_1 a0_2 a0_3 a0_4))) (List.replicate 1 .gone) := by
  refine gives_of Try.func30 rfl ?_
  rw [Try.ntmps30]
  refine Wp.seq ?_
  refine Wp.region ?_
  refine LWp.boxE [.int .i64 a0_0, .int .i64 a0_1, .int .i64 a0_2, .int .i64 a0_3, .str a0_4] rfl rfl ?_
  refine LWp.pureE (.one (.bool false)) rfl rfl ?_
  refine LWp.nil ?_
  refine Wp.seq ?_
  refine Wp.seq ?_
  refine Wp.region ?_
  refine LWp.pureE (.one (.ptr (.box 1) 1 [] 0)) rfl rfl ?_
  refine LWp.pureE (.one (.int .i64 a0_0)) rfl rfl ?_
  refine LWp.callS rfl Try.func51 (by decide) rfl rfl rfl (by decide) rfl (t51 _ _ _) rfl (.inl rfl) ?_
  refine LWp.pureE (.one (.bool (!(m51 a0_0 1 6)))) rfl rfl ?_
  refine LWp.pureE (.one (.bool (!(m51 a0_0 1 6)))) rfl rfl ?_
  refine LWp.split 7 rfl (fun h1 => ?_) (fun h1 => ?_)
  · simp only [h1]
    refine LWp.shut rfl (by decide) rfl ?_
    refine LWp.shut rfl (by decide) rfl ?_
    refine LWp.shut rfl (by decide) rfl ?_
    refine LWp.shut rfl (by decide) rfl ?_
    refine LWp.pureE (.one (.bool true)) rfl rfl ?_
    refine LWp.pureE (.one (.bool true)) rfl rfl ?_
    refine LWp.shut rfl (by decide) rfl ?_
    refine LWp.shut rfl (by decide) rfl ?_
    refine LWp.shut rfl (by decide) rfl ?_
    refine LWp.shut rfl (by decide) rfl ?_
    refine LWp.pureE (.one (.bool true)) rfl rfl ?_
    refine LWp.pureE (.one (.bool true)) rfl rfl ?_
    refine LWp.shut rfl (by decide) rfl ?_
    refine LWp.shut rfl (by decide) rfl ?_
    refine LWp.shut rfl (by decide) rfl ?_
    refine LWp.shut rfl (by decide) rfl ?_
    refine LWp.shut rfl (by decide) rfl ?_
    refine LWp.shut rfl (by decide) rfl ?_
    refine LWp.shut rfl (by decide) rfl ?_
    refine LWp.shut rfl (by decide) rfl ?_
    refine LWp.pureE (.one (.bool true)) rfl rfl ?_
    refine LWp.nil ?_
    refine Wp.cond rfl (fun _ => ?_) (fun h2 => ?_)
    rotate_left
    · cases h2
    refine Wp.seq ?_
    refine Wp.region ?_
    refine LWp.pureE (.one (.bool false)) rfl rfl ?_
    refine LWp.nil ?_
    exact Wp.ret ⟨.inr rfl, _, _, rfl, (show SV.one (.bool false) = SV.one (.bool (m30 a0_0 a0_1 a0_2 a0_3 a0_4)) by simp only [m30, h1, cond_true, cond_false])⟩
  · simp only [h1]
    refine LWp.pureE (.one (.ptr (.box 1) 1 [] 1)) rfl rfl ?_
    refine LWp.pureE (.one (.int .i64 a0_1)) rfl rfl ?_
    refine LWp.callS rfl Try.func51 (by decide) rfl rfl rfl (by decide) rfl (t51 _ _ _) rfl (.inl rfl) ?_
    refine LWp.pureE (.one (.bool (!(m51 a0_1 1 9)))) rfl rfl ?_
    refine LWp.pureE (.one (.bool (!(m51 a0_1 1 9)))) rfl rfl ?_
    refine LWp.pureE (.one (.bool (!(m51 a0_1 1 9)))) rfl rfl ?_
    refine LWp.split 13 rfl (fun h2 => ?_) (fun h2 => ?_)
    · simp only [h2]
      refine LWp.shut rfl (by decide) rfl ?_
      refine LWp.shut rfl (by decide) rfl ?_
      refine LWp.shut rfl (by decide) rfl ?_
      refine LWp.shut rfl (by decide) rfl ?_
      refine LWp.pureE (.one (.bool true)) rfl rfl ?_
      refine LWp.pureE (.one (.bool true)) rfl rfl ?_
      refine LWp.shut rfl (by decide) rfl ?_
      refine LWp.shut rfl (by decide) rfl ?_
      refine LWp.shut rfl (by decide) rfl ?_
      refine LWp.shut rfl (by decide) rfl ?_
      refine LWp.shut rfl (by decide) rfl ?_
      refine LWp.shut rfl (by decide) rfl ?_
      refine LWp.shut rfl (by decide) rfl ?_
      refine LWp.shut rfl (by decide) rfl ?_
      refine LWp.pureE (.one (.bool true)) rfl rfl ?_
      refine LWp.nil ?_
      refine Wp.cond rfl (fun _ => ?_) (fun h3 => ?_)
      rotate_left
      · cases h3
      refine Wp.seq ?_
      refine Wp.region ?_
      refine LWp.pureE (.one (.bool false)) rfl rfl ?_
      refine LWp.nil ?_
      exact Wp.ret ⟨.inr rfl, _, _, rfl, (show SV.one (.bool false) = SV.one (.bool (m30 a0_0 a0_1 a0_2 a0_3 a0_4)) by simp only [m30, h1, h2, cond_true, cond_false])⟩
    · simp only [h2]
      refine LWp.pureE (.one (.ptr (.box 1) 1 [] 4)) rfl rfl ?_
      refine LWp.pureE (.one (.str a0_4)) rfl rfl ?_
      refine LWp.pureE (.one (.int .i64 (ByteArray.size a0_4 : Int))) rfl rfl ?_
      refine LWp.pureE (.one (.bool (decide ((ByteArray.size a0_4 : Int) > 64)))) rfl rfl ?_
      refine LWp.pureE (.one (.bool (decide ((ByteArray.size a0_4 : Int) > 64)))) rfl rfl ?_
      refine LWp.pureE (.one (.bool (decide ((ByteArray.size a0_4 : Int) > 64)))) rfl rfl ?_
      refine LWp.split 19 rfl (fun h3 => ?_) (fun h3 => ?_)
      · simp only [h3]
        refine LWp.shut rfl (by decide) rfl ?_
        refine LWp.shut rfl (by decide) rfl ?_
        refine LWp.shut rfl (by decide) rfl ?_
        refine LWp.shut rfl (by decide) rfl ?_
        refine LWp.shut rfl (by decide) rfl ?_
        refine LWp.shut rfl (by decide) rfl ?_
        refine LWp.shut rfl (by decide) rfl ?_
        refine LWp.shut rfl (by decide) rfl ?_
        refine LWp.pureE (.one (.bool true)) rfl rfl ?_
        refine LWp.nil ?_
        refine Wp.cond rfl (fun _ => ?_) (fun h4 => ?_)
        rotate_left
        · cases h4
        refine Wp.seq ?_
        refine Wp.region ?_
        refine LWp.pureE (.one (.bool false)) rfl rfl ?_
        refine LWp.nil ?_
        exact Wp.ret ⟨.inr rfl, _, _, rfl, (show SV.one (.bool false) = SV.one (.bool (m30 a0_0 a0_1 a0_2 a0_3 a0_4)) by simp only [m30, h1, h2, h3, cond_true, cond_false])⟩
      · simp only [h3]
        refine LWp.pureE (.one (.ptr (.box 1) 1 [] 0)) rfl rfl ?_
        refine LWp.pureE (.one (.int .i64 a0_0)) rfl rfl ?_
        refine LWp.pureE (.one (.bool (a0_0 != 1))) rfl rfl ?_
        refine LWp.pureE (.one (.bool (a0_0 != 1))) rfl rfl ?_
        refine LWp.split 23 rfl (fun h4 => ?_) (fun h4 => ?_)
        · simp only [h4]
          refine LWp.pureE (.one (.ptr (.box 1) 1 [] 4)) rfl rfl ?_
          refine LWp.pureE (.one (.str a0_4)) rfl rfl ?_
          refine LWp.pureE (.one (.bool (!(ByteArray.toList a0_4 == ByteArray.toList ⟨#[]⟩)))) rfl rfl ?_
          refine LWp.pureE (.one (.bool (!(ByteArray.toList a0_4 == ByteArray.toList ⟨#[]⟩)))) rfl rfl ?_
          refine LWp.pureE (.one (.bool (!(ByteArray.toList a0_4 == ByteArray.toList ⟨#[]⟩)))) rfl rfl ?_
          refine LWp.nil ?_
          refine Wp.cond rfl (fun h5 => ?_) (fun h5 => ?_)
          · simp only [h5]
            refine Wp.seq ?_
            refine Wp.region ?_
            refine LWp.pureE (.one (.bool false)) rfl rfl ?_
            refine LWp.nil ?_
            exact Wp.ret ⟨.inr rfl, _, _, rfl, (show SV.one (.bool false) = SV.one (.bool (m30 a0_0 a0_1 a0_2 a0_3 a0_4)) by simp only [m30, h1, h2, h3, h4, h5, cond_true, cond_false])⟩
          · simp only [h5]
            refine Wp.skip ?_
            refine Wp.seq ?_
            refine Wp.seq ?_
            refine Wp.region ?_
            refine LWp.pureE (.one (.ptr (.box 1) 1 [] 0)) rfl rfl ?_
            refine LWp.pureE (.one (.int .i64 a0_0)) rfl rfl ?_
            refine LWp.pureE (.one (.bool (a0_0 == 4))) rfl rfl ?_
            refine LWp.nil ?_
            refine Wp.cond rfl (fun h6 => ?_) (fun h6 => ?_)
            · simp only [h6]
              refine Wp.seq ?_
              refine Wp.region ?_
              refine LWp.pureE (.one (.ptr (.box 1) 1 [] 2)) rfl rfl ?_
              refine LWp.pureE (.one (.int .i64 a0_2)) rfl rfl ?_
              refine LWp.pureE (.one (.bool (a0_2 == 0))) rfl rfl ?_
              refine LWp.pureE (.one (.bool (a0_2 == 0))) rfl rfl ?_
              refine LWp.split 35 rfl (fun h7 => ?_) (fun h7 => ?_)
              · simp only [h7]
                refine LWp.pureE (.one (.ptr (.box 1) 1 [] 3)) rfl rfl ?_
                refine LWp.pureE (.one (.int .i64 a0_3)) rfl rfl ?_
                refine LWp.callS rfl Try.func51 (by decide) rfl rfl rfl (by decide) rfl (t51 _ _ _) rfl (.inl rfl) ?_
                refine LWp.pureE (.one (.bool (m51 a0_3 1 9))) rfl rfl ?_
                refine LWp.pureE (.one (.bool (m51 a0_3 1 9))) rfl rfl ?_
                refine LWp.nil ?_
                exact Wp.ret ⟨.inr rfl, _, _, rfl, (show SV.one (.bool (m51 a0_3 1 9)) = SV.one (.bool (m30 a0_0 a0_1 a0_2 a0_3 a0_4)) by simp only [m30, h1, h2, h3, h4, h5, h6, h7, cond_true, cond_false])⟩
              · simp only [h7]
                refine LWp.shut rfl (by decide) rfl ?_
                refine LWp.shut rfl (by decide) rfl ?_
                refine LWp.shut rfl (by decide) rfl ?_
                refine LWp.pureE (.one (.bool false)) rfl rfl ?_
                refine LWp.pureE (.one (.bool false)) rfl rfl ?_
                refine LWp.nil ?_
                exact Wp.ret ⟨.inr rfl, _, _, rfl, (show SV.one (.bool false) = SV.one (.bool (m30 a0_0 a0_1 a0_2 a0_3 a0_4)) by simp only [m30, h1, h2, h3, h4, h5, h6, h7, cond_true, cond_false])⟩
            · simp only [h6]
              refine Wp.skip ?_
              refine Wp.seq ?_
              refine Wp.seq ?_
              refine Wp.region ?_
              refine LWp.pureE (.one (.ptr (.box 1) 1 [] 3)) rfl rfl ?_
              refine LWp.pureE (.one (.int .i64 a0_3)) rfl rfl ?_
              refine LWp.pureE (.one (.bool (a0_3 != 0))) rfl rfl ?_
              refine LWp.nil ?_
              refine Wp.cond rfl (fun h7 => ?_) (fun h7 => ?_)
              · simp only [h7]
                refine Wp.seq ?_
                refine Wp.region ?_
                refine LWp.pureE (.one (.bool false)) rfl rfl ?_
                refine LWp.nil ?_
                exact Wp.ret ⟨.inr rfl, _, _, rfl, (show SV.one (.bool false) = SV.one (.bool (m30 a0_0 a0_1 a0_2 a0_3 a0_4)) by simp only [m30, h1, h2, h3, h4, h5, h6, h7, cond_true, cond_false])⟩
              · simp only [h7]
                refine Wp.skip ?_
                refine Wp.seq ?_
                refine Wp.seq ?_
                refine Wp.region ?_
                refine LWp.pureE (.one (.ptr (.box 1) 1 [] 0)) rfl rfl ?_
                refine LWp.pureE (.one (.int .i64 a0_0)) rfl rfl ?_
                refine LWp.pureE (.one (.bool (a0_0 == 3))) rfl rfl ?_
                refine LWp.pureE (.one (.bool (a0_0 == 3))) rfl rfl ?_
                refine LWp.split 46 rfl (fun h8 => ?_) (fun h8 => ?_)
                · simp only [h8]
                  refine LWp.shut rfl (by decide) rfl ?_
                  refine LWp.shut rfl (by decide) rfl ?_
                  refine LWp.shut rfl (by decide) rfl ?_
                  refine LWp.pureE (.one (.bool true)) rfl rfl ?_
                  refine LWp.nil ?_
                  refine Wp.cond rfl (fun _ => ?_) (fun h9 => ?_)
                  rotate_left
                  · cases h9
                  refine Wp.seq ?_
                  refine Wp.region ?_
                  refine LWp.pureE (.one (.ptr (.box 1) 1 [] 2)) rfl rfl ?_
                  refine LWp.pureE (.one (.int .i64 a0_2)) rfl rfl ?_
                  refine LWp.pureE (.one (.bool (a0_2 == 0))) rfl rfl ?_
                  refine LWp.pureE (.one (.bool (a0_2 == 0))) rfl rfl ?_
                  refine LWp.nil ?_
                  exact Wp.ret ⟨.inr rfl, _, _, rfl, (show SV.one (.bool (a0_2 == 0)) = SV.one (.bool (m30 a0_0 a0_1 a0_2 a0_3 a0_4)) by simp only [m30, h1, h2, h3, h4, h5, h6, h7, h8, cond_true, cond_false])⟩
                · simp only [h8]
                  refine LWp.pureE (.one (.ptr (.box 1) 1 [] 0)) rfl rfl ?_
                  refine LWp.pureE (.one (.int .i64 a0_0)) rfl rfl ?_
                  refine LWp.pureE (.one (.bool (a0_0 == 5))) rfl rfl ?_
                  refine LWp.pureE (.one (.bool (a0_0 == 5))) rfl rfl ?_
                  refine LWp.nil ?_
                  refine Wp.cond rfl (fun h9 => ?_) (fun h9 => ?_)
                  · simp only [h9]
                    refine Wp.seq ?_
                    refine Wp.region ?_
                    refine LWp.pureE (.one (.ptr (.box 1) 1 [] 2)) rfl rfl ?_
                    refine LWp.pureE (.one (.int .i64 a0_2)) rfl rfl ?_
                    refine LWp.pureE (.one (.bool (a0_2 == 0))) rfl rfl ?_
                    refine LWp.pureE (.one (.bool (a0_2 == 0))) rfl rfl ?_
                    refine LWp.nil ?_
                    exact Wp.ret ⟨.inr rfl, _, _, rfl, (show SV.one (.bool (a0_2 == 0)) = SV.one (.bool (m30 a0_0 a0_1 a0_2 a0_3 a0_4)) by simp only [m30, h1, h2, h3, h4, h5, h6, h7, h8, h9, cond_true, cond_false])⟩
                  · simp only [h9]
                    refine Wp.skip ?_
                    refine Wp.seq ?_
                    refine Wp.region ?_
                    refine LWp.pureE (.one (.ptr (.box 1) 1 [] 2)) rfl rfl ?_
                    refine LWp.pureE (.one (.int .i64 a0_2)) rfl rfl ?_
                    refine LWp.callS rfl Try.func51 (by decide) rfl rfl rfl (by decide) rfl (t51 _ _ _) rfl (.inl rfl) ?_
                    refine LWp.pureE (.one (.bool (m51 a0_2 0 15))) rfl rfl ?_
                    refine LWp.nil ?_
                    exact Wp.ret ⟨.inr rfl, _, _, rfl, (show SV.one (.bool (m51 a0_2 0 15)) = SV.one (.bool (m30 a0_0 a0_1 a0_2 a0_3 a0_4)) by simp only [m30, h1, h2, h3, h4, h5, h6, h7, h8, h9, cond_true, cond_false])⟩
        · simp only [h4]
          refine LWp.shut rfl (by decide) rfl ?_
          refine LWp.shut rfl (by decide) rfl ?_
          refine LWp.shut rfl (by decide) rfl ?_
          refine LWp.pureE (.one (.bool false)) rfl rfl ?_
          refine LWp.pureE (.one (.bool false)) rfl rfl ?_
          refine LWp.nil ?_
          refine Wp.cond rfl (fun h5 => ?_) (fun _ => ?_)
          · cases h5
          refine Wp.skip ?_
          refine Wp.seq ?_
          refine Wp.seq ?_
          refine Wp.region ?_
          refine LWp.pureE (.one (.ptr (.box 1) 1 [] 0)) rfl rfl ?_
          refine LWp.pureE (.one (.int .i64 a0_0)) rfl rfl ?_
          refine LWp.pureE (.one (.bool (a0_0 == 4))) rfl rfl ?_
          refine LWp.nil ?_
          refine Wp.cond rfl (fun h5 => ?_) (fun h5 => ?_)
          · simp only [h5]
            refine Wp.seq ?_
            refine Wp.region ?_
            refine LWp.pureE (.one (.ptr (.box 1) 1 [] 2)) rfl rfl ?_
            refine LWp.pureE (.one (.int .i64 a0_2)) rfl rfl ?_
            refine LWp.pureE (.one (.bool (a0_2 == 0))) rfl rfl ?_
            refine LWp.pureE (.one (.bool (a0_2 == 0))) rfl rfl ?_
            refine LWp.split 35 rfl (fun h6 => ?_) (fun h6 => ?_)
            · simp only [h6]
              refine LWp.pureE (.one (.ptr (.box 1) 1 [] 3)) rfl rfl ?_
              refine LWp.pureE (.one (.int .i64 a0_3)) rfl rfl ?_
              refine LWp.callS rfl Try.func51 (by decide) rfl rfl rfl (by decide) rfl (t51 _ _ _) rfl (.inl rfl) ?_
              refine LWp.pureE (.one (.bool (m51 a0_3 1 9))) rfl rfl ?_
              refine LWp.pureE (.one (.bool (m51 a0_3 1 9))) rfl rfl ?_
              refine LWp.nil ?_
              exact Wp.ret ⟨.inr rfl, _, _, rfl, (show SV.one (.bool (m51 a0_3 1 9)) = SV.one (.bool (m30 a0_0 a0_1 a0_2 a0_3 a0_4)) by simp only [m30, h1, h2, h3, h4, h5, h6, cond_true, cond_false])⟩
            · simp only [h6]
              refine LWp.shut rfl (by decide) rfl ?_
              refine LWp.shut rfl (by decide) rfl ?_
              refine LWp.shut rfl (by decide) rfl ?_
              refine LWp.pureE (.one (.bool false)) rfl rfl ?_
              refine LWp.pureE (.one (.bool false)) rfl rfl ?_
              refine LWp.nil ?_
              exact Wp.ret ⟨.inr rfl, _, _, rfl, (show SV.one (.bool false) = SV.one (.bool (m30 a0_0 a0_1 a0_2 a0_3 a0_4)) by simp only [m30, h1, h2, h3, h4, h5, h6, cond_true, cond_false])⟩
          · simp only [h5]
            refine Wp.skip ?_
            refine Wp.seq ?_
            refine Wp.seq ?_
            refine Wp.region ?_
            refine LWp.pureE (.one (.ptr (.box 1) 1 [] 3)) rfl rfl ?_
            refine LWp.pureE (.one (.int .i64 a0_3)) rfl rfl ?_
            refine LWp.pureE (.one (.bool (a0_3 != 0))) rfl rfl ?_
            refine LWp.nil ?_
            refine Wp.cond rfl (fun h6 => ?_) (fun h6 => ?_)
            · simp only [h6]
              refine Wp.seq ?_
              refine Wp.region ?_
              refine LWp.pureE (.one (.bool false)) rfl rfl ?_
              refine LWp.nil ?_
              exact Wp.ret ⟨.inr rfl, _, _, rfl, (show SV.one (.bool false) = SV.one (.bool (m30 a0_0 a0_1 a0_2 a0_3 a0_4)) by simp only [m30, h1, h2, h3, h4, h5, h6, cond_true, cond_false])⟩
            · simp only [h6]
              refine Wp.skip ?_
              refine Wp.seq ?_
              refine Wp.seq ?_
              refine Wp.region ?_
              refine LWp.pureE (.one (.ptr (.box 1) 1 [] 0)) rfl rfl ?_
              refine LWp.pureE (.one (.int .i64 a0_0)) rfl rfl ?_
              refine LWp.pureE (.one (.bool (a0_0 == 3))) rfl rfl ?_
              refine LWp.pureE (.one (.bool (a0_0 == 3))) rfl rfl ?_
              refine LWp.split 46 rfl (fun h7 => ?_) (fun h7 => ?_)
              · simp only [h7]
                refine LWp.shut rfl (by decide) rfl ?_
                refine LWp.shut rfl (by decide) rfl ?_
                refine LWp.shut rfl (by decide) rfl ?_
                refine LWp.pureE (.one (.bool true)) rfl rfl ?_
                refine LWp.nil ?_
                refine Wp.cond rfl (fun _ => ?_) (fun h8 => ?_)
                rotate_left
                · cases h8
                refine Wp.seq ?_
                refine Wp.region ?_
                refine LWp.pureE (.one (.ptr (.box 1) 1 [] 2)) rfl rfl ?_
                refine LWp.pureE (.one (.int .i64 a0_2)) rfl rfl ?_
                refine LWp.pureE (.one (.bool (a0_2 == 0))) rfl rfl ?_
                refine LWp.pureE (.one (.bool (a0_2 == 0))) rfl rfl ?_
                refine LWp.nil ?_
                exact Wp.ret ⟨.inr rfl, _, _, rfl, (show SV.one (.bool (a0_2 == 0)) = SV.one (.bool (m30 a0_0 a0_1 a0_2 a0_3 a0_4)) by simp only [m30, h1, h2, h3, h4, h5, h6, h7, cond_true, cond_false])⟩
              · simp only [h7]
                refine LWp.pureE (.one (.ptr (.box 1) 1 [] 0)) rfl rfl ?_
                refine LWp.pureE (.one (.int .i64 a0_0)) rfl rfl ?_
                refine LWp.pureE (.one (.bool (a0_0 == 5))) rfl rfl ?_
                refine LWp.pureE (.one (.bool (a0_0 == 5))) rfl rfl ?_
                refine LWp.nil ?_
                refine Wp.cond rfl (fun h8 => ?_) (fun h8 => ?_)
                · simp only [h8]
                  refine Wp.seq ?_
                  refine Wp.region ?_
                  refine LWp.pureE (.one (.ptr (.box 1) 1 [] 2)) rfl rfl ?_
                  refine LWp.pureE (.one (.int .i64 a0_2)) rfl rfl ?_
                  refine LWp.pureE (.one (.bool (a0_2 == 0))) rfl rfl ?_
                  refine LWp.pureE (.one (.bool (a0_2 == 0))) rfl rfl ?_
                  refine LWp.nil ?_
                  exact Wp.ret ⟨.inr rfl, _, _, rfl, (show SV.one (.bool (a0_2 == 0)) = SV.one (.bool (m30 a0_0 a0_1 a0_2 a0_3 a0_4)) by simp only [m30, h1, h2, h3, h4, h5, h6, h7, h8, cond_true, cond_false])⟩
                · simp only [h8]
                  refine Wp.skip ?_
                  refine Wp.seq ?_
                  refine Wp.region ?_
                  refine LWp.pureE (.one (.ptr (.box 1) 1 [] 2)) rfl rfl ?_
                  refine LWp.pureE (.one (.int .i64 a0_2)) rfl rfl ?_
                  refine LWp.callS rfl Try.func51 (by decide) rfl rfl rfl (by decide) rfl (t51 _ _ _) rfl (.inl rfl) ?_
                  refine LWp.pureE (.one (.bool (m51 a0_2 0 15))) rfl rfl ?_
                  refine LWp.nil ?_
                  exact Wp.ret ⟨.inr rfl, _, _, rfl, (show SV.one (.bool (m51 a0_2 0 15)) = SV.one (.bool (m30 a0_0 a0_1 a0_2 a0_3 a0_4)) by simp only [m30, h1, h2, h3, h4, h5, h6, h7, h8, cond_true, cond_false])⟩

def m31 (a0_0 : Int) (a0_1 : Int) (a0_2 : Int) (a0_3 : Int) (a0_4 : ByteArray) : Bool := (bif (!(m52 a0_0 1 6)) then false else (bif (!(m52 a0_1 1 9)) then false else (bif (a0_0 == 1) then (bif (m52 a0_2 0 15) then (bif (m52 a0_3 0 0) then (decide ((ByteArray.size a0_4 : Int) ≤ 64)) else false) else false) else (bif (a0_0 == 2) then (bif (m52 a0_2 0 15) then (bif (m52 a0_3 0 0) then (decide ((ByteArray.size a0_4 : Int) ≤ 0)) else false) else false) else (bif (a0_0 == 6) then (bif (m52 a0_2 0 15) then (bif (m52 a0_3 0 0) then (decide ((ByteArray.size a0_4 : Int) ≤ 0)) else false) else false) else (bif (a0_0 == 4) then (bif (m52 a0_2 0 0) then (bif (m52 a0_3 1 9) then (decide ((ByteArray.size a0_4 : Int) ≤ 0)) else false) else false) else (bif (m52 a0_2 0 0) then (bif (m52 a0_3 0 0) then (decide ((ByteArray.size a0_4 : Int) ≤ 0)) else false) else false)))))))
set_option maxRecDepth 100000 in
theorem t31 (a0_0 : Int) (a0_1 : Int) (a0_2 : Int) (a0_3 : Int) (a0_4 : ByteArray) : Gives Try.prog 31 [.sv (.agg [.int .i64 a0_0, .int .i64 a0_1, .int .i64 a0_2, .int .i64 a0_3, .str a0_4])] (SV.one (.bool (m31 a0_0 a0_1 a0_2 a0_3 a0_4))) (List.replicate 1 .gone) := by
  refine gives_of Try.func31 rfl ?_
  rw [Try.ntmps31]
  refine Wp.seq ?_
  refine Wp.region ?_
  refine LWp.boxE [.int .i64 a0_0, .int .i64 a0_1, .int .i64 a0_2, .int .i64 a0_3, .str a0_4] rfl rfl ?_
  refine LWp.pureE (.one (.bool false)) rfl rfl ?_
  refine LWp.nil ?_
  refine Wp.seq ?_
  refine Wp.seq ?_
  refine Wp.region ?_
  refine LWp.pureE (.one (.ptr (.box 1) 1 [] 0)) rfl rfl ?_
  refine LWp.pureE (.one (.int .i64 a0_0)) rfl rfl ?_
  refine LWp.callS rfl Try.func52 (by decide) rfl rfl rfl (by decide) rfl (t52 _ _ _) rfl (.inl rfl) ?_
  refine LWp.pureE (.one (.bool (!(m52 a0_0 1 6)))) rfl rfl ?_
  refine LWp.pureE (.one (.bool (!(m52 a0_0 1 6)))) rfl rfl ?_
  refine LWp.split 10 rfl (fun h1 => ?_) (fun h1 => ?_)
  · simp only [h1]
    refine LWp.shut rfl (by decide) rfl ?_
    refine LWp.shut rfl (by decide) rfl ?_
    refine LWp.shut rfl (by decide) rfl ?_
    refine LWp.shut rfl (by decide) rfl ?_
    refine LWp.pureE (.one (.bool true)) rfl rfl ?_
    refine LWp.nil ?_
    refine Wp.cond rfl (fun _ => ?_) (fun h2 => ?_)
    rotate_left
    · cases h2
    refine Wp.seq ?_
    refine Wp.region ?_
    refine LWp.pureE (.one (.bool false)) rfl rfl ?_
    refine LWp.nil ?_
    exact Wp.ret ⟨.inr rfl, _, _, rfl, (show SV.one (.bool false) = SV.one (.bool (m31 a0_0 a0_1 a0_2 a0_3 a0_4)) by simp only [m31, h1, cond_true, cond_false])⟩
  · simp only [h1]
    refine LWp.pureE (.one (.ptr (.box 1) 1 [] 1)) rfl rfl ?_
    refine LWp.pureE (.one (.int .i64 a0_1)) rfl rfl ?_
    refine LWp.callS rfl Try.func52 (by decide) rfl rfl rfl (by decide) rfl (t52 _ _ _) rfl (.inl rfl) ?_
    refine LWp.pureE (.one (.bool (!(m52 a0_1 1 9)))) rfl rfl ?_
    refine LWp.pureE (.one (.bool (!(m52 a0_1 1 9)))) rfl rfl ?_
    refine LWp.nil ?_
    refine Wp.cond rfl (fun h2 => ?_) (fun h2 => ?_)
    · simp only [h2]
      refine Wp.seq ?_
      refine Wp.region ?_
      refine LWp.pureE (.one (.bool false)) rfl rfl ?_
      refine LWp.nil ?_
      exact Wp.ret ⟨.inr rfl, _, _, rfl, (show SV.one (.bool false) = SV.one (.bool (m31 a0_0 a0_1 a0_2 a0_3 a0_4)) by simp only [m31, h1, h2, cond_true, cond_false])⟩
    · simp only [h2]
      refine Wp.skip ?_
      refine Wp.seq ?_
      refine Wp.region ?_
      refine LWp.pureE (.one (.int .i64 0)) rfl rfl ?_
      refine LWp.pureE (.one (.int .i64 0)) rfl rfl ?_
      refine LWp.pureE (.one (.int .i64 0)) rfl rfl ?_
      refine LWp.nil ?_
      refine Wp.seq ?_
      refine Wp.seq ?_
      refine Wp.region ?_
      refine LWp.pureE (.one (.ptr (.box 1) 1 [] 0)) rfl rfl ?_
      refine LWp.pureE (.one (.int .i64 a0_0)) rfl rfl ?_
      refine LWp.nil ?_
      refine Wp.block ?_
      refine Wp.seq ?_
      refine Wp.region ?_
      refine LWp.pureE (.one (.bool (a0_0 == 1))) rfl rfl ?_
      refine LWp.pureE (.one (.bool (a0_0 == 1))) rfl rfl ?_
      refine LWp.nil ?_
      refine Wp.cond rfl (fun h3 => ?_) (fun h3 => ?_)
      · simp only [h3]
        refine Wp.region ?_
        refine LWp.pureE (.one (.int .i64 15)) rfl rfl ?_
        refine LWp.pureE (.one (.int .i64 64)) rfl rfl ?_
        refine LWp.nil ?_
        refine Wp.seq ?_
        refine Wp.region ?_
        refine LWp.pureE (.one (.ptr (.box 1) 1 [] 2)) rfl rfl ?_
        refine LWp.pureE (.one (.int .i64 a0_2)) rfl rfl ?_
        refine LWp.pureE (.one (.int .i64 15)) rfl rfl ?_
        refine LWp.callS rfl Try.func52 (by decide) rfl rfl rfl (by decide) rfl (t52 _ _ _) rfl (.inl rfl) ?_
        refine LWp.pureE (.one (.bool (m52 a0_2 0 15))) rfl rfl ?_
        refine LWp.split 29 rfl (fun h4 => ?_) (fun h4 => ?_)
        · simp only [h4]
          refine LWp.pureE (.one (.ptr (.box 1) 1 [] 3)) rfl rfl ?_
          refine LWp.pureE (.one (.int .i64 a0_3)) rfl rfl ?_
          refine LWp.pureE (.one (.int .i64 0)) rfl rfl ?_
          refine LWp.pureE (.one (.int .i64 0)) rfl rfl ?_
          refine LWp.pureE (.one (.int .i64 0)) rfl rfl ?_
          refine LWp.callS rfl Try.func52 (by decide) rfl rfl rfl (by decide) rfl (t52 _ _ _) rfl (.inl rfl) ?_
          refine LWp.pureE (.one (.bool (m52 a0_3 0 0))) rfl rfl ?_
          refine LWp.pureE (.one (.bool (m52 a0_3 0 0))) rfl rfl ?_
          refine LWp.split 37 rfl (fun h5 => ?_) (fun h5 => ?_)
          · simp only [h5]
            refine LWp.pureE (.one (.ptr (.box 1) 1 [] 4)) rfl rfl ?_
            refine LWp.pureE (.one (.str a0_4)) rfl rfl ?_
            refine LWp.pureE (.one (.int .i64 (ByteArray.size a0_4 : Int))) rfl rfl ?_
            refine LWp.pureE (.one (.int .i64 64)) rfl rfl ?_
            refine LWp.pureE (.one (.bool (decide ((ByteArray.size a0_4 : Int) ≤ 64)))) rfl rfl ?_
            refine LWp.pureE (.one (.bool (decide ((ByteArray.size a0_4 : Int) ≤ 64)))) rfl rfl ?_
            refine LWp.pureE (.one (.bool (decide ((ByteArray.size a0_4 : Int) ≤ 64)))) rfl rfl ?_
            refine LWp.nil ?_
            exact Wp.ret ⟨.inr rfl, _, _, rfl, (show SV.one (.bool (decide ((ByteArray.size a0_4 : Int) ≤ 64))) = SV.one (.bool (m31 a0_0 a0_1 a0_2 a0_3 a0_4)) by simp only [m31, h1, h2, h3, h4, h5, cond_true, cond_false])⟩
          · simp only [h5]
            refine LWp.shut rfl (by decide) rfl ?_
            refine LWp.shut rfl (by decide) rfl ?_
            refine LWp.shut rfl (by decide) rfl ?_
            refine LWp.shut rfl (by decide) rfl ?_
            refine LWp.shut rfl (by decide) rfl ?_
            refine LWp.pureE (.one (.bool false)) rfl rfl ?_
            refine LWp.pureE (.one (.bool false)) rfl rfl ?_
            refine LWp.nil ?_
            exact Wp.ret ⟨.inr rfl, _, _, rfl, (show SV.one (.bool false) = SV.one (.bool (m31 a0_0 a0_1 a0_2 a0_3 a0_4)) by simp only [m31, h1, h2, h3, h4, h5, cond_true, cond_false])⟩
        · simp only [h4]
          refine LWp.shut rfl (by decide) rfl ?_
          refine LWp.shut rfl (by decide) rfl ?_
          refine LWp.shut rfl (by decide) rfl ?_
          refine LWp.shut rfl (by decide) rfl ?_
          refine LWp.shut rfl (by decide) rfl ?_
          refine LWp.shut rfl (by decide) rfl ?_
          refine LWp.pureE (.one (.bool false)) rfl rfl ?_
          refine LWp.pureE (.one (.bool false)) rfl rfl ?_
          refine LWp.shut rfl (by decide) rfl ?_
          refine LWp.shut rfl (by decide) rfl ?_
          refine LWp.shut rfl (by decide) rfl ?_
          refine LWp.shut rfl (by decide) rfl ?_
          refine LWp.shut rfl (by decide) rfl ?_
          refine LWp.pureE (.one (.bool false)) rfl rfl ?_
          refine LWp.pureE (.one (.bool false)) rfl rfl ?_
          refine LWp.nil ?_
          exact Wp.ret ⟨.inr rfl, _, _, rfl, (show SV.one (.bool false) = SV.one (.bool (m31 a0_0 a0_1 a0_2 a0_3 a0_4)) by simp only [m31, h1, h2, h3, h4, cond_true, cond_false])⟩
      · simp only [h3]
        refine Wp.seq ?_
        refine Wp.seq ?_
        refine Wp.region ?_
        refine LWp.pureE (.one (.bool (a0_0 == 2))) rfl rfl ?_
        refine LWp.pureE (.one (.bool (a0_0 == 2))) rfl rfl ?_
        refine LWp.nil ?_
        refine Wp.cond rfl (fun h4 => ?_) (fun h4 => ?_)
        · simp only [h4]
          refine Wp.skip ?_
          refine Wp.cond rfl (fun _ => ?_) (fun h5 => ?_)
          rotate_left
          · cases h5
          refine Wp.region ?_
          refine LWp.pureE (.one (.int .i64 15)) rfl rfl ?_
          refine LWp.nil ?_
          refine Wp.seq ?_
          refine Wp.region ?_
          refine LWp.pureE (.one (.ptr (.box 1) 1 [] 2)) rfl rfl ?_
          refine LWp.pureE (.one (.int .i64 a0_2)) rfl rfl ?_
          refine LWp.pureE (.one (.int .i64 15)) rfl rfl ?_
          refine LWp.callS rfl Try.func52 (by decide) rfl rfl rfl (by decide) rfl (t52 _ _ _) rfl (.inl rfl) ?_
          refine LWp.pureE (.one (.bool (m52 a0_2 0 15))) rfl rfl ?_
          refine LWp.split 29 rfl (fun h5 => ?_) (fun h5 => ?_)
          · simp only [h5]
            refine LWp.pureE (.one (.ptr (.box 1) 1 [] 3)) rfl rfl ?_
            refine LWp.pureE (.one (.int .i64 a0_3)) rfl rfl ?_
            refine LWp.pureE (.one (.int .i64 0)) rfl rfl ?_
            refine LWp.pureE (.one (.int .i64 0)) rfl rfl ?_
            refine LWp.pureE (.one (.int .i64 0)) rfl rfl ?_
            refine LWp.callS rfl Try.func52 (by decide) rfl rfl rfl (by decide) rfl (t52 _ _ _) rfl (.inl rfl) ?_
            refine LWp.pureE (.one (.bool (m52 a0_3 0 0))) rfl rfl ?_
            refine LWp.pureE (.one (.bool (m52 a0_3 0 0))) rfl rfl ?_
            refine LWp.split 37 rfl (fun h6 => ?_) (fun h6 => ?_)
            · simp only [h6]
              refine LWp.pureE (.one (.ptr (.box 1) 1 [] 4)) rfl rfl ?_
              refine LWp.pureE (.one (.str a0_4)) rfl rfl ?_
              refine LWp.pureE (.one (.int .i64 (ByteArray.size a0_4 : Int))) rfl rfl ?_
              refine LWp.pureE (.one (.int .i64 0)) rfl rfl ?_
              refine LWp.pureE (.one (.bool (decide ((ByteArray.size a0_4 : Int) ≤ 0)))) rfl rfl ?_
              refine LWp.pureE (.one (.bool (decide ((ByteArray.size a0_4 : Int) ≤ 0)))) rfl rfl ?_
              refine LWp.pureE (.one (.bool (decide ((ByteArray.size a0_4 : Int) ≤ 0)))) rfl rfl ?_
              refine LWp.nil ?_
              exact Wp.ret ⟨.inr rfl, _, _, rfl, (show SV.one (.bool (decide ((ByteArray.size a0_4 : Int) ≤ 0))) = SV.one (.bool (m31 a0_0 a0_1 a0_2 a0_3 a0_4)) by simp only [m31, h1, h2, h3, h4, h5, h6, cond_true, cond_false])⟩
            · simp only [h6]
              refine LWp.shut rfl (by decide) rfl ?_
              refine LWp.shut rfl (by decide) rfl ?_
              refine LWp.shut rfl (by decide) rfl ?_
              refine LWp.shut rfl (by decide) rfl ?_
              refine LWp.shut rfl (by decide) rfl ?_
              refine LWp.pureE (.one (.bool false)) rfl rfl ?_
              refine LWp.pureE (.one (.bool false)) rfl rfl ?_
              refine LWp.nil ?_
              exact Wp.ret ⟨.inr rfl, _, _, rfl, (show SV.one (.bool false) = SV.one (.bool (m31 a0_0 a0_1 a0_2 a0_3 a0_4)) by simp only [m31, h1, h2, h3, h4, h5, h6, cond_true, cond_false])⟩
          · simp only [h5]
            refine LWp.shut rfl (by decide) rfl ?_
            refine LWp.shut rfl (by decide) rfl ?_
            refine LWp.shut rfl (by decide) rfl ?_
            refine LWp.shut rfl (by decide) rfl ?_
            refine LWp.shut rfl (by decide) rfl ?_
            refine LWp.shut rfl (by decide) rfl ?_
            refine LWp.pureE (.one (.bool false)) rfl rfl ?_
            refine LWp.pureE (.one (.bool false)) rfl rfl ?_
            refine LWp.shut rfl (by decide) rfl ?_
            refine LWp.shut rfl (by decide) rfl ?_
            refine LWp.shut rfl (by decide) rfl ?_
            refine LWp.shut rfl (by decide) rfl ?_
            refine LWp.shut rfl (by decide) rfl ?_
            refine LWp.pureE (.one (.bool false)) rfl rfl ?_
            refine LWp.pureE (.one (.bool false)) rfl rfl ?_
            refine LWp.nil ?_
            exact Wp.ret ⟨.inr rfl, _, _, rfl, (show SV.one (.bool false) = SV.one (.bool (m31 a0_0 a0_1 a0_2 a0_3 a0_4)) by simp only [m31, h1, h2, h3, h4, h5, cond_true, cond_false])⟩
        · simp only [h4]
          refine Wp.region ?_
          refine LWp.pureE (.one (.bool (a0_0 == 6))) rfl rfl ?_
          refine LWp.pureE (.one (.bool (a0_0 == 6))) rfl rfl ?_
          refine LWp.nil ?_
          refine Wp.cond rfl (fun h5 => ?_) (fun h5 => ?_)
          · simp only [h5]
            refine Wp.region ?_
            refine LWp.pureE (.one (.int .i64 15)) rfl rfl ?_
            refine LWp.nil ?_
            refine Wp.seq ?_
            refine Wp.region ?_
            refine LWp.pureE (.one (.ptr (.box 1) 1 [] 2)) rfl rfl ?_
            refine LWp.pureE (.one (.int .i64 a0_2)) rfl rfl ?_
            refine LWp.pureE (.one (.int .i64 15)) rfl rfl ?_
            refine LWp.callS rfl Try.func52 (by decide) rfl rfl rfl (by decide) rfl (t52 _ _ _) rfl (.inl rfl) ?_
            refine LWp.pureE (.one (.bool (m52 a0_2 0 15))) rfl rfl ?_
            refine LWp.split 29 rfl (fun h6 => ?_) (fun h6 => ?_)
            · simp only [h6]
              refine LWp.pureE (.one (.ptr (.box 1) 1 [] 3)) rfl rfl ?_
              refine LWp.pureE (.one (.int .i64 a0_3)) rfl rfl ?_
              refine LWp.pureE (.one (.int .i64 0)) rfl rfl ?_
              refine LWp.pureE (.one (.int .i64 0)) rfl rfl ?_
              refine LWp.pureE (.one (.int .i64 0)) rfl rfl ?_
              refine LWp.callS rfl Try.func52 (by decide) rfl rfl rfl (by decide) rfl (t52 _ _ _) rfl (.inl rfl) ?_
              refine LWp.pureE (.one (.bool (m52 a0_3 0 0))) rfl rfl ?_
              refine LWp.pureE (.one (.bool (m52 a0_3 0 0))) rfl rfl ?_
              refine LWp.split 37 rfl (fun h7 => ?_) (fun h7 => ?_)
              · simp only [h7]
                refine LWp.pureE (.one (.ptr (.box 1) 1 [] 4)) rfl rfl ?_
                refine LWp.pureE (.one (.str a0_4)) rfl rfl ?_
                refine LWp.pureE (.one (.int .i64 (ByteArray.size a0_4 : Int))) rfl rfl ?_
                refine LWp.pureE (.one (.int .i64 0)) rfl rfl ?_
                refine LWp.pureE (.one (.bool (decide ((ByteArray.size a0_4 : Int) ≤ 0)))) rfl rfl ?_
                refine LWp.pureE (.one (.bool (decide ((ByteArray.size a0_4 : Int) ≤ 0)))) rfl rfl ?_
                refine LWp.pureE (.one (.bool (decide ((ByteArray.size a0_4 : Int) ≤ 0)))) rfl rfl ?_
                refine LWp.nil ?_
                exact Wp.ret ⟨.inr rfl, _, _, rfl, (show SV.one (.bool (decide ((ByteArray.size a0_4 : Int) ≤ 0))) = SV.one (.bool (m31 a0_0 a0_1 a0_2 a0_3 a0_4)) by simp only [m31, h1, h2, h3, h4, h5, h6, h7, cond_true, cond_false])⟩
              · simp only [h7]
                refine LWp.shut rfl (by decide) rfl ?_
                refine LWp.shut rfl (by decide) rfl ?_
                refine LWp.shut rfl (by decide) rfl ?_
                refine LWp.shut rfl (by decide) rfl ?_
                refine LWp.shut rfl (by decide) rfl ?_
                refine LWp.pureE (.one (.bool false)) rfl rfl ?_
                refine LWp.pureE (.one (.bool false)) rfl rfl ?_
                refine LWp.nil ?_
                exact Wp.ret ⟨.inr rfl, _, _, rfl, (show SV.one (.bool false) = SV.one (.bool (m31 a0_0 a0_1 a0_2 a0_3 a0_4)) by simp only [m31, h1, h2, h3, h4, h5, h6, h7, cond_true, cond_false])⟩
            · simp only [h6]
              refine LWp.shut rfl (by decide) rfl ?_
              refine LWp.shut rfl (by decide) rfl ?_
              refine LWp.shut rfl (by decide) rfl ?_
              refine LWp.shut rfl (by decide) rfl ?_
              refine LWp.shut rfl (by decide) rfl ?_
              refine LWp.shut rfl (by decide) rfl ?_
              refine LWp.pureE (.one (.bool false)) rfl rfl ?_
              refine LWp.pureE (.one (.bool false)) rfl rfl ?_
              refine LWp.shut rfl (by decide) rfl ?_
              refine LWp.shut rfl (by decide) rfl ?_
              refine LWp.shut rfl (by decide) rfl ?_
              refine LWp.shut rfl (by decide) rfl ?_
              refine LWp.shut rfl (by decide) rfl ?_
              refine LWp.pureE (.one (.bool false)) rfl rfl ?_
              refine LWp.pureE (.one (.bool false)) rfl rfl ?_
              refine LWp.nil ?_
              exact Wp.ret ⟨.inr rfl, _, _, rfl, (show SV.one (.bool false) = SV.one (.bool (m31 a0_0 a0_1 a0_2 a0_3 a0_4)) by simp only [m31, h1, h2, h3, h4, h5, h6, cond_true, cond_false])⟩
          · simp only [h5]
            refine Wp.seq ?_
            refine Wp.region ?_
            refine LWp.pureE (.one (.bool (a0_0 == 4))) rfl rfl ?_
            refine LWp.pureE (.one (.bool (a0_0 == 4))) rfl rfl ?_
            refine LWp.nil ?_
            refine Wp.cond rfl (fun h6 => ?_) (fun h6 => ?_)
            · simp only [h6]
              refine Wp.region ?_
              refine LWp.pureE (.one (.int .i64 9)) rfl rfl ?_
              refine LWp.nil ?_
              refine Wp.seq ?_
              refine Wp.region ?_
              refine LWp.pureE (.one (.ptr (.box 1) 1 [] 2)) rfl rfl ?_
              refine LWp.pureE (.one (.int .i64 a0_2)) rfl rfl ?_
              refine LWp.pureE (.one (.int .i64 0)) rfl rfl ?_
              refine LWp.callS rfl Try.func52 (by decide) rfl rfl rfl (by decide) rfl (t52 _ _ _) rfl (.inl rfl) ?_
              refine LWp.pureE (.one (.bool (m52 a0_2 0 0))) rfl rfl ?_
              refine LWp.split 29 rfl (fun h7 => ?_) (fun h7 => ?_)
              · simp only [h7]
                refine LWp.pureE (.one (.ptr (.box 1) 1 [] 3)) rfl rfl ?_
                refine LWp.pureE (.one (.int .i64 a0_3)) rfl rfl ?_
                refine LWp.pureE (.one (.int .i64 9)) rfl rfl ?_
                refine LWp.pureE (.one (.int .i64 1)) rfl rfl ?_
                refine LWp.pureE (.one (.int .i64 9)) rfl rfl ?_
                refine LWp.callS rfl Try.func52 (by decide) rfl rfl rfl (by decide) rfl (t52 _ _ _) rfl (.inl rfl) ?_
                refine LWp.pureE (.one (.bool (m52 a0_3 1 9))) rfl rfl ?_
                refine LWp.pureE (.one (.bool (m52 a0_3 1 9))) rfl rfl ?_
                refine LWp.split 37 rfl (fun h8 => ?_) (fun h8 => ?_)
                · simp only [h8]
                  refine LWp.pureE (.one (.ptr (.box 1) 1 [] 4)) rfl rfl ?_
                  refine LWp.pureE (.one (.str a0_4)) rfl rfl ?_
                  refine LWp.pureE (.one (.int .i64 (ByteArray.size a0_4 : Int))) rfl rfl ?_
                  refine LWp.pureE (.one (.int .i64 0)) rfl rfl ?_
                  refine LWp.pureE (.one (.bool (decide ((ByteArray.size a0_4 : Int) ≤ 0)))) rfl rfl ?_
                  refine LWp.pureE (.one (.bool (decide ((ByteArray.size a0_4 : Int) ≤ 0)))) rfl rfl ?_
                  refine LWp.pureE (.one (.bool (decide ((ByteArray.size a0_4 : Int) ≤ 0)))) rfl rfl ?_
                  refine LWp.nil ?_
                  exact Wp.ret ⟨.inr rfl, _, _, rfl, (show SV.one (.bool (decide ((ByteArray.size a0_4 : Int) ≤ 0))) = SV.one (.bool (m31 a0_0 a0_1 a0_2 a0_3 a0_4)) by simp only [m31, h1, h2, h3, h4, h5, h6, h7, h8, cond_true, cond_false])⟩
                · simp only [h8]
                  refine LWp.shut rfl (by decide) rfl ?_
                  refine LWp.shut rfl (by decide) rfl ?_
                  refine LWp.shut rfl (by decide) rfl ?_
                  refine LWp.shut rfl (by decide) rfl ?_
                  refine LWp.shut rfl (by decide) rfl ?_
                  refine LWp.pureE (.one (.bool false)) rfl rfl ?_
                  refine LWp.pureE (.one (.bool false)) rfl rfl ?_
                  refine LWp.nil ?_
                  exact Wp.ret ⟨.inr rfl, _, _, rfl, (show SV.one (.bool false) = SV.one (.bool (m31 a0_0 a0_1 a0_2 a0_3 a0_4)) by simp only [m31, h1, h2, h3, h4, h5, h6, h7, h8, cond_true, cond_false])⟩
              · simp only [h7]
                refine LWp.shut rfl (by decide) rfl ?_
                refine LWp.shut rfl (by decide) rfl ?_
                refine LWp.shut rfl (by decide) rfl ?_
                refine LWp.shut rfl (by decide) rfl ?_
                refine LWp.shut rfl (by decide) rfl ?_
                refine LWp.shut rfl (by decide) rfl ?_
                refine LWp.pureE (.one (.bool false)) rfl rfl ?_
                refine LWp.pureE (.one (.bool false)) rfl rfl ?_
                refine LWp.shut rfl (by decide) rfl ?_
                refine LWp.shut rfl (by decide) rfl ?_
                refine LWp.shut rfl (by decide) rfl ?_
                refine LWp.shut rfl (by decide) rfl ?_
                refine LWp.shut rfl (by decide) rfl ?_
                refine LWp.pureE (.one (.bool false)) rfl rfl ?_
                refine LWp.pureE (.one (.bool false)) rfl rfl ?_
                refine LWp.nil ?_
                exact Wp.ret ⟨.inr rfl, _, _, rfl, (show SV.one (.bool false) = SV.one (.bool (m31 a0_0 a0_1 a0_2 a0_3 a0_4)) by simp only [m31, h1, h2, h3, h4, h5, h6, h7, cond_true, cond_false])⟩
            · simp only [h6]
              refine Wp.skip ?_
              refine Wp.seq ?_
              refine Wp.region ?_
              refine LWp.pureE (.one (.ptr (.box 1) 1 [] 2)) rfl rfl ?_
              refine LWp.pureE (.one (.int .i64 a0_2)) rfl rfl ?_
              refine LWp.pureE (.one (.int .i64 0)) rfl rfl ?_
              refine LWp.callS rfl Try.func52 (by decide) rfl rfl rfl (by decide) rfl (t52 _ _ _) rfl (.inl rfl) ?_
              refine LWp.pureE (.one (.bool (m52 a0_2 0 0))) rfl rfl ?_
              refine LWp.split 29 rfl (fun h7 => ?_) (fun h7 => ?_)
              · simp only [h7]
                refine LWp.pureE (.one (.ptr (.box 1) 1 [] 3)) rfl rfl ?_
                refine LWp.pureE (.one (.int .i64 a0_3)) rfl rfl ?_
                refine LWp.pureE (.one (.int .i64 0)) rfl rfl ?_
                refine LWp.pureE (.one (.int .i64 0)) rfl rfl ?_
                refine LWp.pureE (.one (.int .i64 0)) rfl rfl ?_
                refine LWp.callS rfl Try.func52 (by decide) rfl rfl rfl (by decide) rfl (t52 _ _ _) rfl (.inl rfl) ?_
                refine LWp.pureE (.one (.bool (m52 a0_3 0 0))) rfl rfl ?_
                refine LWp.pureE (.one (.bool (m52 a0_3 0 0))) rfl rfl ?_
                refine LWp.split 37 rfl (fun h8 => ?_) (fun h8 => ?_)
                · simp only [h8]
                  refine LWp.pureE (.one (.ptr (.box 1) 1 [] 4)) rfl rfl ?_
                  refine LWp.pureE (.one (.str a0_4)) rfl rfl ?_
                  refine LWp.pureE (.one (.int .i64 (ByteArray.size a0_4 : Int))) rfl rfl ?_
                  refine LWp.pureE (.one (.int .i64 0)) rfl rfl ?_
                  refine LWp.pureE (.one (.bool (decide ((ByteArray.size a0_4 : Int) ≤ 0)))) rfl rfl ?_
                  refine LWp.pureE (.one (.bool (decide ((ByteArray.size a0_4 : Int) ≤ 0)))) rfl rfl ?_
                  refine LWp.pureE (.one (.bool (decide ((ByteArray.size a0_4 : Int) ≤ 0)))) rfl rfl ?_
                  refine LWp.nil ?_
                  exact Wp.ret ⟨.inr rfl, _, _, rfl, (show SV.one (.bool (decide ((ByteArray.size a0_4 : Int) ≤ 0))) = SV.one (.bool (m31 a0_0 a0_1 a0_2 a0_3 a0_4)) by simp only [m31, h1, h2, h3, h4, h5, h6, h7, h8, cond_true, cond_false])⟩
                · simp only [h8]
                  refine LWp.shut rfl (by decide) rfl ?_
                  refine LWp.shut rfl (by decide) rfl ?_
                  refine LWp.shut rfl (by decide) rfl ?_
                  refine LWp.shut rfl (by decide) rfl ?_
                  refine LWp.shut rfl (by decide) rfl ?_
                  refine LWp.pureE (.one (.bool false)) rfl rfl ?_
                  refine LWp.pureE (.one (.bool false)) rfl rfl ?_
                  refine LWp.nil ?_
                  exact Wp.ret ⟨.inr rfl, _, _, rfl, (show SV.one (.bool false) = SV.one (.bool (m31 a0_0 a0_1 a0_2 a0_3 a0_4)) by simp only [m31, h1, h2, h3, h4, h5, h6, h7, h8, cond_true, cond_false])⟩
              · simp only [h7]
                refine LWp.shut rfl (by decide) rfl ?_
                refine LWp.shut rfl (by decide) rfl ?_
                refine LWp.shut rfl (by decide) rfl ?_
                refine LWp.shut rfl (by decide) rfl ?_
                refine LWp.shut rfl (by decide) rfl ?_
                refine LWp.shut rfl (by decide) rfl ?_
                refine LWp.pureE (.one (.bool false)) rfl rfl ?_
                refine LWp.pureE (.one (.bool false)) rfl rfl ?_
                refine LWp.shut rfl (by decide) rfl ?_
                refine LWp.shut rfl (by decide) rfl ?_
                refine LWp.shut rfl (by decide) rfl ?_
                refine LWp.shut rfl (by decide) rfl ?_
                refine LWp.shut rfl (by decide) rfl ?_
                refine LWp.pureE (.one (.bool false)) rfl rfl ?_
                refine LWp.pureE (.one (.bool false)) rfl rfl ?_
                refine LWp.nil ?_
                exact Wp.ret ⟨.inr rfl, _, _, rfl, (show SV.one (.bool false) = SV.one (.bool (m31 a0_0 a0_1 a0_2 a0_3 a0_4)) by simp only [m31, h1, h2, h3, h4, h5, h6, h7, cond_true, cond_false])⟩

def m9 (a0_0 : Int) (a0_1 : Int) (a0_2 : Int) (a0_3 : Int) (a0_4 : ByteArray) (a0_5 : Bool) (a0_6 : Int) (a0_7 : Bool) : Bool := (bif (m30 a0_0 a0_1 a0_2 a0_3 a0_4) then (decide (a0_6 ≥ 0)) else false)
set_option maxRecDepth 100000 in
theorem t9 (a0_0 : Int) (a0_1 : Int) (a0_2 : Int) (a0_3 : Int) (a0_4 : ByteArray) (a0_5 : Bool) (a0_6 : Int) (a0_7 : Bool) : Gives Try.prog 9 [.sv (.agg [.int .i64 a0_0, .int .i64 a0_1, .int .i64 a0_2, .int .i64 a0_3, .str a0_4, .bool a0_5, .int .i64 a0_6, .bool a0_7])] (SV.one (.bool (m9 a0_0 a0_1 a0_2 a0_3 a0_4 a0_5 a0_6 a0_7))) (List.replicate 1 .gone) := by
  refine gives_of Try.func9 rfl ?_
  rw [Try.ntmps9]
  refine Wp.seq ?_
  refine Wp.region ?_
  refine LWp.boxE [.int .i64 a0_0, .int .i64 a0_1, .int .i64 a0_2, .int .i64 a0_3, .str a0_4, .bool a0_5, .int .i64 a0_6, .bool a0_7] rfl rfl ?_
  refine LWp.pureE (.one (.bool false)) rfl rfl ?_
  refine LWp.nil ?_
  refine Wp.seq ?_
  refine Wp.region ?_
  refine LWp.pureE (.one (.ptr (.box 1) 1 [] 0)) rfl rfl ?_
  refine LWp.pureE (.agg [.int .i64 a0_0, .int .i64 a0_1, .int .i64 a0_2, .int .i64 a0_3, .str a0_4]) rfl rfl ?_
  refine LWp.callS rfl Try.func30 (by decide) rfl rfl rfl (by decide) rfl (t30 _ _ _ _ _) rfl (.inl rfl) ?_
  refine LWp.pureE (.one (.bool (m30 a0_0 a0_1 a0_2 a0_3 a0_4))) rfl rfl ?_
  refine LWp.split 6 rfl (fun h1 => ?_) (fun h1 => ?_)
  · simp only [h1]
    refine LWp.pureE (.one (.ptr (.box 1) 1 [] 6)) rfl rfl ?_
    refine LWp.pureE (.one (.int .i64 a0_6)) rfl rfl ?_
    refine LWp.pureE (.one (.bool (decide (a0_6 ≥ 0)))) rfl rfl ?_
    refine LWp.pureE (.one (.bool (decide (a0_6 ≥ 0)))) rfl rfl ?_
    refine LWp.pureE (.one (.bool (decide (a0_6 ≥ 0)))) rfl rfl ?_
    refine LWp.nil ?_
    exact Wp.ret ⟨.inr rfl, _, _, rfl, (show SV.one (.bool (decide (a0_6 ≥ 0))) = SV.one (.bool (m9 a0_0 a0_1 a0_2 a0_3 a0_4 a0_5 a0_6 a0_7)) by simp only [m9, h1, cond_true, cond_false])⟩
  · simp only [h1]
    refine LWp.shut rfl (by decide) rfl ?_
    refine LWp.shut rfl (by decide) rfl ?_
    refine LWp.shut rfl (by decide) rfl ?_
    refine LWp.pureE (.one (.bool false)) rfl rfl ?_
    refine LWp.pureE (.one (.bool false)) rfl rfl ?_
    refine LWp.nil ?_
    exact Wp.ret ⟨.inr rfl, _, _, rfl, (show SV.one (.bool false) = SV.one (.bool (m9 a0_0 a0_1 a0_2 a0_3 a0_4 a0_5 a0_6 a0_7)) by simp only [m9, h1, cond_true, cond_false])⟩

def m11 (a0_0 : Int) (a0_1 : Int) (a0_2 : Int) (a0_3 : Int) (a0_4 : ByteArray) (a0_5 : Bool) (a0_6 : Int) (a0_7 : Bool) : Bool := (bif (m31 a0_0 a0_1 a0_2 a0_3 a0_4) then (decide (a0_6 ≥ 0)) else false)
set_option maxRecDepth 100000 in
theorem t11 (a0_0 : Int) (a0_1 : Int) (a0_2 : Int) (a0_3 : Int) (a0_4 : ByteArray) (a0_5 : Bool) (a0_6 : Int) (a0_7 : Bool) : Gives Try.prog 11 [.sv (.agg [.int .i64 a0_0, .int .i64 a0_1, .int .i64 a0_2, .int .i64 a0_3, .str a0_4, .bool a0_5, .int .i64 a0_6, .bool a0_7])] (SV.one (.bool (m11 a0_0 a0_1 a0_2 a0_3 a0_4 a0_5 a0_6 a0_7))) (List.replicate 1 .gone) := by
  refine gives_of Try.func11 rfl ?_
  rw [Try.ntmps11]
  refine Wp.seq ?_
  refine Wp.region ?_
  refine LWp.boxE [.int .i64 a0_0, .int .i64 a0_1, .int .i64 a0_2, .int .i64 a0_3, .str a0_4, .bool a0_5, .int .i64 a0_6, .bool a0_7] rfl rfl ?_
  refine LWp.pureE (.one (.bool false)) rfl rfl ?_
  refine LWp.nil ?_
  refine Wp.seq ?_
  refine Wp.region ?_
  refine LWp.pureE (.one (.ptr (.box 1) 1 [] 0)) rfl rfl ?_
  refine LWp.pureE (.agg [.int .i64 a0_0, .int .i64 a0_1, .int .i64 a0_2, .int .i64 a0_3, .str a0_4]) rfl rfl ?_
  refine LWp.callS rfl Try.func31 (by decide) rfl rfl rfl (by decide) rfl (t31 _ _ _ _ _) rfl (.inl rfl) ?_
  refine LWp.pureE (.one (.bool (m31 a0_0 a0_1 a0_2 a0_3 a0_4))) rfl rfl ?_
  refine LWp.split 6 rfl (fun h1 => ?_) (fun h1 => ?_)
  · simp only [h1]
    refine LWp.pureE (.one (.ptr (.box 1) 1 [] 6)) rfl rfl ?_
    refine LWp.pureE (.one (.int .i64 a0_6)) rfl rfl ?_
    refine LWp.pureE (.one (.bool (decide (a0_6 ≥ 0)))) rfl rfl ?_
    refine LWp.pureE (.one (.bool (decide (a0_6 ≥ 0)))) rfl rfl ?_
    refine LWp.pureE (.one (.bool (decide (a0_6 ≥ 0)))) rfl rfl ?_
    refine LWp.nil ?_
    exact Wp.ret ⟨.inr rfl, _, _, rfl, (show SV.one (.bool (decide (a0_6 ≥ 0))) = SV.one (.bool (m11 a0_0 a0_1 a0_2 a0_3 a0_4 a0_5 a0_6 a0_7)) by simp only [m11, h1, cond_true, cond_false])⟩
  · simp only [h1]
    refine LWp.shut rfl (by decide) rfl ?_
    refine LWp.shut rfl (by decide) rfl ?_
    refine LWp.shut rfl (by decide) rfl ?_
    refine LWp.pureE (.one (.bool false)) rfl rfl ?_
    refine LWp.pureE (.one (.bool false)) rfl rfl ?_
    refine LWp.nil ?_
    exact Wp.ret ⟨.inr rfl, _, _, rfl, (show SV.one (.bool false) = SV.one (.bool (m11 a0_0 a0_1 a0_2 a0_3 a0_4 a0_5 a0_6 a0_7)) by simp only [m11, h1, cond_true, cond_false])⟩

def m3 (a0_0 : Int) (a0_1 : Int) (a0_2 : Int) (a0_3 : Int) (a0_4 : ByteArray) (a0_5 : Bool) (a0_6 : Int) (a0_7 : Bool) : Bool := (bif (decide ((m8 a0_0 a0_1 a0_2 a0_3 a0_4 a0_5 a0_6 a0_7 1048576) < 0)) then true else (bif (!((m11 (m10_0 a0_0 a0_1 a0_2 a0_3 a0_4 a0_5 a0_6 a0_7) (m10_1 a0_0 a0_1 a0_2 a0_3 a0_4 a0_5 a0_6 a0_7) (m10_2 a0_0 a0_1 a0_2 a0_3 a0_4 a0_5 a0_6 a0_7) (m10_3 a0_0 a0_1 a0_2 a0_3 a0_4 a0_5 a0_6 a0_7) (m10_4 a0_0 a0_1 a0_2 a0_3 a0_4 a0_5 a0_6 a0_7) (m10_5 a0_0 a0_1 a0_2 a0_3 a0_4 a0_5 a0_6 a0_7) (m10_6 a0_0 a0_1 a0_2 a0_3 a0_4 a0_5 a0_6 a0_7) (m10_7 a0_0 a0_1 a0_2 a0_3 a0_4 a0_5 a0_6 a0_7)) == (m9 (m10_0 a0_0 a0_1 a0_2 a0_3 a0_4 a0_5 a0_6 a0_7) (m10_1 a0_0 a0_1 a0_2 a0_3 a0_4 a0_5 a0_6 a0_7) (m10_2 a0_0 a0_1 a0_2 a0_3 a0_4 a0_5 a0_6 a0_7) (m10_3 a0_0 a0_1 a0_2 a0_3 a0_4 a0_5 a0_6 a0_7) (m10_4 a0_0 a0_1 a0_2 a0_3 a0_4 a0_5 a0_6 a0_7) (m10_5 a0_0 a0_1 a0_2 a0_3 a0_4 a0_5 a0_6 a0_7) (m10_6 a0_0 a0_1 a0_2 a0_3 a0_4 a0_5 a0_6 a0_7) (m10_7 a0_0 a0_1 a0_2 a0_3 a0_4 a0_5 a0_6 a0_7)))) then false else true))
set_option maxRecDepth 100000 in
theorem t3 (a0_0 : Int) (a0_1 : Int) (a0_2 : Int) (a0_3 : Int) (a0_4 : ByteArray) (a0_5 : Bool) (a0_6 : Int) (a0_7 : Bool) : Gives Try.prog 3 [.sv (.agg [.int .i64 a0_0, .int .i64 a0_1, .int .i64 a0_2, .int .i64 a0_3, .str a0_4, .bool a0_5, .int .i64 a0_6, .bool a0_7])] (SV.one (.bool (m3 a0_0 a0_1 a0_2 a0_3 a0_4 a0_5 a0_6 a0_7))) (List.replicate 1 .gone) := by
  refine gives_of Try.func3 rfl ?_
  rw [Try.ntmps3]
  refine Wp.seq ?_
  refine Wp.region ?_
  refine LWp.boxE [.int .i64 a0_0, .int .i64 a0_1, .int .i64 a0_2, .int .i64 a0_3, .str a0_4, .bool a0_5, .int .i64 a0_6, .bool a0_7] rfl rfl ?_
  refine LWp.pureE (.one (.bool false)) rfl rfl ?_
  refine LWp.nil ?_
  refine Wp.seq ?_
  refine Wp.region ?_
  refine LWp.pureE (.one (.int .i64 1048576)) rfl rfl ?_
  refine LWp.nil ?_
  refine Wp.seq ?_
  refine Wp.region ?_
  refine LWp.pureE (.agg [.int .i64 a0_0, .int .i64 a0_1, .int .i64 a0_2, .int .i64 a0_3, .str a0_4, .bool a0_5, .int .i64 a0_6, .bool a0_7]) rfl rfl ?_
  refine LWp.pureE (.one (.int .i64 1048576)) rfl rfl ?_
  refine LWp.callS rfl Try.func8 (by decide) rfl rfl rfl (by decide) rfl (t8 _ _ _ _ _ _ _ _ _) rfl (.inl rfl) ?_
  refine LWp.pureE (.one (.int .i64 (m8 a0_0 a0_1 a0_2 a0_3 a0_4 a0_5 a0_6 a0_7 1048576))) rfl rfl ?_
  refine LWp.nil ?_
  refine Wp.seq ?_
  refine Wp.seq ?_
  refine Wp.region ?_
  refine LWp.pureE (.one (.int .i64 (m8 a0_0 a0_1 a0_2 a0_3 a0_4 a0_5 a0_6 a0_7 1048576))) rfl rfl ?_
  refine LWp.pureE (.one (.bool (decide ((m8 a0_0 a0_1 a0_2 a0_3 a0_4 a0_5 a0_6 a0_7 1048576) < 0)))) rfl rfl ?_
  refine LWp.nil ?_
  refine Wp.cond rfl (fun h1 => ?_) (fun h1 => ?_)
  · simp only [h1]
    refine Wp.seq ?_
    refine Wp.region ?_
    refine LWp.pureE (.one (.bool true)) rfl rfl ?_
    refine LWp.nil ?_
    exact Wp.ret ⟨.inr rfl, _, _, rfl, (show SV.one (.bool true) = SV.one (.bool (m3 a0_0 a0_1 a0_2 a0_3 a0_4 a0_5 a0_6 a0_7)) by simp only [m3, h1, cond_true, cond_false])⟩
  · simp only [h1]
    refine Wp.skip ?_
    refine Wp.seq ?_
    refine Wp.region ?_
    refine LWp.pureE (.agg [.int .i64 a0_0, .int .i64 a0_1, .int .i64 a0_2, .int .i64 a0_3, .str a0_4, .bool a0_5, .int .i64 a0_6, .bool a0_7]) rfl rfl ?_
    refine LWp.callS rfl Try.func10 (by decide) rfl rfl rfl (by decide) rfl (t10 _ _ _ _ _ _ _ _) rfl (.inl rfl) ?_
    refine LWp.callS rfl Try.func9 (by decide) rfl rfl rfl (by decide) rfl (t9 _ _ _ _ _ _ _ _) rfl (.inl rfl) ?_
    refine LWp.pureE (.one (.bool (m9 (m10_0 a0_0 a0_1 a0_2 a0_3 a0_4 a0_5 a0_6 a0_7) (m10_1 a0_0 a0_1 a0_2 a0_3 a0_4 a0_5 a0_6 a0_7) (m10_2 a0_0 a0_1 a0_2 a0_3 a0_4 a0_5 a0_6 a0_7) (m10_3 a0_0 a0_1 a0_2 a0_3 a0_4 a0_5 a0_6 a0_7) (m10_4 a0_0 a0_1 a0_2 a0_3 a0_4 a0_5 a0_6 a0_7) (m10_5 a0_0 a0_1 a0_2 a0_3 a0_4 a0_5 a0_6 a0_7) (m10_6 a0_0 a0_1 a0_2 a0_3 a0_4 a0_5 a0_6 a0_7) (m10_7 a0_0 a0_1 a0_2 a0_3 a0_4 a0_5 a0_6 a0_7)))) rfl rfl ?_
    refine LWp.nil ?_
    refine Wp.seq ?_
    refine Wp.region ?_
    refine LWp.pureE (.agg [.int .i64 a0_0, .int .i64 a0_1, .int .i64 a0_2, .int .i64 a0_3, .str a0_4, .bool a0_5, .int .i64 a0_6, .bool a0_7]) rfl rfl ?_
    refine LWp.callS rfl Try.func10 (by decide) rfl rfl rfl (by decide) rfl (t10 _ _ _ _ _ _ _ _) rfl (.inl rfl) ?_
    refine LWp.callS rfl Try.func11 (by decide) rfl rfl rfl (by decide) rfl (t11 _ _ _ _ _ _ _ _) rfl (.inl rfl) ?_
    refine LWp.pureE (.one (.bool (m11 (m10_0 a0_0 a0_1 a0_2 a0_3 a0_4 a0_5 a0_6 a0_7) (m10_1 a0_0 a0_1 a0_2 a0_3 a0_4 a0_5 a0_6 a0_7) (m10_2 a0_0 a0_1 a0_2 a0_3 a0_4 a0_5 a0_6 a0_7) (m10_3 a0_0 a0_1 a0_2 a0_3 a0_4 a0_5 a0_6 a0_7) (m10_4 a0_0 a0_1 a0_2 a0_3 a0_4 a0_5 a0_6 a0_7) (m10_5 a0_0 a0_1 a0_2 a0_3 a0_4 a0_5 a0_6 a0_7) (m10_6 a0_0 a0_1 a0_2 a0_3 a0_4 a0_5 a0_6 a0_7) (m10_7 a0_0 a0_1 a0_2 a0_3 a0_4 a0_5 a0_6 a0_7)))) rfl rfl ?_
    refine LWp.nil ?_
    refine Wp.seq ?_
    refine Wp.seq ?_
    refine Wp.region ?_
    refine LWp.pureE (.one (.bool (m11 (m10_0 a0_0 a0_1 a0_2 a0_3 a0_4 a0_5 a0_6 a0_7) (m10_1 a0_0 a0_1 a0_2 a0_3 a0_4 a0_5 a0_6 a0_7) (m10_2 a0_0 a0_1 a0_2 a0_3 a0_4 a0_5 a0_6 a0_7) (m10_3 a0_0 a0_1 a0_2 a0_3 a0_4 a0_5 a0_6 a0_7) (m10_4 a0_0 a0_1 a0_2 a0_3 a0_4 a0_5 a0_6 a0_7) (m10_5 a0_0 a0_1 a0_2 a0_3 a0_4 a0_5 a0_6 a0_7) (m10_6 a0_0 a0_1 a0_2 a0_3 a0_4 a0_5 a0_6 a0_7) (m10_7 a0_0 a0_1 a0_2 a0_3 a0_4 a0_5 a0_6 a0_7)))) rfl rfl ?_
    refine LWp.pureE (.one (.bool (m9 (m10_0 a0_0 a0_1 a0_2 a0_3 a0_4 a0_5 a0_6 a0_7) (m10_1 a0_0 a0_1 a0_2 a0_3 a0_4 a0_5 a0_6 a0_7) (m10_2 a0_0 a0_1 a0_2 a0_3 a0_4 a0_5 a0_6 a0_7) (m10_3 a0_0 a0_1 a0_2 a0_3 a0_4 a0_5 a0_6 a0_7) (m10_4 a0_0 a0_1 a0_2 a0_3 a0_4 a0_5 a0_6 a0_7) (m10_5 a0_0 a0_1 a0_2 a0_3 a0_4 a0_5 a0_6 a0_7) (m10_6 a0_0 a0_1 a0_2 a0_3 a0_4 a0_5 a0_6 a0_7) (m10_7 a0_0 a0_1 a0_2 a0_3 a0_4 a0_5 a0_6 a0_7)))) rfl rfl ?_
    refine LWp.pureE (.one (.bool (!((m11 (m10_0 a0_0 a0_1 a0_2 a0_3 a0_4 a0_5 a0_6 a0_7) (m10_1 a0_0 a0_1 a0_2 a0_3 a0_4 a0_5 a0_6 a0_7) (m10_2 a0_0 a0_1 a0_2 a0_3 a0_4 a0_5 a0_6 a0_7) (m10_3 a0_0 a0_1 a0_2 a0_3 a0_4 a0_5 a0_6 a0_7) (m10_4 a0_0 a0_1 a0_2 a0_3 a0_4 a0_5 a0_6 a0_7) (m10_5 a0_0 a0_1 a0_2 a0_3 a0_4 a0_5 a0_6 a0_7) (m10_6 a0_0 a0_1 a0_2 a0_3 a0_4 a0_5 a0_6 a0_7) (m10_7 a0_0 a0_1 a0_2 a0_3 a0_4 a0_5 a0_6 a0_7)) == (m9 (m10_0 a0_0 a0_1 a0_2 a0_3 a0_4 a0_5 a0_6 a0_7) (m10_1 a0_0 a0_1 a0_2 a0_3 a0_4 a0_5 a0_6 a0_7) (m10_2 a0_0 a0_1 a0_2 a0_3 a0_4 a0_5 a0_6 a0_7) (m10_3 a0_0 a0_1 a0_2 a0_3 a0_4 a0_5 a0_6 a0_7) (m10_4 a0_0 a0_1 a0_2 a0_3 a0_4 a0_5 a0_6 a0_7) (m10_5 a0_0 a0_1 a0_2 a0_3 a0_4 a0_5 a0_6 a0_7) (m10_6 a0_0 a0_1 a0_2 a0_3 a0_4 a0_5 a0_6 a0_7) (m10_7 a0_0 a0_1 a0_2 a0_3 a0_4 a0_5 a0_6 a0_7)))))) rfl rfl ?_
    refine LWp.nil ?_
    refine Wp.cond rfl (fun h2 => ?_) (fun h2 => ?_)
    · simp only [h2]
      refine Wp.seq ?_
      refine Wp.region ?_
      refine LWp.pureE (.one (.bool false)) rfl rfl ?_
      refine LWp.nil ?_
      exact Wp.ret ⟨.inr rfl, _, _, rfl, (show SV.one (.bool false) = SV.one (.bool (m3 a0_0 a0_1 a0_2 a0_3 a0_4 a0_5 a0_6 a0_7)) by simp only [m3, h1, h2, cond_true, cond_false])⟩
    · simp only [h2]
      refine Wp.skip ?_
      refine Wp.seq ?_
      refine Wp.region ?_
      refine LWp.pureE (.one (.bool true)) rfl rfl ?_
      refine LWp.nil ?_
      exact Wp.ret ⟨.inr rfl, _, _, rfl, (show SV.one (.bool true) = SV.one (.bool (m3 a0_0 a0_1 a0_2 a0_3 a0_4 a0_5 a0_6 a0_7)) by simp only [m3, h1, h2, cond_true, cond_false])⟩

end Go.TI
