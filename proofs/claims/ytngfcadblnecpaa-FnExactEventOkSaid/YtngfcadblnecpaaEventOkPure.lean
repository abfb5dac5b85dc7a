/- What FnExactEventOk computes is true, for all arguments. No condition. -/
import Derived.Test.YtngfcadblnecpaaEventOkWalks
import Derived.Laws.Strings
namespace Go.TI
open Go
set_option linter.unusedSimpArgs false
theorem toList_eq (s : ByteArray) : (ByteArray.toList s == ByteArray.toList ⟨#[]⟩) = decide ((ByteArray.size s : Int) ≤ 0) := by
  rw [ByteArray.toList_eq, ByteArray.toList_eq, Bool.eq_iff_iff]
  simp only [beq_iff_eq, decide_eq_true_eq, ByteArray.size]
  constructor
  · intro h
    have : s.data.toList.length = 0 := by rw [h]; rfl
    rw [Array.length_toList] at this
    omega
  · intro h
    have : s.data.toList.length = 0 := by rw [Array.length_toList]; omega
    exact List.eq_nil_of_length_eq_zero this
theorem ask_eq (a b c d : Int) (s : ByteArray) : m31 a b c d s = m30 a b c d s := by
  unfold m31 m30 m51 m52
  rw [toList_eq]
  generalize (ByteArray.size s : Int) = n
  rw [Bool.eq_iff_iff]
  simp only [Bool.cond_eq_true_distrib, Bool.cond_false_right, Bool.cond_false_left, Bool.and_eq_true, decide_eq_true_eq, Bool.not_eq_true', Bool.or_eq_true, beq_iff_eq, bne_iff_ne, Bool.not_eq_eq_eq_not, Bool.not_true, Bool.not_false, decide_eq_false_iff_not, bne_eq_false_iff_eq]
  constructor
  · rintro ⟨h1, h2, h3⟩
    refine ⟨h1, h2, ?_⟩
    repeat' split at h3
    all_goals (refine ⟨by omega, ?_⟩; repeat' split)
    all_goals first | omega | (refine ⟨by omega, ?_⟩; repeat' split) | skip
    all_goals first | omega | (refine ⟨by omega, ?_⟩; repeat' split) | skip
    all_goals omega
  · rintro ⟨h1, h2, h3, h4⟩
    refine ⟨h1, h2, ?_⟩
    repeat' split at h4
    all_goals (repeat' split)
    all_goals omega
theorem event_true (a b c d : Int) (s : ByteArray) (e : Bool) (f : Int) (g : Bool) : m3 a b c d s e f g = true := by
  unfold m3 m11 m9
  rw [ask_eq]
  simp
end Go.TI
