/- WholeOrNot: the law holds, for all arguments. No condition. -/
import Derived.Test.YtngfcadblnecpaaWNR1P
namespace Go.TI
open Go
set_option linter.unusedSimpArgs false
set_option linter.unusedVariables false

theorem wholeOrNot_true (a b c : List Shelf) (ha : ol oShelf a) (hb : ol oShelf b) (hc : ol oShelf c) : w_FnExactWholeOrNot a b c = some true := by
  unfold w_FnExactWholeOrNot
  obtain ⟨v, h1, h2⟩ := szShelfS_eq a ha 1048576 (by omega) (by omega)
  rw [h1, Option.bind_some]
  split at h2
  · rename_i hd
    rw [decide_eq_false (by omega), cond_false]
    obtain ⟨u, h3, h4⟩ := szShelfS_eq b hb v (by omega) (by omega)
    rw [h3, Option.bind_some]
    split at h4
    · rename_i hd
      rw [decide_eq_false (by omega), cond_false]
      obtain ⟨s, h5, h6⟩ := szShelfS_eq c hc u (by omega) (by omega)
      rw [h5, Option.bind_some]
      split at h6
      · rw [decide_eq_false (by omega), cond_false]
        have za : zl zShelf a ≤ 1048576 := by omega
        have zb : zl zShelf b ≤ 1048576 := by omega
        have zc : zl zShelf c ≤ 1048576 := by omega
        obtain ⟨t, h7, h8⟩ := tells_same (s_SameModel_eq c a zc) (i_SameModel_eq c a zc)
        obtain ⟨r, h9, h10⟩ := tells_same (s_SameModel_eq c b zc) (i_SameModel_eq c b zc)
        simp only [toShelfS_eq a za, toShelfS_eq b zb, toShelfS_eq c zc, Option.bind_some, s_WholeOrNot, i_WholeOrNot, h7, h8, h9, h10, tells_self (eqShelfS_eq a a za), tells_self (eqShelfS_eq b b zb), tells_self (eqShelfS_eq c c zc), Bool.not_true, cond_false]
        cases t <;> simp
      · rw [decide_eq_true h6, cond_true]
    · rw [decide_eq_true h4, cond_true]
  · rw [decide_eq_true h2, cond_true]
end Go.TI
