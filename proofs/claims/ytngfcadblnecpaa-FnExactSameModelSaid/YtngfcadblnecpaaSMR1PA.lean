/- SameModel: the law holds, for all arguments. No condition. -/
import Derived.Test.YtngfcadblnecpaaSMR1P
namespace Go.TI
open Go
set_option linter.unusedSimpArgs false
set_option linter.unusedVariables false

theorem sameModel_true (a b : List Shelf) (ha : ol oShelf a) (hb : ol oShelf b) : w_FnExactSameModel a b = some true := by
  unfold w_FnExactSameModel
  obtain ⟨v, h1, h2⟩ := szShelfS_eq a ha 1048576 (by omega) (by omega)
  rw [h1, Option.bind_some]
  split at h2
  · rename_i hc
    rw [decide_eq_false (by omega), cond_false]
    obtain ⟨u, h3, h4⟩ := szShelfS_eq b hb v (by omega) (by omega)
    rw [h3, Option.bind_some]
    split at h4
    · rename_i hd
      rw [decide_eq_false (by omega), cond_false]
      have za : zl zShelf a ≤ 1048576 := by omega
      have zb : zl zShelf b ≤ 1048576 := by omega
      obtain ⟨t, h5, h6⟩ := tells_same (s_SameModel_eq a b za) (i_SameModel_eq a b za)
      simp only [toShelfS_eq a za, toShelfS_eq b zb, Option.bind_some, h5, h6, tells_self (eqShelfS_eq a a za), tells_self (eqShelfS_eq b b zb), beq_self_eq_true, Bool.not_true, cond_false]
    · rw [decide_eq_true h4, cond_true]
  · rw [decide_eq_true h2, cond_true]

end Go.TI
