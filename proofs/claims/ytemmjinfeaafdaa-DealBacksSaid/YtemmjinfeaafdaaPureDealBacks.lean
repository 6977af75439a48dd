/- DealBacks: for every row of whole numbers, the law's body, as printed, answers yes. No condition. -/
import Derived.Test.YtemmjinfeaafdaaPDealB
import Derived.Test.YtemmjinfeaafdaaPAllx15
set_option linter.unusedVariables false
set_option linter.unusedSimpArgs false
namespace Go.Proofs.Ytemmjinfeaafdaa.Pure
open Go Go.RowKit Go.Proofs.Ytemmjinfeaafdaa.PAll Go.Proofs.Ytemmjinfeaafdaa.Perm Go.Proofs.YtemmjinfeaafdaaVW.PrintWords Go.Proofs.YtemmjinfeaafdaaVW.PrintLast

theorem DealBacks : stooklaw06_DealBacks.Pure := by
  intro l _ _ _
  refine ⟨131080, ?_⟩
  unfold stooklaw06_DealBacks.f
  rcases three l with hn | ⟨hn, ho⟩ | ⟨hn, f, g, e, h⟩
  · rw [back_long hn, bnd, refback_long hn, bnd, turn_long hn, bnd, refturn_long hn, bnd, is_long hn, bnd, refis_long hn, bnd, if_pos (by rfl), ints_f _ _ _ (by simp) (by simp), bnd, decide_eq_true rfl, if_pos rfl, if_pos rfl, bnd, if_pos rfl, if_pos rfl, works_f _ (by omega), bnd]
  · rw [back_no hn ho _ (by omega), bnd, refback_no hn ho _ (by omega), bnd, turn_no hn ho _ (by omega), bnd, refturn_no hn ho _ (by omega), bnd, is_no hn ho _ (by omega), bnd, refis_no hn ho _ (by omega), bnd, if_pos (by rfl), ints_f _ _ _ (by simp) (by simp), bnd, decide_eq_true rfl, if_pos rfl, if_pos rfl, bnd, if_pos rfl, if_pos rfl, works_f _ (by omega), bnd]
  · have hb : (backs l).length = l.length - 1 := tab_len _ _
    rw [back_yes hn e h _ (by omega), bnd, refback_yes hn e h _ (by omega), bnd, turn_yes hn e h _ (by omega), bnd, refturn_yes hn e h _ (by omega), bnd, is_yes hn e h _ (by omega), bnd, refis_yes hn (Inv.isOrd e h) _ (by omega), bnd, if_pos (by rfl),
      ints_f _ _ _ (by rw [hb]; omega) (by rw [hb]; omega), bnd, decide_eq_true rfl, if_pos rfl, if_pos rfl, ints_f _ _ _ (by rw [nums_len]; omega) (by rw [nums_len]; omega), bnd, decide_eq_true rfl, if_pos rfl, if_pos rfl, works_f _ (by omega), bnd]
end Go.Proofs.Ytemmjinfeaafdaa.Pure
