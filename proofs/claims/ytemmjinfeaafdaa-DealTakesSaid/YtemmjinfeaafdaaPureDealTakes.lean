/- DealTakes: for every two rows of whole numbers, the law's body, as printed, answers yes. No condition. -/
import Derived.Test.YtemmjinfeaafdaaPDealB
import Derived.Test.YtemmjinfeaafdaaPAllx17
set_option linter.unusedVariables false
set_option linter.unusedSimpArgs false
namespace Go.Proofs.Ytemmjinfeaafdaa.Pure
open Go Go.RowKit Go.Proofs.Ytemmjinfeaafdaa.PAll Go.Proofs.Ytemmjinfeaafdaa.Perm Go.Proofs.YtemmjinfeaafdaaVW.PrintWords Go.Proofs.YtemmjinfeaafdaaVW.PrintLast

theorem DealTakes : stooklaw06_DealTakes.Pure := by
  intro l m _ _ _ _ _ _
  refine ⟨131080, ?_⟩
  unfold stooklaw06_DealTakes.f
  rcases three l with hn | ⟨hn, ho⟩ | ⟨hn, f, g, e, h⟩
  · rw [take_long hn, bnd, reftake_long hn, bnd, words_f _ _ _ (by simp) (by simp), bnd, decide_eq_true rfl, if_pos rfl, if_pos rfl, works_f _ (by omega), bnd]
  · rw [take_no hn ho _ _ (by omega), bnd, reftake_no hn ho _ _ (by omega), bnd, words_f _ _ _ (by simp) (by simp), bnd, decide_eq_true rfl, if_pos rfl, if_pos rfl, works_f _ (by omega), bnd]
  · by_cases hm : m.length = l.length
    · rw [take_yes hn e h hm _ (by omega), bnd, reftake_yes hn e h hm _ (by omega), bnd, words_f _ _ _ (by rw [taken_len]; omega) (by rw [taken_len]; omega), bnd, decide_eq_true rfl, if_pos rfl, if_pos rfl, works_f _ (by omega), bnd]
    · rw [take_len hn e h hm _ (by omega), bnd, reftake_len hn e h hm _ (by omega), bnd, words_f _ _ _ (by simp) (by simp), bnd, decide_eq_true rfl, if_pos rfl, if_pos rfl, works_f _ (by omega), bnd]
end Go.Proofs.Ytemmjinfeaafdaa.Pure
