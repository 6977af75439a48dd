/- DealOrders: for every whole number and every row of whole numbers, the law's body, as printed, answers yes. No condition. -/
import Derived.Test.YtemmjinfeaafdaaPDealB
import Derived.Test.YtemmjinfeaafdaaPAllx14
set_option linter.unusedVariables false
set_option linter.unusedSimpArgs false
namespace Go.Proofs.Ytemmjinfeaafdaa.Pure
open Go Go.RowKit Go.Proofs.Ytemmjinfeaafdaa.PAll Go.Proofs.Ytemmjinfeaafdaa.Perm Go.Proofs.YtemmjinfeaafdaaVW.PrintWords Go.Proofs.YtemmjinfeaafdaaVW.PrintLast

theorem DealOrders : stooklaw06_DealOrders.Pure := by
  intro n l _ _ _ _
  obtain ⟨r, h1, h2, h3⟩ := of_same n l 131080 (by omega)
  refine ⟨131080, ?_⟩
  unfold stooklaw06_DealOrders.f
  rw [h1, bnd, h2, bnd, ints_f _ _ _ (by omega) (by omega), bnd, decide_eq_true rfl, if_pos rfl, if_pos rfl, works_f _ (by omega), bnd]
end Go.Proofs.Ytemmjinfeaafdaa.Pure
