/- DealSteps: for every seed and every whole number, the law's body, as printed, answers yes. No condition. -/
import Derived.Test.YtemmjinfeaafdaaPDealC
import Derived.Test.YtemmjinfeaafdaaPAllx19
set_option linter.unusedVariables false
set_option linter.unusedSimpArgs false
namespace Go.Proofs.Ytemmjinfeaafdaa.Pure
open Go Go.RowKit Go.Proofs.Ytemmjinfeaafdaa.PAll Go.Proofs.Ytemmjinfeaafdaa.Perm Go.Proofs.YtemmjinfeaafdaaVW.PrintWords Go.Proofs.YtemmjinfeaafdaaVW.PrintLast

theorem DealSteps : stooklaw06_DealSteps.Pure := by
  intro a n ha _
  obtain ⟨s, rfl⟩ := Bits.bv64 (Bits.u64_wf ha).1 (Bits.u64_wf ha).2
  refine ⟨131080, ?_⟩
  unfold stooklaw06_DealSteps.f
  by_cases h0 : n < 0
  · rw [(steps_low h0 _ _).1, bnd, (steps_low h0 _ _).2, bnd, (deal_low h0 _ _).1, bnd, (deal_low h0 _ _).2, bnd, ints_f _ _ _ (by simp) (by simp), bnd, decide_eq_true rfl, if_pos rfl, if_pos rfl, bnd, if_pos rfl, if_pos rfl, works_f _ (by omega), bnd]
  by_cases h1 : n > 65536
  · rw [(steps_high h1 _ _).1, bnd, (steps_high h1 _ _).2, bnd, (deal_high h1 _ _).1, bnd, (deal_high h1 _ _).2, bnd, ints_f _ _ _ (by simp) (by simp), bnd, decide_eq_true rfl, if_pos rfl, if_pos rfl, bnd, if_pos rfl, if_pos rfl, works_f _ (by omega), bnd]
  obtain ⟨m, rfl⟩ : ∃ m : Nat, n = m := ⟨n.toNat, by omega⟩
  obtain ⟨f, g, r, _, hr, r1, r2, r3, r4⟩ := deal_f s m (by omega) 131080 (by omega)
  rw [r1, bnd, r2, bnd, r3, bnd, r4, bnd, ints_f _ _ _ (by dsimp only; omega) (by dsimp only; omega), bnd, decide_eq_true rfl, if_pos rfl, if_pos rfl, ints_f _ _ _ (by dsimp only; rw [nums_len]; omega) (by dsimp only; rw [nums_len]; omega), bnd, decide_eq_true rfl, if_pos rfl, if_pos rfl, works_f _ (by omega), bnd]
end Go.Proofs.Ytemmjinfeaafdaa.Pure
