/- DealTurned: for every seed and every row of whole numbers, the law's body, as printed, answers yes. No condition. -/
import Derived.Test.YtemmjinfeaafdaaPDealC
import Derived.Test.YtemmjinfeaafdaaPAllx21
set_option linter.unusedVariables false
set_option linter.unusedSimpArgs false
namespace Go.Proofs.Ytemmjinfeaafdaa.Pure
open Go Go.RowKit Go.Proofs.Ytemmjinfeaafdaa.PAll Go.Proofs.Ytemmjinfeaafdaa.Perm Go.Proofs.YtemmjinfeaafdaaVW.PrintWords Go.Proofs.YtemmjinfeaafdaaVW.PrintLast

theorem DealTurned : stooklaw06_DealTurned.Pure := by
  intro a l ha _ _ _
  obtain ⟨s, rfl⟩ := Bits.bv64 (Bits.u64_wf ha).1 (Bits.u64_wf ha).2
  refine ⟨131080, ?_⟩
  unfold stooklaw06_DealTurned.f
  by_cases h1 : (l.length : Int) > 65536
  · rw [(deal_high h1 _ _).1, bnd, if_neg (by decide), if_pos h1, works_f _ (by omega), bnd]
  have hn : l.length ≤ 65536 := by omega
  obtain ⟨f, g, r, hi, _, _, _, r3, _⟩ := deal_f s l.length hn 131080 (by omega)
  have e1 : nums l.length f = nums (nums l.length f).length f := by rw [nums_len]
  have i1 : Inv (nums l.length f).length f g := by rw [nums_len]; exact hi
  have e2 : nums l.length g = nums (nums l.length g).length g := by rw [nums_len]
  have i2 : Inv (nums l.length g).length g f := by rw [nums_len]; exact hi.symm
  have hl : taken (taken l l.length f) l.length g = l := by
    refine Eq.trans (tab_congr (fun x hx => ?_)) (tab_rd l)
    have := hi x hx
    rw [rd_taken this.2.2.1, this.2.2.2]
  rw [r3, bnd, if_pos rfl, turn_yes (by rw [nums_len]; omega) e1 i1 _ (by rw [nums_len]; omega), bnd, take_yes (by rw [nums_len]; omega) e1 i1 (by rw [nums_len]) _ (by rw [nums_len]; omega), bnd, nums_len,
    take_yes (by rw [nums_len]; omega) e2 i2 (by dsimp only; rw [taken_len, nums_len]) _ (by rw [nums_len]; omega), bnd, nums_len, if_pos rfl, if_pos rfl, if_pos rfl, hl, words_f _ _ _ (by dsimp only; omega) (by dsimp only; omega), bnd, decide_eq_true rfl, if_pos rfl, works_f _ (by omega), bnd]
end Go.Proofs.Ytemmjinfeaafdaa.Pure
