/- DealBack: for every whole number and every two rows of whole numbers, the law's body, as printed, answers yes. No condition. -/
import Derived.Test.YtemmjinfeaafdaaPDealB
import Derived.Test.YtemmjinfeaafdaaPAllx16
set_option linter.unusedVariables false
set_option linter.unusedSimpArgs false
namespace Go.Proofs.Ytemmjinfeaafdaa.Pure
open Go Go.RowKit Go.Proofs.Ytemmjinfeaafdaa.PAll Go.Proofs.Ytemmjinfeaafdaa.Perm Go.Proofs.YtemmjinfeaafdaaVW.PrintWords Go.Proofs.YtemmjinfeaafdaaVW.PrintLast

theorem dealBack_j (p : List Int) : stooklaw06_DealBack.j0 131081 p = some true := by
  rw [show (131081 : Nat) = 131080 + 1 from rfl]
  simp only [stooklaw06_DealBack.j0]
  rcases three p with hn | ⟨hn, ho⟩ | ⟨hn, f, g, e, h⟩
  · rw [back_long hn, bnd, if_neg (by decide), is_long hn, bnd, if_neg (by simp), works_f _ (by omega), bnd]
  · rw [back_no hn ho _ (by omega), bnd, if_neg (by decide), is_no hn ho _ (by omega), bnd, if_neg (by simp), works_f _ (by omega), bnd]
  · have hb : (backs p).length = p.length - 1 := tab_len _ _
    have hrd : ∀ j : Nat, j < p.length - 1 → rd (backs p) (j : Int) = (stepsOf f p.length j : Int) := fun j hj => by rw [backs_eq e]; exact rd_nums hj
    have hB := B_ord h.ord p.length (Nat.le_refl _)
    have hm : MayL (backs p) p.length := fun j hj => by
      rw [hb] at hj
      have := hB.2.2 j (by omega)
      rw [hrd j hj]
      omega
    have hmade : made (backs p) p.length = p := by
      refine Eq.trans (nums_congr (fun x hx => ?_)) e.symm
      rw [hb, ← P_back h.ord x hx]
      have hP : ∀ j, j ≤ p.length - 1 → P (fun j => (rd (backs p) (j : Int)).toNat) p.length j = P (stepsOf f p.length) p.length j := by
        intro j
        induction j with
        | zero => intro _; rfl
        | succ j ih =>
          intro hj
          simp only [P]
          rw [ih (by omega), hrd j (by omega), Int.toNat_natCast]
      rw [hP _ (Nat.le_refl _)]
    rw [back_yes hn e h _ (by omega), bnd, if_pos rfl, of_yes hn hb hm _ (by omega), bnd, hmade, is_yes hn e h _ (by omega), bnd, if_pos rfl, if_pos rfl, ints_f _ _ _ (by dsimp only; omega) (by dsimp only; omega), bnd, decide_eq_true rfl, if_pos rfl, works_f _ (by omega), bnd]
theorem DealBack : stooklaw06_DealBack.Pure := by
  intro n l p _ _ _ _ _ _ _
  refine ⟨131081, ?_⟩
  unfold stooklaw06_DealBack.f
  by_cases h0 : n < 0
  · rw [of_low h0, bnd, if_neg (by decide)]
    exact dealBack_j p
  by_cases h1 : n > 65536
  · rw [of_high h1, bnd, if_neg (by decide)]
    exact dealBack_j p
  obtain ⟨m, rfl⟩ : ∃ m : Nat, n = m := ⟨n.toNat, by omega⟩
  have hm : m ≤ 65536 := by omega
  by_cases hs : l.length = m - 1 ∧ MayL l m
  · have hi := made_inv hs.1 hs.2
    have hml := made_len l m
    have hi2 : Inv (made l m).length (P (fun j => (rd l (j : Int)).toNat) m l.length) (Q (fun j => (rd l (j : Int)).toNat) m l.length) := by rw [hml]; exact hi
    have he : made l m = nums (made l m).length (P (fun j => (rd l (j : Int)).toNat) m l.length) := by rw [hml]; rfl
    have hb : backs (made l m) = l := by
      rw [backs_eq he, hml]
      refine Eq.trans ?_ (tab_rd l)
      rw [hs.1]
      have hq := (back_P (s := fun j => (rd l (j : Int)).toNat) (f := P (fun j => (rd l (j : Int)).toNat) m l.length) (n := m) (fun i hi => by have := hs.2 i (by omega); omega) (fun x _ => by rw [hs.1]) (m - 1) (Nat.le_refl _)).2
      refine tab_congr (fun x hx => ?_)
      have a := hq x hx
      rw [hs.1] at a
      have b := hs.2 x (by omega)
      rw [a]
      omega
    rw [of_yes hm hs.1 hs.2 _ (by omega), bnd, if_pos rfl, back_yes (by omega) he hi2 _ (by omega), bnd, if_pos rfl, is_yes (by omega) he hi2 _ (by omega), bnd, if_pos rfl, if_pos (by dsimp only; omega), hb, ints_f _ _ _ (by dsimp only; omega) (by dsimp only; omega), bnd, decide_eq_true rfl, if_pos rfl]
    exact dealBack_j p
  · rw [of_no hm hs _ (by omega), bnd, if_neg (by decide)]
    exact dealBack_j p
end Go.Proofs.Ytemmjinfeaafdaa.Pure
