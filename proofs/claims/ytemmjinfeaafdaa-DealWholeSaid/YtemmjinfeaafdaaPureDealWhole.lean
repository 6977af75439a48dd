/- DealWhole: for every seed and every whole number, the law's body, as printed, answers yes. No condition. -/
import Derived.Test.YtemmjinfeaafdaaPDealC
import Derived.Test.YtemmjinfeaafdaaPAllx20
set_option linter.unusedVariables false
set_option linter.unusedSimpArgs false
namespace Go.Proofs.Ytemmjinfeaafdaa.Pure
open Go Go.RowKit Go.Proofs.Ytemmjinfeaafdaa.PAll Go.Proofs.Ytemmjinfeaafdaa.Perm Go.Proofs.YtemmjinfeaafdaaVW.PrintWords Go.Proofs.YtemmjinfeaafdaaVW.PrintLast

theorem whole_l1 (m : Nat) (hm : m ≤ 65536) (d : Nat) : ∀ (k i : Nat), i + d = m → d + 131081 < k → stooklaw06_DealWhole.l1 k (m : Int) (tab m (fun _ => 1)) (i : Int) = some true := by
  induction d with
  | zero =>
    intro k i hi hk
    obtain ⟨k, rfl⟩ : ∃ m, k = m + 1 := ⟨k - 1, by omega⟩
    simp only [stooklaw06_DealWhole.l1]
    rw [if_neg (by omega), works_f _ (by omega), bnd]
  | succ d ih =>
    intro k i hi hk
    obtain ⟨k, rfl⟩ : ∃ m, k = m + 1 := ⟨k - 1, by omega⟩
    simp only [stooklaw06_DealWhole.l1]
    rw [if_pos (by omega), if_pos (by omega), if_pos (by rw [tab_len]; omega), rd_tab (by omega), if_pos rfl, w64 (by omega) (by omega), show (i : Int) + 1 = ((i + 1 : Nat) : Int) by omega]
    exact ih k (i + 1) (by omega) (by omega)
theorem whole_l0 (m : Nat) (hm : m ≤ 65536) (f g : Nat → Nat) (hi : Inv m f g) (d : Nat) : ∀ (k i : Nat), i + d = m → d + m + 131083 < k →
    stooklaw06_DealWhole.l0 k (m : Int) (nums m f) (tab m (fun y => if g y < i then 1 else 0)) (i : Int) = some true := by
  induction d with
  | zero =>
    intro k i hid hk
    obtain ⟨k, rfl⟩ : ∃ m, k = m + 1 := ⟨k - 1, by omega⟩
    simp only [stooklaw06_DealWhole.l0]
    rw [if_neg (by omega)]
    have e : tab m (fun y => if g y < i then (1 : Int) else 0) = tab m (fun _ => 1) := tab_congr (fun x hx => by rw [if_pos (by have := (hi x hx).2.2.1; omega)])
    rw [e]
    exact whole_l1 m hm m k 0 (by omega) (by omega)
  | succ d ih =>
    intro k i hid hk
    obtain ⟨k, rfl⟩ : ∃ m, k = m + 1 := ⟨k - 1, by omega⟩
    have him : i < m := by omega
    have hf := hi i him
    simp only [stooklaw06_DealWhole.l0]
    rw [if_pos (by omega), if_pos (by omega), if_pos (by rw [nums_len]; omega), rd_nums him, if_neg (by omega), if_neg (by omega), if_pos (by omega), if_pos (by rw [tab_len]; omega), rd_tab hf.1, Int.toNat_natCast]
    rw [if_neg (by omega), w64 (by omega) (by omega), w64 (by omega) (by omega), tab_set, show (i : Int) + 1 = ((i + 1 : Nat) : Int) by omega]
    have e : tab m (upd (fun y => if g y < i then (1 : Int) else 0) (f i) (0 + 1)) = tab m (fun y => if g y < i + 1 then 1 else 0) := tab_congr (fun x hx => by
      by_cases c : x = f i
      · rw [c, upd_same, if_pos (by omega)]; rfl
      · rw [upd_other _ _ c]
        have hgx : g x ≠ i := fun q => c (by rw [← q, (hi x hx).2.2.2])
        by_cases c2 : g x < i
        · rw [if_pos c2, if_pos (by omega)]
        · rw [if_neg c2, if_neg (by omega)])
    rw [e]
    exact ih k (i + 1) (by omega) (by omega)
theorem DealWhole : stooklaw06_DealWhole.Pure := by
  intro a n ha _
  obtain ⟨s, rfl⟩ := Bits.bv64 (Bits.u64_wf ha).1 (Bits.u64_wf ha).2
  refine ⟨400000 + 1 + 1, ?_⟩
  unfold stooklaw06_DealWhole.f
  by_cases h0 : n < 0
  · rw [(deal_low h0 _ _).1, bnd, if_pos h0]
    simp only [stooklaw06_DealWhole.j0]
    rw [if_pos trivial, if_neg (by decide), if_pos (by simp), works_f _ (by omega), bnd]
  by_cases h1 : n > 65536
  · rw [(deal_high h1 _ _).1, bnd, if_neg h0, decide_eq_true h1]
    simp only [stooklaw06_DealWhole.j0]
    rw [if_pos trivial, if_neg (by decide), if_pos (by simp), works_f _ (by omega), bnd]
  obtain ⟨m, rfl⟩ : ∃ m : Nat, n = m := ⟨n.toNat, by omega⟩
  obtain ⟨f, g, r, hi, _, _, _, r3, _⟩ := deal_f s m (by omega) (400000 + 1 + 1) (by omega)
  rw [r3, bnd, if_neg h0, decide_eq_false h1]
  obtain ⟨K, hK⟩ : ∃ K, K = 400000 := ⟨_, rfl⟩
  rw [← hK]
  simp only [stooklaw06_DealWhole.j0, stooklaw06_DealWhole.j1]
  rw [if_neg (by decide), if_pos trivial, if_neg (by rw [nums_len]; simp), if_pos (by omega), if_pos (by omega), Int.toNat_natCast]
  have e : List.replicate m (0 : Int) = tab m (fun y => if g y < 0 then 1 else 0) := by
    rw [tab_const]
    exact tab_congr (fun x _ => by rw [if_neg (by omega)])
  rw [e]
  exact whole_l0 m (by omega) f g hi m K 0 (by omega) (by omega)
end Go.Proofs.Ytemmjinfeaafdaa.Pure
