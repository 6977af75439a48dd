/- The order of steps, as the program and as the document tell it; and an order that the document tells. No condition but lengths'. -/
import Derived.Test.YtemmjinfeaafdaaPAllx1
import Derived.Test.YtemmjinfeaafdaaPAllx2
import Derived.Test.YtemmjinfeaafdaaPAllx3
import Derived.Test.YtemmjinfeaafdaaPAllx13
import Derived.Test.YtemmjinfeaafdaaPDealA
set_option linter.unusedVariables false
set_option linter.unusedSimpArgs false
namespace Go.Proofs.Ytemmjinfeaafdaa.Pure
open Go Go.RowKit Go.Proofs.Ytemmjinfeaafdaa.PAll Go.Proofs.Ytemmjinfeaafdaa.Perm Go.Proofs.YtemmjinfeaafdaaVW.PrintWords Go.Proofs.YtemmjinfeaafdaaVW.PrintLast Go.Proofs.YtemmjinfeaafdaaVW.PrintMore

theorem size_low {n : Int} (h : n < 0) : deal_size.f n = some 2 := by unfold deal_size.f; rw [if_pos h]
theorem size_high {n : Int} (h : n > 65536) : deal_size.f n = some 3 := by unfold deal_size.f; rw [if_neg (by omega), if_pos h]
theorem size_may {n : Int} (h0 : 0 ≤ n) (h : n ≤ 65536) : deal_size.f n = some 0 := by unfold deal_size.f; rw [if_neg (by omega), if_neg (by omega)]
theorem mx_less (n : Nat) (hn : n ≤ 65536) : mx 0 (wrap64 ((n : Int) - 1)) = ((n - 1 : Nat) : Int) := by
  rw [w64 (by omega) (by omega)]
  unfold mx
  split <;> omega
/-- May these be the steps of n? -/
def MayL (l : List Int) (n : Nat) : Prop := ∀ j : Nat, j < l.length → 0 ≤ rd l j ∧ rd l j ≤ (n : Int) - 1 - j
/-- The order that steps make. -/
def made (l : List Int) (n : Nat) : List Int := nums n (P (fun j => (rd l (j : Int)).toNat) n l.length)
theorem sw_set {n i v : Nat} (f : Nat → Nat) (hi : i < n) (hv : v < n) : (((nums n f).set i (rd (nums n f) (v : Int))).set v (rd (nums n f) (i : Int))) = nums n (sw f i v) := by
  rw [rd_nums hi, rd_nums hv, nums_set, nums_set, sw_upd]
theorem of_l0 (l : List Int) (n : Nat) (hn : n ≤ 65536) (d : Nat) : ∀ (k i : Nat) (A : Nat → Int), i + d = n → (∀ y : Nat, y < i → A y = y) →
    deal_Of.l0 (k + 1 + d) (n : Int) l (tab n A) (n : Int) (i : Int) = deal_Of.l1 k (n : Int) (nums n id) l (l.length : Int) 0 := by
  induction d with
  | zero =>
    intro k i A hi hA
    simp only [Nat.add_zero, deal_Of.l0]
    rw [if_neg (by omega)]
    have e : tab n A = nums n id := tab_congr (fun x hx => hA x (by omega))
    rw [e]
  | succ d ih =>
    intro k i A hi hA
    rw [show k + 1 + (d + 1) = (k + 1 + d) + 1 from rfl]
    simp only [deal_Of.l0]
    rw [if_pos (by omega), if_pos (by omega), if_pos (by rw [tab_len]; omega), w64 (by omega) (by omega), Int.toNat_natCast, tab_set, show (i : Int) + 1 = ((i + 1 : Nat) : Int) by omega]
    refine ih k (i + 1) _ (by omega) (fun y hy => ?_)
    by_cases e : y = i
    · rw [e, upd_same]
    · rw [upd_other _ _ e]; exact hA y (by omega)
theorem of_l1 (l : List Int) (n : Nat) (hn : n ≤ 65536) (hl : l.length = n - 1) (d : Nat) : ∀ (k j : Nat), j + d = l.length → d < k →
    (¬ MayL l n ∧ deal_Of.l1 k (n : Int) (nums n (P (fun j => (rd l (j : Int)).toNat) n j)) l (l.length : Int) (j : Int) = some (([] : List Int), 2)) ∨
    ((∀ x : Nat, j ≤ x → x < l.length → 0 ≤ rd l x ∧ rd l x ≤ (n : Int) - 1 - x) ∧ deal_Of.l1 k (n : Int) (nums n (P (fun j => (rd l (j : Int)).toNat) n j)) l (l.length : Int) (j : Int) = some (made l n, 0)) := by
  induction d with
  | zero =>
    intro k j hj hk
    obtain ⟨k, rfl⟩ : ∃ m, k = m + 1 := ⟨k - 1, by omega⟩
    refine Or.inr ⟨fun x h1 h2 => by omega, ?_⟩
    simp only [deal_Of.l1]
    rw [if_neg (by omega), show j = l.length by omega]
    rfl
  | succ d ih =>
    intro k j hj hk
    obtain ⟨k, rfl⟩ : ∃ m, k = m + 1 := ⟨k - 1, by omega⟩
    simp only [deal_Of.l1]
    rw [if_pos (by omega), if_pos (by omega), if_pos (by omega)]
    by_cases c1 : rd l j < 0
    · exact Or.inl ⟨fun h => by have := h j (by omega); omega, by rw [if_pos c1]⟩
    rw [if_neg c1, w64 (i := (n : Int) - 1) (by omega) (by omega), w64 (i := (n : Int) - 1 - j) (by omega) (by omega)]
    by_cases c2 : rd l j > (n : Int) - 1 - j
    · exact Or.inl ⟨fun h => by have := h j (by omega); omega, by rw [if_pos c2]⟩
    obtain ⟨v, hv⟩ : ∃ v : Nat, rd l j = v := ⟨(rd l j).toNat, by omega⟩
    obtain ⟨i, hi⟩ : ∃ i : Nat, i = n - 1 - j := ⟨_, rfl⟩
    have ei : (n : Int) - 1 - j = (i : Int) := by omega
    have hs : P (fun j => (rd l (j : Int)).toNat) n (j + 1) = sw (P (fun j => (rd l (j : Int)).toNat) n j) i v := by
      show sw _ (n - 1 - j) ((rd l (j : Int)).toNat) = _
      rw [hv, Int.toNat_natCast, ← hi]
    have nx := ih k (j + 1) (by omega) (by omega)
    rw [hs] at nx
    rw [if_neg c2, if_pos (by omega), hv, if_pos (by rw [nums_len]; omega), ei, if_pos (by omega), if_pos (by rw [nums_len]; omega), Int.toNat_natCast, Int.toNat_natCast, sw_set _ (by omega) (by omega), w64 (by omega) (by omega), show (j : Int) + 1 = ((j + 1 : Nat) : Int) by omega]
    rcases nx with ⟨h1, h2⟩ | ⟨h1, h2⟩
    · exact Or.inl ⟨h1, h2⟩
    · refine Or.inr ⟨fun x hx hx2 => ?_, h2⟩
      by_cases e : x = j
      · subst e; omega
      · exact h1 x (by omega) hx2
theorem of_low {n : Int} (h : n < 0) (l : List Int) (k : Nat) : deal_Of.f k n l = some (([] : List Int), 2) := by
  unfold deal_Of.f
  rw [size_low h, bnd, if_neg (by decide)]
theorem of_high {n : Int} (h : n > 65536) (l : List Int) (k : Nat) : deal_Of.f k n l = some (([] : List Int), 3) := by
  unfold deal_Of.f
  rw [size_high h, bnd, if_neg (by decide)]
theorem of_f (n : Nat) (hn : n ≤ 65536) (l : List Int) (k : Nat) (hk : 2 * n + 4 ≤ k) :
    (¬ (l.length = n - 1 ∧ MayL l n) ∧ deal_Of.f k (n : Int) l = some (([] : List Int), 2)) ∨ ((l.length = n - 1 ∧ MayL l n) ∧ deal_Of.f k (n : Int) l = some (made l n, 0)) := by
  unfold deal_Of.f
  rw [size_may (by omega) (by omega), bnd, if_pos rfl, mx_less n hn]
  by_cases hl : l.length = n - 1
  · rw [if_pos (by omega), if_pos (by omega), if_pos (by omega), Int.toNat_natCast, tab_const]
    have h0 := of_l0 l n hn n (k - 1 - n) 0 (fun _ => 0) (by omega) (fun y hy => by omega)
    rw [show k - 1 - n + 1 + n = k by omega] at h0
    have e : deal_Of.l0 k (n : Int) l (tab n (fun _ => (0 : Int))) (n : Int) 0 = deal_Of.l1 (k - 1 - n) (n : Int) (nums n id) l (l.length : Int) 0 := h0
    rw [e]
    rcases of_l1 l n hn hl l.length (k - 1 - n) 0 (by omega) (by omega) with ⟨h1, h2⟩ | ⟨h1, h2⟩
    · exact Or.inl ⟨fun q => h1 q.2, h2⟩
    · exact Or.inr ⟨⟨hl, fun x hx => h1 x (by omega) hx⟩, h2⟩
  · rw [if_neg (by omega)]
    exact Or.inl ⟨fun q => hl q.1, rfl⟩
theorem of_yes {n : Nat} (hn : n ≤ 65536) {l : List Int} (hl : l.length = n - 1) (hm : MayL l n) (k : Nat) (hk : 2 * n + 4 ≤ k) : deal_Of.f k (n : Int) l = some (made l n, 0) :=
  (of_f n hn l k hk).elim (fun q => absurd ⟨hl, hm⟩ q.1) (fun q => q.2)
theorem of_no {n : Nat} (hn : n ≤ 65536) {l : List Int} (h : ¬ (l.length = n - 1 ∧ MayL l n)) (k : Nat) (hk : 2 * n + 4 ≤ k) : deal_Of.f k (n : Int) l = some (([] : List Int), 2) :=
  (of_f n hn l k hk).elim (fun q => q.2) (fun q => absurd q.1 h)

theorem may_l (l : List Int) (n : Nat) (hn : n ≤ 65536) (hl : l.length = n - 1) (d : Nat) : ∀ (k j : Nat), j + d = l.length → d < k →
    (¬ MayL l n ∧ stookref06_May.l0 k (n : Int) l (j : Int) = some false) ∨
    ((∀ x : Nat, j ≤ x → x < l.length → 0 ≤ rd l x ∧ rd l x ≤ (n : Int) - 1 - x) ∧ stookref06_May.l0 k (n : Int) l (j : Int) = some true) := by
  induction d with
  | zero =>
    intro k j hj hk
    obtain ⟨k, rfl⟩ : ∃ m, k = m + 1 := ⟨k - 1, by omega⟩
    refine Or.inr ⟨fun x h1 h2 => by omega, ?_⟩
    simp only [stookref06_May.l0]
    rw [if_neg (by omega)]
  | succ d ih =>
    intro k j hj hk
    obtain ⟨k, rfl⟩ : ∃ m, k = m + 1 := ⟨k - 1, by omega⟩
    simp only [stookref06_May.l0]
    rw [if_pos (by omega), if_pos (by omega)]
    by_cases c1 : rd l j < 0
    · exact Or.inl ⟨fun h => by have := h j (by omega); omega, by rw [if_pos c1]⟩
    rw [if_neg c1, w64 (i := (n : Int) - 1) (by omega) (by omega), w64 (i := (n : Int) - 1 - j) (by omega) (by omega)]
    by_cases c2 : rd l j > (n : Int) - 1 - j
    · exact Or.inl ⟨fun h => by have := h j (by omega); omega, by rw [if_pos c2]⟩
    rw [if_neg c2, w64 (by omega) (by omega), show (j : Int) + 1 = ((j + 1 : Nat) : Int) by omega]
    rcases ih k (j + 1) (by omega) (by omega) with ⟨h1, h2⟩ | ⟨h1, h2⟩
    · exact Or.inl ⟨h1, h2⟩
    · refine Or.inr ⟨fun x hx hx2 => ?_, h2⟩
      by_cases e : x = j
      · subst e; omega
      · exact h1 x (by omega) hx2
theorem refof_l0 (l : List Int) (n : Nat) (hn : n ≤ 65536) (d : Nat) : ∀ (k i : Nat), i + d = n →
    stookref06_Of.l0 (k + 1 + d) (n : Int) l (nums i id) (i : Int) = stookref06_Of.l1 k (n : Int) l (nums n id) 0 := by
  induction d with
  | zero =>
    intro k i hi
    simp only [Nat.add_zero, stookref06_Of.l0]
    rw [if_neg (by omega), show i = n by omega]
  | succ d ih =>
    intro k i hi
    rw [show k + 1 + (d + 1) = (k + 1 + d) + 1 from rfl]
    simp only [stookref06_Of.l0]
    rw [if_pos (by omega), if_pos (by rw [nums_len]; omega), nums_snoc i id (i : Int) rfl, w64 (by omega) (by omega), show (i : Int) + 1 = ((i + 1 : Nat) : Int) by omega]
    exact ih k (i + 1) (by omega)
theorem refof_l1 (l : List Int) (n : Nat) (hn : n ≤ 65536) (hl : l.length = n - 1) (hm : MayL l n) (d : Nat) : ∀ (k j : Nat), j + d = l.length → d < k →
    stookref06_Of.l1 k (n : Int) l (nums n (P (fun j => (rd l (j : Int)).toNat) n j)) (j : Int) = some (made l n, 0) := by
  induction d with
  | zero =>
    intro k j hj hk
    obtain ⟨k, rfl⟩ : ∃ m, k = m + 1 := ⟨k - 1, by omega⟩
    simp only [stookref06_Of.l1]
    rw [if_neg (by omega), show j = l.length by omega]
    rfl
  | succ d ih =>
    intro k j hj hk
    obtain ⟨k, rfl⟩ : ∃ m, k = m + 1 := ⟨k - 1, by omega⟩
    have hmj := hm j (by omega)
    obtain ⟨v, hv⟩ : ∃ v : Nat, rd l j = v := ⟨(rd l j).toNat, by omega⟩
    obtain ⟨i, hi⟩ : ∃ i : Nat, i = n - 1 - j := ⟨_, rfl⟩
    have ei : (n : Int) - 1 - j = (i : Int) := by omega
    have hs : P (fun j => (rd l (j : Int)).toNat) n (j + 1) = sw (P (fun j => (rd l (j : Int)).toNat) n j) i v := by
      show sw _ (n - 1 - j) ((rd l (j : Int)).toNat) = _
      rw [hv, Int.toNat_natCast, ← hi]
    have nx := ih k (j + 1) (by omega) (by omega)
    rw [hs] at nx
    simp only [stookref06_Of.l1]
    rw [if_pos (by omega), if_pos (by omega), w64 (i := (n : Int) - 1) (by omega) (by omega), w64 (i := (n : Int) - 1 - j) (by omega) (by omega), ei, if_pos (by omega), if_pos (by rw [nums_len]; omega), hv, if_pos (by omega), if_pos (by rw [nums_len]; omega),
      Int.toNat_natCast, Int.toNat_natCast, sw_set _ (by omega) (by omega), w64 (by omega) (by omega), show (j : Int) + 1 = ((j + 1 : Nat) : Int) by omega]
    exact nx
theorem refof_low {n : Int} (h : n < 0) (l : List Int) (k : Nat) : stookref06_Of.f k n l = some (([] : List Int), 2) := by
  unfold stookref06_Of.f
  rw [if_pos h]
theorem refof_high {n : Int} (h : n > 65536) (l : List Int) (k : Nat) : stookref06_Of.f k n l = some (([] : List Int), 3) := by
  unfold stookref06_Of.f
  rw [if_neg (by omega), if_pos h]
theorem refof_yes {n : Nat} (hn : n ≤ 65536) {l : List Int} (hl : l.length = n - 1) (hm : MayL l n) (k : Nat) (hk : 2 * n + 4 ≤ k) : stookref06_Of.f k (n : Int) l = some (made l n, 0) := by
  unfold stookref06_Of.f stookref06_May.f
  rw [if_neg (by omega), if_neg (by omega), mx_less n hn, if_pos (by omega)]
  have h0 := refof_l0 l n hn n (k - 1 - n) 0 (by omega)
  rw [show k - 1 - n + 1 + n = k by omega] at h0
  have e : stookref06_Of.l0 k (n : Int) l ([] : List Int) 0 = stookref06_Of.l1 (k - 1 - n) (n : Int) l (nums n id) 0 := h0
  have h1 := refof_l1 l n hn hl hm l.length (k - 1 - n) 0 (by omega) (by omega)
  rcases may_l l n hn hl l.length k 0 (by omega) (by omega) with ⟨q1, q2⟩ | ⟨q1, q2⟩
  · exact absurd hm q1
  · have q3 : stookref06_May.l0 k (n : Int) l 0 = some true := q2
    rw [q3, bnd, if_pos rfl, e]
    exact h1
theorem refof_no {n : Nat} (hn : n ≤ 65536) {l : List Int} (h : ¬ (l.length = n - 1 ∧ MayL l n)) (k : Nat) (hk : 2 * n + 4 ≤ k) : stookref06_Of.f k (n : Int) l = some (([] : List Int), 2) := by
  unfold stookref06_Of.f stookref06_May.f
  rw [if_neg (by omega), if_neg (by omega), mx_less n hn]
  by_cases hl : l.length = n - 1
  · rw [if_pos (by omega)]
    rcases may_l l n hn hl l.length k 0 (by omega) (by omega) with ⟨q1, q2⟩ | ⟨q1, q2⟩
    · have q3 : stookref06_May.l0 k (n : Int) l 0 = some false := q2
      rw [q3, bnd, if_neg (by simp)]
    · exact absurd ⟨hl, fun x hx => q1 x (by omega) hx⟩ h
  · rw [if_neg (by omega), bnd, if_neg (by simp)]
theorem made_len (l : List Int) (n : Nat) : (made l n).length = n := nums_len _ _
/-- What steps make is an order. -/
theorem made_inv {l : List Int} {n : Nat} (hl : l.length = n - 1) (hm : MayL l n) : Inv n (P (fun j => (rd l (j : Int)).toNat) n l.length) (Q (fun j => (rd l (j : Int)).toNat) n l.length) :=
  pq_inv l.length (fun i hi => by have := hm i hi; omega) (by omega)
/-- The same answers. -/
theorem of_same (n : Int) (l : List Int) (k : Nat) (hk : 131080 ≤ k) : ∃ r : List Int × Int, deal_Of.f k n l = some r ∧ stookref06_Of.f k n l = some r ∧ r.1.length ≤ 65536 := by
  by_cases h0 : n < 0
  · exact ⟨_, of_low h0 l k, refof_low h0 l k, by simp⟩
  by_cases h1 : n > 65536
  · exact ⟨_, of_high h1 l k, refof_high h1 l k, by simp⟩
  obtain ⟨m, rfl⟩ : ∃ m : Nat, n = m := ⟨n.toNat, by omega⟩
  by_cases hm : l.length = m - 1 ∧ MayL l m
  · exact ⟨_, of_yes (by omega) hm.1 hm.2 k (by omega), refof_yes (by omega) hm.1 hm.2 k (by omega), by rw [made_len]; omega⟩
  · exact ⟨_, of_no (by omega) hm k (by omega), refof_no (by omega) hm k (by omega), by simp⟩
theorem works_f (k : Nat) (hk : 131080 ≤ k) : stooklaw06_works.f k = some true := by
  have h1 : deal_Of.f k 3 ([0, 0] : List Int) = some (([1, 2, 0] : List Int), 0) := by
    have h := of_yes (n := 3) (by omega) (l := [0, 0]) rfl (fun j hj => by
      have : j = 0 ∨ j = 1 := by simp only [List.length_cons, List.length_nil] at hj; omega
      rcases this with rfl | rfl <;> decide) k (by omega)
    have e : made ([0, 0] : List Int) 3 = [1, 2, 0] := by decide
    rw [e] at h
    exact h
  have h2 : deal_Back.f k ([1, 2, 0] : List Int) = some (([0, 0] : List Int), 0) := by
    have hi : Inv 3 (fun x => if x = 0 then 1 else if x = 1 then 2 else 0) (fun x => if x = 0 then 2 else if x = 1 then 0 else 1) := fun x hx => by
      have : x = 0 ∨ x = 1 ∨ x = 2 := by omega
      rcases this with rfl | rfl | rfl <;> decide
    have h := back_yes (l := [1, 2, 0]) (by decide) (by decide) hi k (by simp only [List.length_cons, List.length_nil]; omega)
    have e : backs ([1, 2, 0] : List Int) = [0, 0] := by decide
    rw [e] at h
    exact h
  unfold stooklaw06_works.f
  rw [h1, bnd, h2, bnd, if_pos rfl, if_pos rfl, ints_f k _ _ (by decide) (by simp only [List.length_cons, List.length_nil]; omega), bnd, decide_eq_true rfl, if_pos rfl, ints_f k _ _ (by decide) (by simp only [List.length_cons, List.length_nil]; omega), bnd, decide_eq_true rfl]
end Go.Proofs.Ytemmjinfeaafdaa.Pure
