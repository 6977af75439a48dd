/- What the program and the document tell of a row: whether it is an order, its steps, its turn, what is taken by it. No condition but lengths'. -/
import Derived.Test.YtemmjinfeaafdaaPAllx12
import Derived.Test.YtemmjinfeaafdaaPAllx8
import Derived.Test.YtemmjinfeaafdaaPAllx6
import Derived.Test.YtemmjinfeaafdaaPAllx7
import Derived.Test.YtemmjinfeaafdaaPAllx4
import Derived.Test.YtemmjinfeaafdaaPAllx9
import Derived.Test.YtemmjinfeaafdaaPlaces
set_option linter.unusedVariables false
set_option linter.unusedSimpArgs false
namespace Go.Proofs.Ytemmjinfeaafdaa.Pure
open Go Go.RowKit Go.Proofs.Ytemmjinfeaafdaa.PAll Go.Proofs.Ytemmjinfeaafdaa.Perm Go.Proofs.YtemmjinfeaafdaaVW.PrintWords Go.Proofs.YtemmjinfeaafdaaVW.PrintLast

theorem rd_at (l : List Int) (i : Nat) (h : i < l.length) : rd l (i : Int) = l[i]'h := by
  unfold rd
  rw [Int.toNat_natCast, List.getD_eq_getElem?_getD, List.getElem?_eq_getElem h]
  rfl
theorem ints_l (l m : List Int) (h : l.length = m.length) (hl : l.length ≤ 281474976710656) (d : Nat) : ∀ (k i : Nat), i + d = l.length → d < k →
    stookref00_Ints.l0 k l m (i : Int) = some (decide (l.drop i = m.drop i)) := by
  induction d with
  | zero =>
    intro k i hi hk
    obtain ⟨k, rfl⟩ : ∃ m, k = m + 1 := ⟨k - 1, by omega⟩
    simp only [stookref00_Ints.l0]
    rw [if_neg (by omega), List.drop_eq_nil_of_le (by omega), List.drop_eq_nil_of_le (by omega)]
    rfl
  | succ d ih =>
    intro k i hi hk
    obtain ⟨k, rfl⟩ : ∃ m, k = m + 1 := ⟨k - 1, by omega⟩
    simp only [stookref00_Ints.l0]
    rw [if_pos (by omega), if_pos (by omega), if_pos (by omega), w64 (by omega) (by omega), show (i : Int) + 1 = ((i + 1 : Nat) : Int) by omega, ih k (i + 1) (by omega) (by omega), rd_at l i (by omega), rd_at m i (by omega),
      List.drop_eq_getElem_cons (show i < l.length by omega), List.drop_eq_getElem_cons (show i < m.length by omega)]
    by_cases hx : l[i]'(by omega) = m[i]'(by omega)
    · rw [if_pos hx, hx]
      refine congrArg some ?_
      rw [decide_eq_decide]
      exact ⟨fun q => by rw [q], fun q => (List.cons.inj q).2⟩
    · rw [if_neg hx]
      exact congrArg some (decide_eq_false (fun q => hx (List.cons.inj q).1)).symm
theorem ints_f (k : Nat) (l m : List Int) (hl : l.length ≤ 281474976710656) (hk : l.length < k) : stookref00_Ints.f k l m = some (decide (l = m)) := by
  unfold stookref00_Ints.f
  by_cases h : l.length = m.length
  · rw [if_pos (by omega)]
    exact ints_l l m h hl l.length k 0 (by omega) hk
  · rw [if_neg (by omega), decide_eq_false (fun e => h (by rw [e]))]
theorem words_l (l m : List Int) (h : l.length = m.length) (hl : l.length ≤ 281474976710656) (d : Nat) : ∀ (k i : Nat), i + d = l.length → d < k →
    stookref00_Words.l0 k l m (i : Int) = some (decide (l.drop i = m.drop i)) := by
  induction d with
  | zero =>
    intro k i hi hk
    obtain ⟨k, rfl⟩ : ∃ m, k = m + 1 := ⟨k - 1, by omega⟩
    simp only [stookref00_Words.l0]
    rw [if_neg (by omega), List.drop_eq_nil_of_le (by omega), List.drop_eq_nil_of_le (by omega)]
    rfl
  | succ d ih =>
    intro k i hi hk
    obtain ⟨k, rfl⟩ : ∃ m, k = m + 1 := ⟨k - 1, by omega⟩
    simp only [stookref00_Words.l0]
    rw [if_pos (by omega), if_pos (by omega), if_pos (by omega), w64 (by omega) (by omega), show (i : Int) + 1 = ((i + 1 : Nat) : Int) by omega, ih k (i + 1) (by omega) (by omega), rd_at l i (by omega), rd_at m i (by omega),
      List.drop_eq_getElem_cons (show i < l.length by omega), List.drop_eq_getElem_cons (show i < m.length by omega)]
    by_cases hx : l[i]'(by omega) = m[i]'(by omega)
    · rw [if_pos hx, hx]
      refine congrArg some ?_
      rw [decide_eq_decide]
      exact ⟨fun q => by rw [q], fun q => (List.cons.inj q).2⟩
    · rw [if_neg hx]
      exact congrArg some (decide_eq_false (fun q => hx (List.cons.inj q).1)).symm
theorem words_f (k : Nat) (l m : List Int) (hl : l.length ≤ 281474976710656) (hk : l.length < k) : stookref00_Words.f k l m = some (decide (l = m)) := by
  unfold stookref00_Words.f
  by_cases h : l.length = m.length
  · rw [if_pos (by omega)]
    exact words_l l m h hl l.length k 0 (by omega) hk
  · rw [if_neg (by omega), decide_eq_false (fun e => h (by rw [e]))]

/-- A row is too long, or is no order, or is one. -/
theorem three (l : List Int) : ¬ l.length ≤ 65536 ∨ (l.length ≤ 65536 ∧ ¬ IsOrd l) ∨ (l.length ≤ 65536 ∧ ∃ f g, l = nums l.length f ∧ Inv l.length f g) := by
  by_cases hn : l.length ≤ 65536
  · by_cases ho : IsOrd l
    · exact Or.inr (Or.inr ⟨hn, ho.inv⟩)
    · exact Or.inr (Or.inl ⟨hn, ho⟩)
  · exact Or.inl hn
theorem isOrd_rd {l : List Int} {f : Nat → Nat} (e : l = nums l.length f) (x : Nat) (hx : x < l.length) : rd l (x : Int) = f x := by
  have := rd_nums (f := f) hx
  rw [← e] at this
  exact this

theorem is_yes {l : List Int} {f g : Nat → Nat} (hn : l.length ≤ 65536) (e : l = nums l.length f) (h : Inv l.length f g) (k : Nat) (hk : 2 * l.length + 4 ≤ k) : deal_Is.f k l = some true := by
  unfold deal_Is.f
  rw [places_yes hn e h k hk, bnd]
theorem is_no {l : List Int} (hn : l.length ≤ 65536) (h : ¬ IsOrd l) (k : Nat) (hk : 2 * l.length + 4 ≤ k) : deal_Is.f k l = some false := by
  unfold deal_Is.f
  rw [places_no hn h k hk, bnd]
theorem is_long {l : List Int} (hn : ¬ l.length ≤ 65536) (k : Nat) : deal_Is.f k l = some false := by
  unfold deal_Is.f
  rw [places_long hn k, bnd]
theorem back_yes {l : List Int} {f g : Nat → Nat} (hn : l.length ≤ 65536) (e : l = nums l.length f) (h : Inv l.length f g) (k : Nat) (hk : 2 * l.length + 4 ≤ k) : deal_Back.f k l = some (backs l, 0) := by
  unfold deal_Back.f
  rw [turn_yes hn e h k hk, bnd, if_pos rfl]
theorem back_no {l : List Int} (hn : l.length ≤ 65536) (h : ¬ IsOrd l) (k : Nat) (hk : 2 * l.length + 4 ≤ k) : deal_Back.f k l = some (([] : List Int), 2) := by
  unfold deal_Back.f
  rw [turn_no hn h k hk, bnd, if_neg (by decide)]
theorem back_long {l : List Int} (hn : ¬ l.length ≤ 65536) (k : Nat) : deal_Back.f k l = some (([] : List Int), 3) := by
  unfold deal_Back.f
  rw [turn_long hn k, bnd, if_neg (by decide)]

theorem refis_l (l : List Int) (n : Nat) (hl : l.length = n) (hn : n ≤ 65536) (d : Nat) : ∀ (k i : Nat) (T : Nat → Bool), i + d = n → d < k →
    (∀ x : Nat, x < i → 0 ≤ rd l x ∧ rd l x < n) → (∀ x y : Nat, x < i → y < i → rd l x = rd l y → x = y) → (∀ y : Nat, y < n → (T y = true ↔ ∃ x : Nat, x < i ∧ rd l x = y)) →
    (¬ IsOrd l ∧ stookref06_Is.l0 k l (tab n T) (i : Int) = some false) ∨ (IsOrd l ∧ stookref06_Is.l0 k l (tab n T) (i : Int) = some true) := by
  induction d with
  | zero =>
    intro k i T hi hk h1 h2 h3
    obtain ⟨k, rfl⟩ : ∃ m, k = m + 1 := ⟨k - 1, by omega⟩
    have hin : i = n := by omega
    subst hin
    refine Or.inr ⟨⟨fun x => (rd l x).toNat, ?_, fun x hx => ?_, fun x y hx hy e => ?_⟩, ?_⟩
    · refine Eq.trans (tab_rd l).symm (tab_congr (fun x hx => ?_))
      have := h1 x (by omega)
      dsimp only
      omega
    · have := h1 x (by omega)
      dsimp only
      omega
    · have := h1 x (by omega)
      have := h1 y (by omega)
      dsimp only at e
      exact h2 x y (by omega) (by omega) (by omega)
    · simp only [stookref06_Is.l0]
      rw [if_neg (by omega)]
  | succ d ih =>
    intro k i T hi hk h1 h2 h3
    obtain ⟨k, rfl⟩ : ∃ m, k = m + 1 := ⟨k - 1, by omega⟩
    simp only [stookref06_Is.l0]
    rw [if_pos (by omega), if_pos (by omega)]
    by_cases c1 : rd l i < 0
    · refine Or.inl ⟨fun ⟨f, e, o⟩ => ?_, by rw [if_pos c1]⟩
      have := isOrd_rd e i (by omega)
      omega
    rw [if_neg c1]
    by_cases c2 : rd l i ≥ (l.length : Int)
    · refine Or.inl ⟨fun ⟨f, e, o⟩ => ?_, by rw [if_pos c2]⟩
      have := isOrd_rd e i (by omega)
      have := o.1 i (by omega)
      omega
    rw [if_neg c2, if_pos (by omega), if_pos (by rw [tab_len]; omega)]
    obtain ⟨v, hv⟩ : ∃ v : Nat, rd l i = v := ⟨(rd l i).toNat, by omega⟩
    have hvn : v < n := by omega
    have hrd : rdOf false (tab n T) (v : Int) = T v := by
      unfold rdOf
      rw [Int.toNat_natCast]
      exact tab_get hvn false
    rw [hv, hrd]
    by_cases c3 : T v = true
    · refine Or.inl ⟨fun ⟨f, e, o⟩ => ?_, by rw [if_pos c3]⟩
      obtain ⟨x, hx, hxv⟩ := (h3 v hvn).1 c3
      have e1 := isOrd_rd e i (by omega)
      have e2 := isOrd_rd e x (by omega)
      have := o.2 x i (by omega) (by omega) (by omega)
      omega
    rw [if_neg c3, w64 (by omega) (by omega), Int.toNat_natCast, tab_set, show (i : Int) + 1 = ((i + 1 : Nat) : Int) by omega]
    refine ih k (i + 1) _ (by omega) (by omega) (fun x hx => ?_) (fun x y hx hy e => ?_) (fun y hy => ?_)
    · by_cases e : x = i
      · subst e; omega
      · exact h1 x (by omega)
    · have hno : ∀ z : Nat, z < i → rd l z ≠ (v : Int) := fun z hz q => c3 ((h3 v hvn).2 ⟨z, hz, q⟩)
      by_cases e1 : x = i
      · by_cases e2 : y = i
        · omega
        · subst e1; exact absurd (e.symm.trans hv) (hno y (by omega))
      · by_cases e2 : y = i
        · subst e2; exact absurd (e.trans hv) (hno x (by omega))
        · exact h2 x y (by omega) (by omega) e
    · by_cases e : y = v
      · subst e
        rw [upd_same]
        exact ⟨fun _ => ⟨i, by omega, hv⟩, fun _ => rfl⟩
      · rw [upd_other _ _ e, h3 y hy]
        refine ⟨fun ⟨x, hx, q⟩ => ⟨x, by omega, q⟩, fun ⟨x, hx, q⟩ => ⟨x, ?_, q⟩⟩
        by_cases e2 : x = i
        · subst e2; omega
        · omega
theorem refis_f {l : List Int} (hn : l.length ≤ 65536) (k : Nat) (hk : l.length + 2 ≤ k) : (¬ IsOrd l ∧ stookref06_Is.f k l = some false) ∨ (IsOrd l ∧ stookref06_Is.f k l = some true) := by
  have e0 : stookref06_Is.f k l = stookref06_Is.l0 k l (tab l.length (fun _ => false)) ((0 : Nat) : Int) := by
    unfold stookref06_Is.f
    rw [if_neg (by omega), if_pos (by omega), if_pos (by omega), Int.toNat_natCast, tab_const]
    rfl
  rw [e0]
  exact refis_l l l.length rfl hn l.length k 0 _ (by omega) (by omega) (fun x hx => by omega) (fun x y hx => by omega) (fun y _ => ⟨fun q => by simp at q, fun ⟨x, hx, _⟩ => by omega⟩)
theorem refis_yes {l : List Int} (hn : l.length ≤ 65536) (h : IsOrd l) (k : Nat) (hk : l.length + 2 ≤ k) : stookref06_Is.f k l = some true := (refis_f hn k hk).elim (fun q => absurd h q.1) (fun q => q.2)
theorem refis_no {l : List Int} (hn : l.length ≤ 65536) (h : ¬ IsOrd l) (k : Nat) (hk : l.length + 2 ≤ k) : stookref06_Is.f k l = some false := (refis_f hn k hk).elim (fun q => q.2) (fun q => absurd q.1 h)
theorem refis_long {l : List Int} (hn : ¬ l.length ≤ 65536) (k : Nat) : stookref06_Is.f k l = some false := by
  unfold stookref06_Is.f
  rw [if_pos (by omega)]
theorem why_yes {l : List Int} (hn : l.length ≤ 65536) (h : IsOrd l) (k : Nat) (hk : l.length + 2 ≤ k) : stookref06_why.f k l = some 0 := by
  unfold stookref06_why.f
  rw [if_neg (by omega), refis_yes hn h k hk, bnd, if_pos rfl]
theorem why_no {l : List Int} (hn : l.length ≤ 65536) (h : ¬ IsOrd l) (k : Nat) (hk : l.length + 2 ≤ k) : stookref06_why.f k l = some 2 := by
  unfold stookref06_why.f
  rw [if_neg (by omega), refis_no hn h k hk, bnd, if_neg (by simp)]
theorem why_long {l : List Int} (hn : ¬ l.length ≤ 65536) (k : Nat) : stookref06_why.f k l = some 3 := by
  unfold stookref06_why.f
  rw [if_pos (by omega)]

theorem refturn_l (l : List Int) (n : Nat) (f : Nat → Nat) (hl : l.length = n) (hn : n ≤ 65536) (hf : ∀ x : Nat, x < n → rd l x = f x) (ho : Ord n f) (d : Nat) : ∀ (k i : Nat) (A : Nat → Nat), i + d = n → d < k →
    (∀ x : Nat, x < i → A (f x) = x) → ∃ A', (∀ x : Nat, x < n → A' (f x) = x) ∧ stookref06_Turn.l0 k l (nums n A) (i : Int) = some (nums n A', 0) := by
  induction d with
  | zero =>
    intro k i A hi hk h1
    obtain ⟨k, rfl⟩ : ∃ m, k = m + 1 := ⟨k - 1, by omega⟩
    refine ⟨A, fun x hx => h1 x (by omega), ?_⟩
    simp only [stookref06_Turn.l0]
    rw [if_neg (by omega)]
  | succ d ih =>
    intro k i A hi hk h1
    obtain ⟨k, rfl⟩ : ∃ m, k = m + 1 := ⟨k - 1, by omega⟩
    have := ho.1 i (by omega)
    simp only [stookref06_Turn.l0]
    rw [if_pos (by omega), if_pos (by omega), hf i (by omega), if_pos (by omega), if_pos (by rw [nums_len]; omega), Int.toNat_natCast, nums_set, w64 (by omega) (by omega), show (i : Int) + 1 = ((i + 1 : Nat) : Int) by omega]
    refine ih k (i + 1) _ (by omega) (by omega) (fun x hx => ?_)
    by_cases e : x = i
    · rw [e, upd_same]
    · rw [upd_other _ _ (fun q => e (ho.2 x i (by omega) (by omega) q))]
      exact h1 x (by omega)
theorem refturn_yes {l : List Int} {f g : Nat → Nat} (hn : l.length ≤ 65536) (e : l = nums l.length f) (h : Inv l.length f g) (k : Nat) (hk : l.length + 2 ≤ k) : stookref06_Turn.f k l = some (nums l.length g, 0) := by
  obtain ⟨A, h1, h2⟩ := refturn_l l l.length f rfl hn (isOrd_rd e) h.ord l.length k 0 (fun _ => 0) (by omega) (by omega) (fun x hx => by omega)
  unfold stookref06_Turn.f
  rw [why_yes hn (Inv.isOrd e h) k hk, bnd, if_pos rfl, if_pos (by omega), if_pos (by omega), Int.toNat_natCast, tab_const]
  refine Eq.trans h2 (congrArg some (congrArg (fun z => (z, 0)) (nums_congr (fun y hy => ?_))))
  have a := h y hy
  rw [← h1 (g y) a.2.2.1, a.2.2.2]
theorem refturn_no {l : List Int} (hn : l.length ≤ 65536) (h : ¬ IsOrd l) (k : Nat) (hk : l.length + 2 ≤ k) : stookref06_Turn.f k l = some (([] : List Int), 2) := by
  unfold stookref06_Turn.f
  rw [why_no hn h k hk, bnd, if_neg (by decide)]
theorem refturn_long {l : List Int} (hn : ¬ l.length ≤ 65536) (k : Nat) : stookref06_Turn.f k l = some (([] : List Int), 3) := by
  unfold stookref06_Turn.f
  rw [why_long hn k, bnd, if_neg (by decide)]

theorem nums_snoc (n : Nat) (f : Nat → Nat) (v : Int) (h : v = f n) : nums n f ++ [v] = nums (n + 1) f := by
  rw [h]
  exact tab_snoc n (fun i => (f i : Int))
theorem refback_l0 (l : List Int) (n : Nat) (hl : l.length = n) (hn : n ≤ 65536) (d : Nat) : ∀ (k i : Nat), i + d = n →
    stookref06_Back.l0 (k + 1 + d) l (nums i id) (nums i id) (i : Int) = stookref06_Back.l1 k l (nums n id) (nums n id) ([] : List Int) ((n : Int) - 1) := by
  induction d with
  | zero =>
    intro k i hi
    simp only [Nat.add_zero, stookref06_Back.l0]
    rw [if_neg (by omega), show i = n by omega, hl, w64 (by omega) (by omega)]
  | succ d ih =>
    intro k i hi
    rw [show k + 1 + (d + 1) = (k + 1 + d) + 1 from rfl]
    simp only [stookref06_Back.l0]
    rw [if_pos (by omega), if_pos (by rw [nums_len]; omega), if_pos (by rw [nums_len]; omega), nums_snoc i id (i : Int) rfl, w64 (by omega) (by omega), show (i : Int) + 1 = ((i + 1 : Nat) : Int) by omega]
    exact ih k (i + 1) (by omega)
theorem refback_l1 (l : List Int) (n : Nat) (f : Nat → Nat) (hl : l.length = n) (hn : n ≤ 65536) (hf : ∀ x : Nat, x < n → rd l x = f x) (ho : Ord n f) (d : Nat) : ∀ (k j : Nat), j + d = n - 1 → d < k →
    stookref06_Back.l1 k l (nums n (B f n j).1) (nums n (B f n j).2) (nums j (stepsOf f n)) ((n : Int) - 1 - j) = some (nums (n - 1) (stepsOf f n), 0) := by
  induction d with
  | zero =>
    intro k j hj hk
    obtain ⟨k, rfl⟩ : ∃ m, k = m + 1 := ⟨k - 1, by omega⟩
    simp only [stookref06_Back.l1]
    rw [if_neg (by omega), show j = n - 1 by omega]
  | succ d ih =>
    intro k j hj hk
    obtain ⟨k, rfl⟩ : ∃ m, k = m + 1 := ⟨k - 1, by omega⟩
    obtain ⟨i, hi⟩ : ∃ i : Nat, i = n - 1 - j := ⟨_, rfl⟩
    have ei : (n : Int) - 1 - j = (i : Int) := by omega
    obtain ⟨gi, _, _⟩ := B_ord ho j (by omega)
    have him : i < n := by omega
    have hm := ho.1 i him
    have hq := gi (f i) hm
    have eS : (B f n j).2 (f i) = stepsOf f n j := by rw [hi]; rfl
    rw [eS] at hq
    have eB : B f n (j + 1) = (sw (B f n j).1 i (stepsOf f n j), upd (upd (B f n j).2 ((B f n j).1 (stepsOf f n j)) i) ((B f n j).1 i) (stepsOf f n j)) := by rw [hi]; rfl
    have ha := gi i him
    have nx := ih k (j + 1) (by omega) (by omega)
    rw [show (n : Int) - 1 - ((j + 1 : Nat) : Int) = (i : Int) - 1 by omega, eB] at nx
    dsimp only at nx
    rw [ei]
    simp only [stookref06_Back.l1]
    rw [if_pos (by omega), if_pos (by omega), if_pos (by omega), hf i him, if_pos (by omega), if_pos (by rw [nums_len]; omega), if_pos (by rw [nums_len]; omega), rd_nums hm, eS, bnd,
      if_pos (by rw [nums_len]; omega), if_pos (by omega), if_pos (by rw [nums_len]; omega), rd_nums him, bnd, if_pos (by omega), if_pos (by rw [nums_len]; omega), bnd]
    simp only [Int.toNat_natCast, nums_set]
    rw [nums_snoc j (stepsOf f n) _ rfl, w64 (by omega) (by omega)]
    have e1 : upd (upd (B f n j).1 i (f i)) (stepsOf f n j) ((B f n j).1 i) = sw (B f n j).1 i (stepsOf f n j) := by
      rw [← sw_upd, hq.2.2.2]
    rw [hq.2.2.2] at nx
    rw [e1]
    by_cases c : (i : Int) = (stepsOf f n j : Int)
    · rw [if_pos c]
      have e2 : upd (upd (upd (B f n j).2 (f i) i) ((B f n j).1 i) (stepsOf f n j)) ((B f n j).1 i) i = upd (upd (B f n j).2 (f i) i) ((B f n j).1 i) (stepsOf f n j) := by
        funext x
        unfold upd
        by_cases e : x = (B f n j).1 i
        · rw [if_pos e, if_pos e]; omega
        · rw [if_neg e]
      rw [e2]
      exact nx
    · rw [if_neg c]
      exact nx
theorem backs_eq {l : List Int} {f : Nat → Nat} (e : l = nums l.length f) : backs l = nums (l.length - 1) (stepsOf f l.length) := by
  unfold backs
  refine tab_congr (fun x hx => congrArg Int.ofNat ?_)
  have hB : ∀ (F : Nat → Nat), (∀ y, y < l.length → F y = f y) → ∀ j, j < l.length → B F l.length j = B f l.length j := by
    intro F hF j
    induction j with
    | zero => intro _; rfl
    | succ j ih =>
      intro hj
      simp only [B]
      rw [ih (by omega), hF _ (by omega)]
  have hF : ∀ y, y < l.length → (l.getD y 0).toNat = f y := fun y hy => by
    have h1 := isOrd_rd e y hy
    unfold rd at h1
    rw [Int.toNat_natCast] at h1
    omega
  unfold stepsOf
  rw [hB (fun i => (l.getD i 0).toNat) hF x (by omega)]
  dsimp only
  rw [hF _ (by omega)]
theorem refback_yes {l : List Int} {f g : Nat → Nat} (hn : l.length ≤ 65536) (e : l = nums l.length f) (h : Inv l.length f g) (k : Nat) (hk : 2 * l.length + 4 ≤ k) : stookref06_Back.f k l = some (backs l, 0) := by
  unfold stookref06_Back.f
  rw [why_yes hn (Inv.isOrd e h) k (by omega), bnd, if_pos rfl, backs_eq e]
  have h0 := refback_l0 l l.length rfl hn l.length (k - 1 - l.length) 0 (by omega)
  rw [show k - 1 - l.length + 1 + l.length = k by omega] at h0
  have h1 := refback_l1 l l.length f rfl hn (isOrd_rd e) h.ord (l.length - 1) (k - 1 - l.length) 0 (by omega) (by omega)
  rw [show (l.length : Int) - 1 - ((0 : Nat) : Int) = (l.length : Int) - 1 by omega] at h1
  exact Eq.trans h0 h1
theorem refback_no {l : List Int} (hn : l.length ≤ 65536) (h : ¬ IsOrd l) (k : Nat) (hk : l.length + 2 ≤ k) : stookref06_Back.f k l = some (([] : List Int), 2) := by
  unfold stookref06_Back.f
  rw [why_no hn h k hk, bnd, if_neg (by decide)]
theorem refback_long {l : List Int} (hn : ¬ l.length ≤ 65536) (k : Nat) : stookref06_Back.f k l = some (([] : List Int), 3) := by
  unfold stookref06_Back.f
  rw [why_long hn k, bnd, if_neg (by decide)]

/-- What is taken by an order. -/
def taken (m : List Int) (n : Nat) (f : Nat → Nat) : List Int := tab n (fun i => rd m (f i : Int))
theorem taken_len (m : List Int) (n : Nat) (f : Nat → Nat) : (taken m n f).length = n := tab_len _ _
theorem rd_taken {m : List Int} {n i : Nat} {f : Nat → Nat} (h : i < n) : rd (taken m n f) (i : Int) = rd m (f i : Int) := rd_tab h
theorem take_l (l m : List Int) (n : Nat) (f : Nat → Nat) (hl : l.length = n) (hm : m.length = n) (hn : n ≤ 65536) (hf : ∀ x : Nat, x < n → rd l x = f x) (ho : Ord n f) (d : Nat) : ∀ (k i : Nat) (A : Nat → Int), i + d = n → d < k →
    (∀ x : Nat, x < i → A x = rd m (f x : Int)) → deal_Take.l0 k m (tab n A) l (n : Int) (i : Int) = some (taken m n f, 0) := by
  induction d with
  | zero =>
    intro k i A hi hk h1
    obtain ⟨k, rfl⟩ : ∃ m, k = m + 1 := ⟨k - 1, by omega⟩
    simp only [deal_Take.l0]
    rw [if_neg (by omega)]
    exact congrArg some (congrArg (fun z => (z, 0)) (tab_congr (fun x hx => h1 x (by omega))))
  | succ d ih =>
    intro k i A hi hk h1
    obtain ⟨k, rfl⟩ : ∃ m, k = m + 1 := ⟨k - 1, by omega⟩
    have := ho.1 i (by omega)
    simp only [deal_Take.l0]
    rw [if_pos (by omega), if_pos (by omega), if_pos (by omega), hf i (by omega), if_pos (by omega), if_pos (by omega), if_pos (by rw [tab_len]; omega), Int.toNat_natCast, tab_set, w64 (by omega) (by omega), show (i : Int) + 1 = ((i + 1 : Nat) : Int) by omega]
    refine ih k (i + 1) _ (by omega) (by omega) (fun x hx => ?_)
    by_cases e : x = i
    · rw [e, upd_same]
    · rw [upd_other _ _ e]; exact h1 x (by omega)
theorem take_yes {l m : List Int} {f g : Nat → Nat} (hn : l.length ≤ 65536) (e : l = nums l.length f) (h : Inv l.length f g) (hm : m.length = l.length) (k : Nat) (hk : 2 * l.length + 4 ≤ k) : deal_Take.f k l m = some (taken m l.length f, 0) := by
  unfold deal_Take.f
  rw [turn_yes hn e h k hk, bnd, if_pos rfl, if_pos (by omega), if_pos (by omega), if_pos (by omega), Int.toNat_natCast, tab_const]
  exact take_l l m l.length f rfl hm hn (isOrd_rd e) h.ord l.length k 0 _ (by omega) (by omega) (fun x hx => by omega)
theorem take_len {l m : List Int} {f g : Nat → Nat} (hn : l.length ≤ 65536) (e : l = nums l.length f) (h : Inv l.length f g) (hm : m.length ≠ l.length) (k : Nat) (hk : 2 * l.length + 4 ≤ k) : deal_Take.f k l m = some (([] : List Int), 2) := by
  unfold deal_Take.f
  rw [turn_yes hn e h k hk, bnd, if_pos rfl, if_neg (by omega)]
theorem take_no {l : List Int} (hn : l.length ≤ 65536) (h : ¬ IsOrd l) (m : List Int) (k : Nat) (hk : 2 * l.length + 4 ≤ k) : deal_Take.f k l m = some (([] : List Int), 2) := by
  unfold deal_Take.f
  rw [turn_no hn h k hk, bnd, if_neg (by decide)]
theorem take_long {l : List Int} (hn : ¬ l.length ≤ 65536) (m : List Int) (k : Nat) : deal_Take.f k l m = some (([] : List Int), 3) := by
  unfold deal_Take.f
  rw [turn_long hn k, bnd, if_neg (by decide)]
theorem reftake_l (l m : List Int) (n : Nat) (f : Nat → Nat) (hl : l.length = n) (hm : m.length = n) (hn : n ≤ 65536) (hf : ∀ x : Nat, x < n → rd l x = f x) (ho : Ord n f) (d : Nat) : ∀ (k i : Nat), i + d = n → d < k →
    stookref06_Take.l0 k l m (taken m i f) (i : Int) = some (taken m n f, 0) := by
  induction d with
  | zero =>
    intro k i hi hk
    obtain ⟨k, rfl⟩ : ∃ m, k = m + 1 := ⟨k - 1, by omega⟩
    simp only [stookref06_Take.l0]
    rw [if_neg (by omega), show i = n by omega]
  | succ d ih =>
    intro k i hi hk
    obtain ⟨k, rfl⟩ : ∃ m, k = m + 1 := ⟨k - 1, by omega⟩
    have := ho.1 i (by omega)
    have es : taken m i f ++ [rd m (f i : Int)] = taken m (i + 1) f := tab_snoc i (fun x => rd m (f x : Int))
    simp only [stookref06_Take.l0]
    rw [if_pos (by omega), if_pos (by omega), hf i (by omega), if_pos (by omega), if_pos (by omega), if_pos (by rw [taken_len]; omega), es, w64 (by omega) (by omega), show (i : Int) + 1 = ((i + 1 : Nat) : Int) by omega]
    exact ih k (i + 1) (by omega) (by omega)
theorem reftake_yes {l m : List Int} {f g : Nat → Nat} (hn : l.length ≤ 65536) (e : l = nums l.length f) (h : Inv l.length f g) (hm : m.length = l.length) (k : Nat) (hk : 2 * l.length + 4 ≤ k) : stookref06_Take.f k l m = some (taken m l.length f, 0) := by
  unfold stookref06_Take.f
  rw [why_yes hn (Inv.isOrd e h) k (by omega), bnd, if_pos rfl, if_pos (by omega)]
  exact reftake_l l m l.length f rfl hm hn (isOrd_rd e) h.ord l.length k 0 (by omega) (by omega)
theorem reftake_len {l m : List Int} {f g : Nat → Nat} (hn : l.length ≤ 65536) (e : l = nums l.length f) (h : Inv l.length f g) (hm : m.length ≠ l.length) (k : Nat) (hk : 2 * l.length + 4 ≤ k) : stookref06_Take.f k l m = some (([] : List Int), 2) := by
  unfold stookref06_Take.f
  rw [why_yes hn (Inv.isOrd e h) k (by omega), bnd, if_pos rfl, if_neg (by omega)]
theorem reftake_no {l : List Int} (hn : l.length ≤ 65536) (h : ¬ IsOrd l) (m : List Int) (k : Nat) (hk : 2 * l.length + 4 ≤ k) : stookref06_Take.f k l m = some (([] : List Int), 2) := by
  unfold stookref06_Take.f
  rw [why_no hn h k (by omega), bnd, if_neg (by decide)]
theorem reftake_long {l : List Int} (hn : ¬ l.length ≤ 65536) (m : List Int) (k : Nat) : stookref06_Take.f k l m = some (([] : List Int), 3) := by
  unfold stookref06_Take.f
  rw [why_long hn k, bnd, if_neg (by decide)]
end Go.Proofs.Ytemmjinfeaafdaa.Pure
