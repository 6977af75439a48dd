/- Orders of the numbers below a number: what a row of swaps makes, how it is turned, and how its steps are found again. No program. No condition. -/
import Derived.Test.YtemmjinfeaafdaaRows
set_option linter.unusedVariables false
set_option linter.unusedSimpArgs false
namespace Go.Proofs.Ytemmjinfeaafdaa.Perm

/-- A row, told place by place. -/
def tab {α : Type} (n : Nat) (f : Nat → α) : List α := (List.range n).map f
section
variable {α : Type} {n : Nat} {f g : Nat → α}
theorem tab_len (n : Nat) (f : Nat → α) : (tab n f).length = n := by simp [tab]
theorem tab_at {i : Nat} (h : i < n) : (tab n f)[i]? = some (f i) := by simp [tab, h]
theorem tab_get {i : Nat} (h : i < n) (d : α) : (tab n f).getD i d = f i := by simp [tab, h]
theorem tab_congr (h : ∀ x, x < n → f x = g x) : tab n f = tab n g := List.map_congr_left (fun x hx => h x (List.mem_range.1 hx))
theorem tab_inj (h : tab n f = tab n g) : ∀ x, x < n → f x = g x := fun x hx => by
  have h1 : (tab n f)[x]? = (tab n g)[x]? := by rw [h]
  rw [tab_at hx, tab_at hx] at h1
  exact Option.some.inj h1
theorem tab_snoc (n : Nat) (f : Nat → α) : tab n f ++ [f n] = tab (n + 1) f := by simp [tab, List.range_succ]
theorem tab_of (l : List α) (d : α) : tab l.length (fun i => l.getD i d) = l := by
  apply List.ext_getElem?
  intro i
  by_cases h : i < l.length
  · rw [tab_at h, List.getD_eq_getElem?_getD, List.getElem?_eq_getElem h]; rfl
  · rw [List.getElem?_eq_none (by rw [tab_len]; omega), List.getElem?_eq_none (by omega)]
def upd (f : Nat → α) (i : Nat) (v : α) : Nat → α := fun x => if x = i then v else f x
theorem upd_same (f : Nat → α) (i : Nat) (v : α) : upd f i v i = v := if_pos rfl
theorem upd_other (f : Nat → α) {i x : Nat} (v : α) (h : x ≠ i) : upd f i v x = f x := if_neg h
theorem tab_set (n : Nat) (f : Nat → α) (i : Nat) (v : α) : (tab n f).set i v = tab n (upd f i v) := by
  apply List.ext_getElem?
  intro j
  by_cases h : j < n
  · rw [tab_at h, List.getElem?_set]
    by_cases e : i = j
    · subst e; rw [if_pos rfl, if_pos (by rw [tab_len]; exact h), upd_same]
    · rw [if_neg e, tab_at h, upd_other _ _ (fun x => e x.symm)]
  · rw [List.getElem?_eq_none (by rw [List.length_set, tab_len]; omega), List.getElem?_eq_none (by rw [tab_len]; omega)]
def sw (f : Nat → α) (i k : Nat) : Nat → α := fun x => if x = i then f k else if x = k then f i else f x
theorem sw_upd (f : Nat → α) (i k : Nat) : upd (upd f i (f k)) k (f i) = sw f i k := by
  funext x
  unfold upd sw
  by_cases h1 : x = i <;> by_cases h2 : x = k
  · subst h1; subst h2; simp
  · simp [h1, h2]; intro h; exact absurd (h1.trans h) h2
  · simp [h1, h2]; intro h; exact absurd (h2.trans h) h1
  · simp [h1, h2]
theorem tab_const (n : Nat) (v : α) : List.replicate n v = tab n (fun _ => v) := by
  apply List.ext_getElem?
  intro j
  by_cases h : j < n
  · rw [tab_at h]; simp [h]
  · rw [List.getElem?_eq_none (by rw [List.length_replicate]; omega), List.getElem?_eq_none (by rw [tab_len]; omega)]
end

/-- Two rows of the numbers below n, each the other one turned. -/
def Inv (n : Nat) (f g : Nat → Nat) : Prop := ∀ x, x < n → f x < n ∧ g (f x) = x ∧ g x < n ∧ f (g x) = x
theorem inv_id (n : Nat) : Inv n id id := fun _ h => ⟨h, rfl, h, rfl⟩
theorem Inv.inj {n : Nat} {f g : Nat → Nat} (h : Inv n f g) {x y : Nat} (hx : x < n) (hy : y < n) (e : f x = f y) : x = y := by
  rw [← (h x hx).2.1, e, (h y hy).2.1]
theorem Inv.symm {n : Nat} {f g : Nat → Nat} (h : Inv n f g) : Inv n g f := fun x hx => ⟨(h x hx).2.2.1, (h x hx).2.2.2, (h x hx).1, (h x hx).2.1⟩
theorem inv_sw {n : Nat} {f g : Nat → Nat} (h : Inv n f g) {i k : Nat} (hi : i < n) (hk : k < n) : Inv n (sw f i k) (upd (upd g (f k) i) (f i) k) := by
  have hfi := h i hi
  have hfk := h k hk
  intro x hx
  have hfx := h x hx
  have inj : ∀ {a b : Nat}, a < n → b < n → f a = f b → a = b := fun ha hb e => h.inj ha hb e
  refine ⟨?_, ?_, ?_, ?_⟩
  · unfold sw; split <;> (try split) <;> omega
  · by_cases h1 : x = i
    · subst h1
      have e : sw f x k x = f k := by unfold sw; rw [if_pos rfl]
      rw [e]
      unfold upd
      by_cases e2 : f k = f x
      · rw [if_pos e2]; exact inj hk hx e2
      · rw [if_neg e2, if_pos rfl]
    · by_cases h2 : x = k
      · subst h2
        have e : sw f i x x = f i := by unfold sw; rw [if_neg h1, if_pos rfl]
        rw [e, upd_same]
      · have e : sw f i k x = f x := by unfold sw; rw [if_neg h1, if_neg h2]
        rw [e, upd_other _ _ (fun e2 => h1 (inj hx hi e2)), upd_other _ _ (fun e2 => h2 (inj hx hk e2))]
        exact hfx.2.1
  · unfold upd; split <;> (try split) <;> omega
  · by_cases h1 : x = f i
    · subst h1
      rw [upd_same]
      unfold sw
      by_cases e : k = i
      · rw [if_pos e, e]
      · rw [if_neg e, if_pos rfl]
    · rw [upd_other _ _ h1]
      by_cases h2 : x = f k
      · subst h2
        rw [upd_same]
        unfold sw
        rw [if_pos rfl]
      · rw [upd_other _ _ h2]
        have hgx := h x hx
        unfold sw
        by_cases e1 : g x = i
        · exact absurd (by rw [← e1]; exact hgx.2.2.2.symm) h1
        · by_cases e2 : g x = k
          · exact absurd (by rw [← e2]; exact hgx.2.2.2.symm) h2
          · rw [if_neg e1, if_neg e2]; exact hgx.2.2.2

/-- What steps make of the numbers in their order, and the same turned. -/
def P (s : Nat → Nat) (n : Nat) : Nat → Nat → Nat
  | 0 => id
  | j + 1 => sw (P s n j) (n - 1 - j) (s j)
def Q (s : Nat → Nat) (n : Nat) : Nat → Nat → Nat
  | 0 => id
  | j + 1 => upd (upd (Q s n j) (P s n j (s j)) (n - 1 - j)) (P s n j (n - 1 - j)) (s j)
/-- Steps that may be. -/
def May (s : Nat → Nat) (n : Nat) : Prop := ∀ j, j < n → s j ≤ n - 1 - j
theorem pq_inv {s : Nat → Nat} {n : Nat} (j : Nat) (hm : ∀ i, i < j → s i ≤ n - 1 - i) (hj : j ≤ n) : Inv n (P s n j) (Q s n j) := by
  induction j with
  | zero => exact inv_id n
  | succ j ih => exact inv_sw (ih (fun i hi => hm i (by omega)) (by omega)) (by omega) (by have := hm j (by omega); omega)
theorem P_stays {s : Nat → Nat} {n : Nat} (m : Nat) (hm : ∀ i, i < m → s i ≤ n - 1 - i) (j : Nat) (hj : j ≤ m) (hmn : m ≤ n) (x : Nat) (hx : n - j ≤ x) (hxn : x < n) : P s n m x = P s n j x := by
  induction m with
  | zero => rw [show j = 0 by omega]
  | succ m ih =>
    by_cases e : j = m + 1
    · rw [e]
    · have h1 := hm m (by omega)
      have h2 : P s n (m + 1) x = P s n m x := by
        show sw (P s n m) (n - 1 - m) (s m) x = _
        unfold sw
        rw [if_neg (by omega), if_neg (by omega)]
      rw [h2]
      exact ih (fun i hi => hm i (by omega)) (by omega) (by omega)

/-- The steps that lead to an order: what stands where, and where it stands, as far as j steps go. -/
def B (f : Nat → Nat) (n : Nat) : Nat → (Nat → Nat) × (Nat → Nat)
  | 0 => (id, id)
  | j + 1 => (sw (B f n j).1 (n - 1 - j) ((B f n j).2 (f (n - 1 - j))), upd (upd (B f n j).2 ((B f n j).1 ((B f n j).2 (f (n - 1 - j)))) (n - 1 - j)) ((B f n j).1 (n - 1 - j)) ((B f n j).2 (f (n - 1 - j))))
def stepsOf (f : Nat → Nat) (n j : Nat) : Nat := (B f n j).2 (f (n - 1 - j))
theorem B_pq (f : Nat → Nat) (n j : Nat) : B f n j = (P (stepsOf f n) n j, Q (stepsOf f n) n j) := by
  induction j with
  | zero => rfl
  | succ j ih =>
    show (sw (B f n j).1 (n - 1 - j) (stepsOf f n j), upd (upd (B f n j).2 ((B f n j).1 (stepsOf f n j)) (n - 1 - j)) ((B f n j).1 (n - 1 - j)) (stepsOf f n j)) = _
    rw [ih]
    rfl
/-- An order. -/
def Ord (n : Nat) (f : Nat → Nat) : Prop := (∀ x, x < n → f x < n) ∧ ∀ x y, x < n → y < n → f x = f y → x = y
theorem Inv.ord {n : Nat} {f g : Nat → Nat} (h : Inv n f g) : Ord n f := ⟨fun x hx => (h x hx).1, fun _ _ hx hy e => h.inj hx hy e⟩
theorem B_ord {f : Nat → Nat} {n : Nat} (h : Ord n f) (j : Nat) (hj : j ≤ n) : Inv n (B f n j).1 (B f n j).2 ∧ (∀ x, n - j ≤ x → x < n → (B f n j).1 x = f x) ∧ ∀ i, i < j → stepsOf f n i ≤ n - 1 - i := by
  induction j with
  | zero => exact ⟨inv_id n, fun x h1 h2 => by omega, fun i hi => by omega⟩
  | succ j ih =>
    obtain ⟨h1, h2, h3⟩ := ih (by omega)
    have hi : n - 1 - j < n := by omega
    have hf := h.1 _ hi
    have hk := h1 _ hf
    have hle : stepsOf f n j ≤ n - 1 - j := by
      show (B f n j).2 (f (n - 1 - j)) ≤ _
      by_cases hc : (B f n j).2 (f (n - 1 - j)) ≤ n - 1 - j
      · exact hc
      · have e := h2 ((B f n j).2 (f (n - 1 - j))) (by omega) hk.2.2.1
        rw [hk.2.2.2] at e
        have := h.2 _ _ hi hk.2.2.1 e
        omega
    refine ⟨inv_sw h1 hi hk.2.2.1, ?_, ?_⟩
    · intro x hx hxn
      show sw (B f n j).1 (n - 1 - j) (stepsOf f n j) x = _
      unfold sw
      by_cases e : x = n - 1 - j
      · rw [if_pos e, e]; exact hk.2.2.2
      · rw [if_neg e, if_neg (by omega)]; exact h2 x (by omega) hxn
    · intro i hi2
      by_cases e : i = j
      · rw [e]; exact hle
      · exact h3 i (by omega)
/-- The steps of an order make it. -/
theorem P_back {f : Nat → Nat} {n : Nat} (h : Ord n f) (x : Nat) (hx : x < n) : P (stepsOf f n) n (n - 1) x = f x := by
  obtain ⟨h1, h2, h3⟩ := B_ord h n (Nat.le_refl n)
  have h4 := h2 x (by omega) hx
  rw [B_pq] at h4
  have h5 := h3 (n - 1) (by omega)
  obtain ⟨m, rfl⟩ : ∃ m, n = m + 1 := ⟨n - 1, by omega⟩
  have e : P (stepsOf f (m + 1)) (m + 1) (m + 1) x = P (stepsOf f (m + 1)) (m + 1) m x := by
    show sw (P (stepsOf f (m + 1)) (m + 1) m) (m + 1 - 1 - m) (stepsOf f (m + 1) m) x = _
    have e1 : stepsOf f (m + 1) m = 0 := by simp only [Nat.add_sub_cancel] at h5; omega
    have e2 : m + 1 - 1 - m = 0 := by omega
    rw [e1, e2]
    unfold sw
    by_cases e3 : x = 0
    · rw [if_pos e3, e3]
    · rw [if_neg e3, if_neg e3]
  rw [← h4]
  exact e.symm
/-- The steps of what steps make are these. -/
theorem back_P {s f : Nat → Nat} {n : Nat} (hs : ∀ i, i < n - 1 → s i ≤ n - 1 - i) (hf : ∀ x, x < n → f x = P s n (n - 1) x) (j : Nat) (hj : j ≤ n - 1) : B f n j = (P s n j, Q s n j) ∧ ∀ i, i < j → stepsOf f n i = s i := by
  induction j with
  | zero => exact ⟨rfl, fun i hi => by omega⟩
  | succ j ih =>
    obtain ⟨h1, h2⟩ := ih (by omega)
    have e : stepsOf f n j = s j := by
      unfold stepsOf
      rw [h1, hf _ (by omega), P_stays (n - 1) hs (j + 1) (by omega) (by omega) (n - 1 - j) (by omega) (by omega)]
      show Q s n j (sw (P s n j) (n - 1 - j) (s j) (n - 1 - j)) = _
      unfold sw
      rw [if_pos rfl]
      exact (pq_inv j (fun i hi => hs i (by omega)) (by omega) (s j) (by have := hs j (by omega); omega)).2.1
    constructor
    · show (sw (B f n j).1 (n - 1 - j) (stepsOf f n j), upd (upd (B f n j).2 ((B f n j).1 (stepsOf f n j)) (n - 1 - j)) ((B f n j).1 (n - 1 - j)) (stepsOf f n j)) = _
      rw [e, h1]
      rfl
    · intro i hi
      by_cases c : i = j
      · rw [c]; exact e
      · exact h2 i (by omega)
/-- Each order has one turned. -/
theorem Ord.inv {f : Nat → Nat} {n : Nat} (h : Ord n f) : ∃ g, Inv n f g := by
  obtain ⟨h1, h2, h3⟩ := B_ord h n (Nat.le_refl n)
  refine ⟨(B f n n).2, fun x hx => ?_⟩
  have e : ∀ y, y < n → (B f n n).1 y = f y := fun y hy => h2 y (by omega) hy
  have := h1 x hx
  rw [e x hx, e _ this.2.2.1] at this
  exact this
/-- The steps of an order that is a row of whole numbers. -/
def backs (l : List Int) : List Int := tab (l.length - 1) (fun j => (stepsOf (fun i => (l.getD i 0).toNat) l.length j : Int))
theorem Ord.comp {f g : Nat → Nat} {n : Nat} (hf : Ord n f) (hg : Ord n g) : Ord n (fun x => f (g x)) :=
  ⟨fun x hx => hf.1 _ (hg.1 x hx), fun x y hx hy e => hg.2 x y hx hy (hf.2 _ _ (hg.1 x hx) (hg.1 y hy) e)⟩
end Go.Proofs.Ytemmjinfeaafdaa.Perm
