/- Which rows are orders, and where each number stands, as the program tells it. No condition but a length's. -/
import Derived.Test.YtemmjinfeaafdaaPAllx5
import Derived.Test.YtemmjinfeaafdaaPAllx8
import Derived.Test.YtemmjinfeaafdaaPerm
set_option linter.unusedVariables false
set_option linter.unusedSimpArgs false
namespace Go.Proofs.Ytemmjinfeaafdaa.Pure
open Go Go.RowKit Go.Proofs.Ytemmjinfeaafdaa.PAll Go.Proofs.Ytemmjinfeaafdaa.Perm Go.Proofs.YtemmjinfeaafdaaVW.PrintWords Go.Proofs.YtemmjinfeaafdaaVW.PrintLast

theorem bnd {α β : Type} (a : α) (f : α → Option β) : (some a).bind f = f a := by
  have h : ∀ o : Option α, o = some a → o.bind f = f a := fun o e => by subst e; rfl
  exact h _ rfl
theorem w64 {i : Int} (h0 : -9223372036854775808 ≤ i) (h : i < 9223372036854775808) : wrap64 i = i := by unfold wrap64; omega
theorem i64_wf {a : Int} (h : (Lit.int .i64 a).wf = true) : -9223372036854775808 ≤ a ∧ a < 9223372036854775808 := by
  simp only [Lit.wf, Bool.and_eq_true, decide_eq_true_eq] at h
  have h1 : IntKind.i64.min = -9223372036854775808 := by decide
  have h2 : IntKind.i64.max = 9223372036854775807 := by decide
  omega
/-- A row of whole numbers, none below nought. -/
def nums (n : Nat) (f : Nat → Nat) : List Int := tab n (fun i => (f i : Int))
theorem nums_len (n : Nat) (f : Nat → Nat) : (nums n f).length = n := tab_len _ _
theorem nums_congr {n : Nat} {f g : Nat → Nat} (h : ∀ x, x < n → f x = g x) : nums n f = nums n g := tab_congr (fun x hx => by rw [h x hx])
theorem nums_inj {n : Nat} {f g : Nat → Nat} (h : nums n f = nums n g) : ∀ x, x < n → f x = g x := fun x hx => Int.ofNat_inj.1 (tab_inj h x hx)
theorem nums_set (n : Nat) (f : Nat → Nat) (i v : Nat) : (nums n f).set i (v : Int) = nums n (upd f i v) := by
  unfold nums
  rw [tab_set]
  refine tab_congr (fun x _ => ?_)
  by_cases e : x = i
  · rw [e, upd_same, upd_same]
  · rw [upd_other _ _ e, upd_other _ _ e]
theorem nums_get {n i : Nat} {f : Nat → Nat} (h : i < n) : (nums n f).getD i 0 = (f i : Int) := tab_get h 0
theorem rd_tab {n i : Nat} {f : Nat → Int} (h : i < n) : rd (tab n f) (i : Int) = f i := by
  unfold rd
  rw [Int.toNat_natCast]
  exact tab_get h 0
theorem rd_nums {n i : Nat} {f : Nat → Nat} (h : i < n) : rd (nums n f) (i : Int) = (f i : Int) := rd_tab h
theorem tab_rd (l : List Int) : tab l.length (fun i => rd l (i : Int)) = l := by
  have h := tab_of l 0
  refine Eq.trans (tab_congr (fun x _ => ?_)) h
  unfold rd
  rw [Int.toNat_natCast]
/-- An order. -/
def IsOrd (l : List Int) : Prop := ∃ f, l = nums l.length f ∧ Ord l.length f
theorem places_l0 (l : List Int) (n : Nat) (hn : n ≤ 65536) (d : Nat) : ∀ (k i : Nat) (A : Nat → Int), i + d = n → (∀ y, y < i → A y = -1) →
    deal_places.l0 (k + 1 + d) l (tab n A) (n : Int) (i : Int) = deal_places.l1 k l (tab n (fun _ => -1)) l (l.length : Int) 0 := by
  induction d with
  | zero =>
    intro k i A hi hA
    simp only [Nat.add_zero, deal_places.l0]
    rw [if_neg (by omega), tab_congr (g := fun _ => -1) (fun x hx => hA x (by omega))]
  | succ d ih =>
    intro k i A hi hA
    rw [show k + 1 + (d + 1) = (k + 1 + d) + 1 from rfl]
    simp only [deal_places.l0]
    rw [if_pos (by omega), if_pos (by omega), if_pos (by rw [tab_len]; omega), w64 (by omega) (by omega), Int.toNat_natCast, tab_set, show (i : Int) + 1 = ((i + 1 : Nat) : Int) by omega]
    refine ih k (i + 1) _ (by omega) (fun y hy => ?_)
    by_cases e : y = i
    · rw [e, upd_same]
    · rw [upd_other _ _ e]; exact hA y (by omega)
theorem places_l1 (l : List Int) (n : Nat) (hl : l.length = n) (hn : n ≤ 65536) (d : Nat) : ∀ (k i : Nat) (A : Nat → Int), i + d = n → d < k →
    (∀ x : Nat, x < i → 0 ≤ rd l x ∧ rd l x < n ∧ A (rd l x).toNat = x) → (∀ y : Nat, y < n → A y = -1 ∨ ∃ x : Nat, x < i ∧ rd l x = y ∧ A y = x) →
    (¬ IsOrd l ∧ deal_places.l1 k l (tab n A) l (n : Int) (i : Int) = some (([] : List Int), false)) ∨
    ∃ A' : Nat → Int, (∀ x : Nat, x < n → 0 ≤ rd l x ∧ rd l x < n ∧ A' (rd l x).toNat = x) ∧ deal_places.l1 k l (tab n A) l (n : Int) (i : Int) = some (tab n A', true) := by
  induction d with
  | zero =>
    intro k i A hi hk h1 h2
    obtain ⟨k, rfl⟩ : ∃ m, k = m + 1 := ⟨k - 1, by omega⟩
    refine Or.inr ⟨A, fun x hx => h1 x (by omega), ?_⟩
    simp only [deal_places.l1]
    rw [if_neg (by omega)]
  | succ d ih =>
    intro k i A hi hk h1 h2
    obtain ⟨k, rfl⟩ : ∃ m, k = m + 1 := ⟨k - 1, by omega⟩
    have hord : ∀ f, l = nums l.length f → ∀ x : Nat, x < n → rd l x = f x := fun f e x hx => by rw [e]; exact rd_nums (by omega)
    simp only [deal_places.l1]
    rw [if_pos (by omega), if_pos (by omega), if_pos (by omega)]
    by_cases c1 : rd l i < 0
    · refine Or.inl ⟨fun ⟨f, e, o⟩ => ?_, by rw [if_pos c1]⟩
      have := hord f e i (by omega)
      omega
    rw [if_neg c1]
    by_cases c2 : rd l i ≥ (l.length : Int)
    · refine Or.inl ⟨fun ⟨f, e, o⟩ => ?_, by rw [if_pos c2]⟩
      have := hord f e i (by omega)
      have := o.1 i (by omega)
      omega
    rw [if_neg c2, if_pos (by omega), if_pos (by rw [tab_len]; omega)]
    obtain ⟨v, hv⟩ : ∃ v : Nat, rd l i = v := ⟨(rd l i).toNat, by omega⟩
    have hvn : v < n := by omega
    rw [hv, rd_tab hvn]
    by_cases c3 : A v ≥ 0
    · refine Or.inl ⟨fun ⟨f, e, o⟩ => ?_, by rw [if_pos c3]⟩
      rcases h2 v hvn with h | ⟨x, hx, hxv, _⟩
      · omega
      · have e1 := hord f e i (by omega)
        have e2 := hord f e x (by omega)
        have := o.2 x i (by omega) (by omega) (by omega)
        omega
    rw [if_neg c3, w64 (by omega) (by omega), Int.toNat_natCast, tab_set, show (i : Int) + 1 = ((i + 1 : Nat) : Int) by omega]
    refine ih k (i + 1) _ (by omega) (by omega) (fun x hx => ?_) (fun y hy => ?_)
    · by_cases e : x = i
      · subst e
        exact ⟨by omega, by omega, by rw [hv, Int.toNat_natCast, upd_same]⟩
      · obtain ⟨g1, g2, g3⟩ := h1 x (by omega)
        refine ⟨g1, g2, ?_⟩
        rw [upd_other _ _ (fun e2 => ?_)]
        · exact g3
        · rw [e2] at g3; omega
    · by_cases e : y = v
      · subst e
        exact Or.inr ⟨i, by omega, hv, upd_same _ _ _⟩
      · rw [upd_other _ _ e]
        rcases h2 y hy with h | ⟨x, hx, hxy, hA⟩
        · exact Or.inl h
        · exact Or.inr ⟨x, by omega, hxy, hA⟩
theorem places_f (l : List Int) (hn : l.length ≤ 65536) (k : Nat) (hk : 2 * l.length + 4 ≤ k) :
    (¬ IsOrd l ∧ deal_places.f k l = some (([] : List Int), false)) ∨ ∃ f g, l = nums l.length f ∧ Inv l.length f g ∧ deal_places.f k l = some (nums l.length g, true) := by
  obtain ⟨n, hnl⟩ : ∃ n, n = l.length := ⟨_, rfl⟩
  have e0 : deal_places.f k l = deal_places.l1 (k - 1 - n) l (tab n (fun _ => -1)) l (n : Int) ((0 : Nat) : Int) := by
    unfold deal_places.f
    rw [if_neg (by omega), if_pos (by omega), if_pos (by omega), bnd, List.length_replicate, Int.toNat_natCast, tab_const, ← hnl]
    have h := places_l0 l n (by omega) n (k - 1 - n) 0 (fun _ => 0) (by omega) (fun y hy => by omega)
    rw [show k - 1 - n + 1 + n = k by omega] at h
    rw [← hnl] at h
    exact h
  rw [e0, ← hnl]
  rcases places_l1 l n hnl.symm (by omega) n (k - 1 - n) 0 (fun _ => -1) (by omega) (by omega) (fun x hx => by omega) (fun y hy => Or.inl rfl) with ⟨h1, h2⟩ | ⟨A, h1, h2⟩
  · exact Or.inl ⟨h1, h2⟩
  · have hf : l = nums n (fun x => (rd l x).toNat) := by
      refine Eq.trans (tab_rd l).symm ?_
      rw [← hnl]
      exact tab_congr (fun x hx => by have := h1 x hx; dsimp only; omega)
    have ho : Ord n (fun x => (rd l x).toNat) := by
      refine ⟨fun x hx => by have := h1 x hx; dsimp only; omega, fun x y hx hy e => ?_⟩
      have e1 := (h1 x hx).2.2
      have e2 := (h1 y hy).2.2
      dsimp only at e
      rw [e] at e1
      omega
    obtain ⟨g, hg⟩ := ho.inv
    refine Or.inr ⟨_, g, hf, hg, ?_⟩
    rw [h2]
    refine congrArg some (congrArg (fun z => (z, true)) (tab_congr (fun y hy => ?_)))
    have e3 := (h1 (g y) (hg y hy).2.2.1).2.2
    have e4 := (hg y hy).2.2.2
    dsimp only at e4
    rw [e4] at e3
    exact e3
theorem Inv.isOrd {l : List Int} {f g : Nat → Nat} (e : l = nums l.length f) (h : Inv l.length f g) : IsOrd l := ⟨f, e, h.ord⟩
theorem IsOrd.inv {l : List Int} (h : IsOrd l) : ∃ f g, l = nums l.length f ∧ Inv l.length f g := by
  obtain ⟨f, e, o⟩ := h
  obtain ⟨g, hg⟩ := o.inv
  exact ⟨f, g, e, hg⟩
/-- Where each number stands: one answer. -/
theorem places_yes {l : List Int} {f g : Nat → Nat} (hn : l.length ≤ 65536) (e : l = nums l.length f) (h : Inv l.length f g) (k : Nat) (hk : 2 * l.length + 4 ≤ k) : deal_places.f k l = some (nums l.length g, true) := by
  rcases places_f l hn k hk with ⟨h1, _⟩ | ⟨f', g', e', h', r⟩
  · exact absurd (Inv.isOrd e h) h1
  · rw [r]
    refine congrArg some (congrArg (fun z => (z, true)) (nums_congr (fun y hy => ?_)))
    have ef : ∀ x, x < l.length → f x = f' x := nums_inj (e.symm.trans e')
    have a := h y hy
    have b := h' y hy
    have c := ef (g' y) b.2.2.1
    rw [b.2.2.2] at c
    rw [← (h _ b.2.2.1).2.1, c]
theorem places_no {l : List Int} (hn : l.length ≤ 65536) (h : ¬ IsOrd l) (k : Nat) (hk : 2 * l.length + 4 ≤ k) : deal_places.f k l = some (([] : List Int), false) := by
  rcases places_f l hn k hk with ⟨_, r⟩ | ⟨f', g', e', h', r⟩
  · exact r
  · exact absurd (Inv.isOrd e' h') h
theorem places_long {l : List Int} (hn : ¬ l.length ≤ 65536) (k : Nat) : deal_places.f k l = some (([] : List Int), false) := by
  unfold deal_places.f
  rw [if_pos (by omega)]
theorem turn_yes {l : List Int} {f g : Nat → Nat} (hn : l.length ≤ 65536) (e : l = nums l.length f) (h : Inv l.length f g) (k : Nat) (hk : 2 * l.length + 4 ≤ k) : deal_Turn.f k l = some (nums l.length g, 0) := by
  unfold deal_Turn.f
  rw [if_neg (by omega), places_yes hn e h k hk, bnd, if_pos rfl]
theorem turn_no {l : List Int} (hn : l.length ≤ 65536) (h : ¬ IsOrd l) (k : Nat) (hk : 2 * l.length + 4 ≤ k) : deal_Turn.f k l = some (([] : List Int), 2) := by
  unfold deal_Turn.f
  rw [if_neg (by omega), places_no hn h k hk, bnd, if_neg (by simp)]
theorem turn_long {l : List Int} (hn : ¬ l.length ≤ 65536) (k : Nat) : deal_Turn.f k l = some (([] : List Int), 3) := by
  unfold deal_Turn.f
  rw [if_pos (by omega)]
/-- Where the turn is answered, the row is an order. -/
theorem turn_ord {l t : List Int} {k : Nat} (h : deal_Turn.f k l = some (t, 0)) : l.length ≤ 65536 ∧ IsOrd l := by
  by_cases hn : l.length ≤ 65536
  · refine ⟨hn, Classical.byContradiction fun ho => ?_⟩
    have h1 := at_rounds (deal_Turn.mono l) (Nat.le_add_right k (2 * l.length + 4)) h
    rw [turn_no hn ho _ (by omega)] at h1
    simp at h1
  · rw [turn_long hn k] at h
    simp at h
end Go.Proofs.Ytemmjinfeaafdaa.Pure
