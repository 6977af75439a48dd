/- DealTwice: for every three rows of whole numbers, the law's body, as printed, answers yes. No condition. -/
import Derived.Test.YtemmjinfeaafdaaPDealB
import Derived.Test.YtemmjinfeaafdaaPAllx18
set_option linter.unusedVariables false
set_option linter.unusedSimpArgs false
namespace Go.Proofs.Ytemmjinfeaafdaa.Pure
open Go Go.RowKit Go.Proofs.Ytemmjinfeaafdaa.PAll Go.Proofs.Ytemmjinfeaafdaa.Perm Go.Proofs.YtemmjinfeaafdaaVW.PrintWords Go.Proofs.YtemmjinfeaafdaaVW.PrintLast

theorem twice_l (p q l b : List Int) (f g : Nat → Nat) (n : Nat) (hp : p.length = n) (hq : q.length = n) (hn : n ≤ 65536) (hf : ∀ x : Nat, x < n → rd p x = f x) (hg : ∀ x : Nat, x < n → rd q x = g x) (og : Ord n g) (d : Nat) : ∀ (k i : Nat), i + d = n →
    stooklaw06_DealTwice.l0 (k + 1 + d) p q l b (nums i (fun x => f (g x))) (i : Int) = stooklaw06_DealTwice.l0 (k + 1) p q l b (nums n (fun x => f (g x))) (n : Int) := by
  induction d with
  | zero => intro k i hi; rw [show i = n by omega]
  | succ d ih =>
    intro k i hi
    rw [show k + 1 + (d + 1) = (k + 1 + d) + 1 from rfl]
    conv => lhs; simp only [stooklaw06_DealTwice.l0]
    have h1 := og.1 i (by omega)
    rw [if_pos (by omega), if_pos (by omega), hg i (by omega), if_pos (by omega), if_pos (by omega), if_pos (by rw [nums_len]; omega), hf _ h1, nums_snoc i (fun x => f (g x)) _ rfl, w64 (by omega) (by omega), show (i : Int) + 1 = ((i + 1 : Nat) : Int) by omega]
    exact ih k (i + 1) (by omega)
theorem twice_no (p q l a b : List Int) (k : Nat) (hk : 131080 ≤ k) (h : ¬ (p.length ≤ 65536 ∧ IsOrd p ∧ q.length ≤ 65536 ∧ IsOrd q ∧ p.length = l.length ∧ q.length = a.length)) : stooklaw06_DealTwice.j0 (k + 1) p q l a b true = some true := by
  simp only [stooklaw06_DealTwice.j0]
  rw [if_pos trivial]
  rcases three p with hn | ⟨hn, ho⟩ | ⟨hn, f, g, e, hi⟩
  · rw [is_long hn, bnd, if_neg (by simp), works_f _ hk, bnd]
  · rw [is_no hn ho _ (by omega), bnd, if_neg (by simp), works_f _ hk, bnd]
  rw [is_yes hn e hi _ (by omega), bnd, if_pos rfl]
  rcases three q with hn2 | ⟨hn2, ho2⟩ | ⟨hn2, f2, g2, e2, hi2⟩
  · rw [is_long hn2, bnd, if_neg (by simp), works_f _ hk, bnd]
  · rw [is_no hn2 ho2 _ (by omega), bnd, if_neg (by simp), works_f _ hk, bnd]
  rw [is_yes hn2 e2 hi2 _ (by omega), bnd, if_pos rfl]
  by_cases c1 : p.length = l.length
  · rw [if_pos (by omega)]
    by_cases c2 : q.length = a.length
    · exact absurd ⟨hn, Inv.isOrd e hi, hn2, Inv.isOrd e2 hi2, c1, c2⟩ h
    · rw [if_neg (by omega), works_f _ hk, bnd]
  · rw [if_neg (by omega), works_f _ hk, bnd]
/-- A taking: it is answered, or it is not. -/
theorem take_two (p l : List Int) (k : Nat) (hk : 131080 ≤ k) : (¬ (p.length ≤ 65536 ∧ IsOrd p ∧ p.length = l.length) ∧ ∃ e : Int, e ≠ 0 ∧ deal_Take.f k p l = some (([] : List Int), e)) ∨
    (p.length ≤ 65536 ∧ p.length = l.length ∧ ∃ f g, p = nums p.length f ∧ Inv p.length f g ∧ deal_Take.f k p l = some (taken l p.length f, 0)) := by
  rcases three p with hn | ⟨hn, ho⟩ | ⟨hn, f, g, e, hi⟩
  · exact Or.inl ⟨fun q => hn q.1, 3, by decide, take_long hn l k⟩
  · exact Or.inl ⟨fun q => ho q.2.1, 2, by decide, take_no hn ho l k (by omega)⟩
  · by_cases c : l.length = p.length
    · exact Or.inr ⟨hn, c.symm, f, g, e, hi, take_yes hn e hi c k (by omega)⟩
    · exact Or.inl ⟨fun q => c q.2.2.symm, 2, by decide, take_len hn e hi c k (by omega)⟩
theorem DealTwice : stooklaw06_DealTwice.Pure := by
  intro p q l _ _ _ _ _ _ _ _ _
  refine ⟨131080 + 1 + 65536 + 1 + 1, ?_⟩
  unfold stooklaw06_DealTwice.f
  rcases take_two p l (131080 + 1 + 65536 + 1 + 1) (by omega) with ⟨h1, e1, he1, t1⟩ | ⟨hn, hpl, f, f', e, hi, t1⟩
  · rw [t1, bnd]
    have hq : ∃ r : List Int × Int, deal_Take.f (131080 + 1 + 65536 + 1 + 1) q ([] : List Int) = some r := by
      rcases take_two q [] (131080 + 1 + 65536 + 1 + 1) (by omega) with ⟨_, e2, _, t2⟩ | ⟨_, _, _, _, _, _, t2⟩
      · exact ⟨_, t2⟩
      · exact ⟨_, t2⟩
    obtain ⟨r, hr⟩ := hq
    rw [hr, bnd, if_neg he1]
    exact twice_no p q l [] r.1 _ (by omega) (fun z => h1 ⟨z.1, z.2.1, z.2.2.2.2.1⟩)
  · rw [t1, bnd]
    have hal := taken_len l p.length f
    rcases take_two q (taken l p.length f) (131080 + 1 + 65536 + 1 + 1) (by omega) with ⟨h2, e2, he2, t2⟩ | ⟨hn2, hql, g, g', e2, hi2, t2⟩
    · rw [t2, bnd, if_pos rfl, show (e2 != 0) = true from bne_iff_ne.mpr he2]
      exact twice_no p q l _ [] _ (by omega) (fun z => h2 ⟨z.2.2.1, z.2.2.2.1, z.2.2.2.2.2⟩)
    · rw [t2, bnd, if_pos rfl]
      have hqp : q.length = p.length := by omega
      rw [hqp] at e2 hi2 t2 hn2 ⊢
      simp only [stooklaw06_DealTwice.j0]
      rw [if_neg (by decide)]
      have hr := twice_l p q l (taken (taken l p.length f) p.length g) f g p.length rfl hqp hn (isOrd_rd e) (fun x hx => by have := rd_nums (f := g) hx; rw [← e2] at this; exact this) hi2.ord p.length (131080 + 1 + 65536 - p.length) 0 (by omega)
      rw [show 131080 + 1 + 65536 - p.length + 1 + p.length = 131080 + 1 + 65536 + 1 by omega] at hr
      have hr2 : stooklaw06_DealTwice.l0 (131080 + 1 + 65536 + 1) p q l (taken (taken l p.length f) p.length g) ([] : List Int) 0 = _ := hr
      rw [hr2]
      obtain ⟨K, hK⟩ : ∃ K, K = 131080 + 1 + 65536 - p.length := ⟨_, rfl⟩
      rw [← hK]
      have hK2 : 131080 ≤ K := by omega
      simp only [stooklaw06_DealTwice.l0]
      rw [if_neg (by omega)]
      have hb := nums_len p.length (fun x => f (g x))
      have ho := hi.ord.comp hi2.ord
      obtain ⟨c, hc⟩ := ho.inv
      have hee : nums p.length (fun x => f (g x)) = nums (nums p.length (fun x => f (g x))).length (fun x => f (g x)) := by rw [hb]
      have hic : Inv (nums p.length (fun x => f (g x))).length (fun x => f (g x)) c := by rw [hb]; exact hc
      have hsame : taken (taken l p.length f) p.length g = taken l p.length (fun x => f (g x)) := tab_congr (fun x hx => rd_taken (hi2.ord.1 x hx))
      rw [take_yes (by rw [hb]; exact hn) hee hic (by rw [hb]; omega) _ (by rw [hb]; omega), bnd, if_pos rfl, is_yes (by rw [hb]; exact hn) hee hic _ (by rw [hb]; omega), bnd, if_pos rfl, hb, hsame, words_f _ _ _ (by rw [taken_len]; omega) (by rw [taken_len]; omega), bnd, decide_eq_true rfl, if_pos rfl, works_f _ hK2, bnd]
end Go.Proofs.Ytemmjinfeaafdaa.Pure
