/- The printed statement DrawMixes, about whole numbers alone. No condition. -/
import Derived.Test.YtckpangkdlpmcaaPDrawMixesx1
import Derived.Test.YtckpangkdlpmcaaBits
namespace Go.Proofs.Ytckpangkdlpmcaa.Pure
open Go Go.RowKit Go.Proofs.Ytckpangkdlpmcaa.PDrawMixes Go.Proofs.Ytckpangkdlpmcaa.Bits Go.Proofs.YtckpangkdlpmcaaW.PrintWords Go.Proofs.YtckpangkdlpmcaaW.PrintLast
theorem mix_f (z : BitVec 64) : draw_Mix.f (z.toNat : Int) = some ((mix z).toNat : Int) := by
  unfold draw_Mix.f
  simp only [e30, e27, e31, xor_b, m1, m2]
  rfl
theorem next_f (z : BitVec 64) : draw_Next.f (z.toNat : Int) = some (((mix (z + gold)).toNat : Int), ((z + gold).toNat : Int)) := by
  unfold draw_Next.f
  rw [aGold, mix_f]
  rfl
theorem next_zero : draw_Next.f 0 = some (16294208416658607535, 11400714819323198485) := by
  have h := next_f (BitVec.ofNat 64 0)
  rw [g1, g2] at h
  exact h
theorem works_f : stooklaw05_works.f = some true := by
  unfold stooklaw05_works.f
  rw [next_zero, bnd]
  simp only [if_true, beq_self_eq_true]
theorem refmix_f (z : BitVec 64) : stookref05_Mix.f (z.toNat : Int) = some ((mix z).toNat : Int) := by
  unfold stookref05_Mix.f
  simp only [e30, e27, e31, xor_b, m1, m2]
  rfl
theorem unmix_f (z : BitVec 64) : draw_Unmix.f (z.toNat : Int) = some ((unmix z).toNat : Int) := by
  unfold draw_Unmix.f
  simp only [e30, e27, e31, e60, e54, e62, xor_b, m3, m4]
  rfl
theorem wrap64_small {i : Int} (h0 : -9223372036854775808 ≤ i) (h : i < 9223372036854775808) : wrap64 i = i := by unfold wrap64; omega
theorem u64_small {i : Int} (h0 : 0 ≤ i) (h : i < 18446744073709551616) : IntKind.u64.wrap i = i := by rw [wrap_u64]; omega
theorem and_one (x : BitVec 64) : bits .and .u64 (x.toNat : Int) 1 = ((x &&& (BitVec.ofNat 64 1)).toNat : Int) := and_b x (BitVec.ofNat 64 1)
/-- The bits from one place on. -/
def from_ (T : BitVec 64) (m : Nat) : BitVec 64 := (T >>> m) <<< m
theorem from_bit (T : BitVec 64) (m j : Nat) : (from_ T m).getLsbD j = (decide (j < 64) && decide (m ≤ j) && T.getLsbD j) := by
  unfold from_
  rw [BitVec.getLsbD_shiftLeft, BitVec.getLsbD_ushiftRight]
  by_cases h : m ≤ j
  · have e : m + (j - m) = j := by omega
    have h2 : ¬ j < m := by omega
    simp [h, h2, e]
  · simp [h]
theorem one_bit (b : BitVec 64) (i j : Nat) (hi : i < 64) : ((b &&& (BitVec.ofNat 64 1)) <<< i).getLsbD j = (decide (j = i) && b.getLsbD 0) := by
  rw [BitVec.getLsbD_shiftLeft, BitVec.getLsbD_and]
  by_cases h : j = i
  · subst h; simp [hi]
  · by_cases h2 : j < i
    · simp [h, h2]
    · have : ((BitVec.ofNat 64 1)).getLsbD (j - i) = false := by
        rw [BitVec.getLsbD_one]; simp; omega
      simp [h, this]
theorem xor_and (a b : BitVec 64) : (a &&& (BitVec.ofNat 64 1)) ^^^ (b &&& (BitVec.ofNat 64 1)) = (a ^^^ b) &&& (BitVec.ofNat 64 1) := by
  apply BitVec.eq_of_getLsbD_eq
  intro i hi
  simp only [BitVec.getLsbD_xor, BitVec.getLsbD_and]
  cases a.getLsbD i <;> cases b.getLsbD i <;> cases ((BitVec.ofNat 64 1)).getLsbD i <;> rfl
theorem against_l (n : Nat) (hn : 64 ≤ n + n + n) (hn2 : n < 64) (w : BitVec 64) (m : Nat) : ∀ (k : Nat), m ≤ 64 → m < k →
    stookref05_against.l0 k (w.toNat : Int) (n : Int) ((from_ (us n w) m).toNat : Int) ((m : Int) - 1) = some ((us n w).toNat : Int) := by
  induction m with
  | zero =>
    intro k hm hk
    obtain ⟨k, rfl⟩ : ∃ m, k = m + 1 := ⟨k - 1, by omega⟩
    simp only [stookref05_against.l0]
    rw [if_neg (by omega)]
    have e : from_ (us n w) 0 = us n w := by unfold from_; simp
    rw [e]
  | succ i ih =>
    intro k hm hk
    obtain ⟨k, rfl⟩ : ∃ m, k = m + 1 := ⟨k - 1, by omega⟩
    simp only [stookref05_against.l0]
    have ei : ((i + 1 : Nat) : Int) - 1 = (i : Int) := by omega
    rw [ei, if_pos (by omega), u64_small (i := (i : Int)) (by omega) (by omega), if_pos (by omega), wrap64_small (i := (i : Int) + n) (by omega) (by omega), wrap64_small (i := (i : Int) - 1) (by omega) (by omega)]
    by_cases h : (i : Int) + n < 64
    · rw [if_pos h, u64_small (i := (i : Int) + n) (by omega) (by omega), if_pos (by omega), shr_b _ i (by omega), show (i : Int) + n = ((i + n : Nat) : Int) by omega, shr_b _ (i + n) (by omega),
        and_one, and_one, xor_b, xor_and, shl_b _ i (by omega), or_b]
      have e : from_ (us n w) (i + 1) ||| ((w >>> i ^^^ from_ (us n w) (i + 1) >>> (i + n)) &&& (BitVec.ofNat 64 1)) <<< i = from_ (us n w) i := by
        apply BitVec.eq_of_getLsbD_eq
        intro j hj
        rw [BitVec.getLsbD_or, one_bit _ i j (by omega), from_bit, from_bit, BitVec.getLsbD_xor, BitVec.getLsbD_ushiftRight, BitVec.getLsbD_ushiftRight, from_bit]
        have hb := us_bit n hn w i
        by_cases hji : j = i
        · subst hji
          have h1 : j + n < 64 := by omega
          have h2 : j + 1 ≤ j + n := by omega
          have h3 : ¬ (j + 1 ≤ j) := by omega
          simp only [Nat.add_zero, hj, h1, h2, h3, decide_true, decide_false, Bool.true_and, Bool.false_and, Bool.and_false, Bool.false_or, Nat.le_refl]
          exact hb.symm
        · have h4 : decide (i + 1 ≤ j) = decide (i ≤ j) := by rw [decide_eq_decide]; omega
          simp only [hji, decide_false, Bool.false_and, Bool.or_false, h4]
      rw [e]
      exact ih k (by omega) (by omega)
    · rw [if_neg h, shr_b _ i (by omega), and_one, shl_b _ i (by omega), or_b]
      have e : from_ (us n w) (i + 1) ||| ((w >>> i) &&& (BitVec.ofNat 64 1)) <<< i = from_ (us n w) i := by
        apply BitVec.eq_of_getLsbD_eq
        intro j hj
        rw [BitVec.getLsbD_or, one_bit _ i j (by omega), from_bit, from_bit, BitVec.getLsbD_ushiftRight]
        have hb := us_bit n hn w i
        rw [BitVec.getLsbD_of_ge (us n w) (i + n) (by omega)] at hb
        by_cases hji : j = i
        · subst hji
          have h3 : ¬ (j + 1 ≤ j) := by omega
          simp only [Nat.add_zero, hj, h3, decide_true, decide_false, Bool.true_and, Bool.false_and, Bool.and_false, Bool.false_or, Nat.le_refl, Bool.xor_false] at hb ⊢
          exact hb.symm
        · have h4 : decide (i + 1 ≤ j) = decide (i ≤ j) := by rw [decide_eq_decide]; omega
          simp only [hji, decide_false, Bool.false_and, Bool.or_false, h4]
      rw [e]
      exact ih k (by omega) (by omega)
theorem against_f (n : Nat) (hn : 64 ≤ n + n + n) (hn2 : n < 64) (w : BitVec 64) : stookref05_against.f 65 (w.toNat : Int) (n : Int) = some ((us n w).toNat : Int) := by
  unfold stookref05_against.f
  have h := against_l n hn hn2 w 64 65 (by omega) (by omega)
  have e : from_ (us n w) 64 = (BitVec.ofNat 64 0) := by
    apply BitVec.eq_of_getLsbD_eq
    intro j hj
    rw [from_bit, BitVec.getLsbD_zero]
    have : ¬ 64 ≤ j := by omega
    simp [this]
  rw [e] at h
  exact h
/-- One round of the search for the number that times an odd one is 1. -/
def near (m x : BitVec 64) : BitVec 64 := x * ((BitVec.ofNat 64 2) - m * x)
theorem two_sub (x : BitVec 64) : IntKind.u64.wrap (2 - (x.toNat : Int)) = (((BitVec.ofNat 64 2) - x).toNat : Int) := sub_b (BitVec.ofNat 64 2) x
theorem by_step (k : Nat) (m x : BitVec 64) (i : Nat) (h : i < 6) : stookref05_by.l0 (k + 1) (m.toNat : Int) (x.toNat : Int) (i : Int) = stookref05_by.l0 k (m.toNat : Int) ((near m x).toNat : Int) ((i + 1 : Nat) : Int) := by
  conv => lhs; unfold stookref05_by.l0
  rw [if_pos (by omega), mul_b, two_sub, mul_b, show wrap64 ((i : Int) + 1) = ((i + 1 : Nat) : Int) by unfold wrap64; omega]
  rfl
theorem by_f (m : BitVec 64) : stookref05_by.f 65 (m.toNat : Int) = some ((near m (near m (near m (near m (near m (near m m)))))).toNat : Int) := by
  unfold stookref05_by.f
  have h0 := by_step 64 m m 0 (by omega)
  have h1 := by_step 63 m (near m m) 1 (by omega)
  have h2 := by_step 62 m (near m (near m m)) 2 (by omega)
  have h3 := by_step 61 m (near m (near m (near m m))) 3 (by omega)
  have h4 := by_step 60 m (near m (near m (near m (near m m)))) 4 (by omega)
  have h5 := by_step 59 m (near m (near m (near m (near m (near m m))))) 5 (by omega)
  have h6 : stookref05_by.l0 (58 + 1) (m.toNat : Int) ((near m (near m (near m (near m (near m (near m m)))))).toNat : Int) ((5 + 1 : Nat) : Int) = some ((near m (near m (near m (near m (near m (near m m)))))).toNat : Int) := by
    unfold stookref05_by.l0
    rw [if_neg (by omega)]
  exact h0.trans (h1.trans (h2.trans (h3.trans (h4.trans (h5.trans h6)))))
theorem near_two : near two (near two (near two (near two (near two (near two two))))) = unTwo := by decide
theorem near_one : near one (near one (near one (near one (near one (near one one))))) = unOne := by decide
theorem refunmix_f (z : BitVec 64) : stookref05_Unmix.f 65 (z.toNat : Int) = some ((unmix z).toNat : Int) := by
  unfold stookref05_Unmix.f
  have a1 := against_f 31 (by omega) (by omega) z
  have b1 := by_f two
  rw [near_two] at b1
  have a2 := against_f 27 (by omega) (by omega) (us 31 z * unTwo)
  have b2 := by_f one
  rw [near_one] at b2
  have a3 := against_f 30 (by omega) (by omega) (us 27 (us 31 z * unTwo) * unOne)
  rw [show ((31 : Nat) : Int) = 31 from rfl] at a1
  rw [show ((27 : Nat) : Int) = 27 from rfl] at a2
  rw [show ((30 : Nat) : Int) = 30 from rfl] at a3
  rw [show ((two.toNat : Nat) : Int) = 10723151780598845931 from rfl] at b1
  rw [show ((one.toNat : Nat) : Int) = 13787848793156543929 from rfl] at b2
  rw [a1, bnd, b1, bnd, mul_b, a2, bnd, b2, bnd, mul_b, a3, bnd]
  rfl
theorem DrawMixes : stooklaw05_DrawMixes.Pure := by
  intro a ha
  obtain ⟨z, rfl⟩ := bv64 (u64_wf ha).1 (u64_wf ha).2
  refine ⟨65, ?_⟩
  unfold stooklaw05_DrawMixes.f
  simp only [mix_f, refmix_f, unmix_f, refunmix_f, bnd, if_true, works_f]

end Go.Proofs.Ytckpangkdlpmcaa.Pure
