/- The printed statement DrawWithin, about whole numbers alone. No condition. -/
import Derived.Test.YtckpangkdlpmcaaPDrawWithinx1
import Derived.Test.YtckpangkdlpmcaaBits
namespace Go.Proofs.Ytckpangkdlpmcaa.Pure
open Go Go.RowKit Go.Proofs.Ytckpangkdlpmcaa.PDrawWithin Go.Proofs.Ytckpangkdlpmcaa.Bits Go.Proofs.YtckpangkdlpmcaaW.PrintWords Go.Proofs.YtckpangkdlpmcaaW.PrintLast
theorem mix_f (z : BitVec 64) : draw_Mix.f (z.toNat : Int) = some ((mix z).toNat : Int) := by
  unfold draw_Mix.f
  simp only [e30, e27, e31, xor_b, m1, m2]
  rfl
theorem next_f (z : BitVec 64) : draw_Next.f (z.toNat : Int) = some (((mix (z + gold)).toNat : Int), ((z + gold).toNat : Int)) := by
  unfold draw_Next.f
  rw [aGold, mix_f]
  rfl
theorem next_zero : draw_Next.f 0 = some (16294208416658607535, 11400714819323198485) := by
  have h := next_f (BitVec.ofNat 64 0)
  rw [g1, g2] at h
  exact h
theorem works_f : stooklaw05_works.f = some true := by
  unfold stooklaw05_works.f
  rw [next_zero, bnd]
  simp only [if_true, beq_self_eq_true]
/-- What is drawn: the word that counts, or the last one, and the state behind it. -/
def tries (ok : BitVec 64 → Bool) : Nat → BitVec 64 → BitVec 64 → BitVec 64 × BitVec 64
  | 0, s, w => (w, s)
  | d + 1, s, _ => if ok (mix (s + gold)) then (mix (s + gold), s + gold) else tries ok d (s + gold) (mix (s + gold))
theorem tmod_b (x y : BitVec 64) : Int.tmod (x.toNat : Int) (y.toNat : Int) = ((x % y).toNat : Int) := by
  rw [BitVec.toNat_umod]; rfl
theorem zero_b {n : BitVec 64} (h : n ≠ (BitVec.ofNat 64 0)) : ¬ ((n.toNat : Int) = 0) := fun e => h (BitVec.eq_of_toNat_eq (by rw [BitVec.toNat_ofNat]; omega))
theorem below_l (n last : BitVec 64) (hn : n ≠ (BitVec.ofNat 64 0)) (d : Nat) : ∀ (k i : Nat) (s w : BitVec 64), i + d = 64 → d < k →
    draw_Below.l0 k (s.toNat : Int) (n.toNat : Int) (last.toNat : Int) (w.toNat : Int) (i : Int)
      = some ((((tries (fun w => decide (w.toNat ≤ last.toNat)) d s w).1 % n).toNat : Int), ((tries (fun w => decide (w.toNat ≤ last.toNat)) d s w).2.toNat : Int), 0) := by
  have h0 := zero_b hn
  induction d with
  | zero =>
    intro k i s w hi hk
    obtain ⟨k, rfl⟩ : ∃ m, k = m + 1 := ⟨k - 1, by omega⟩
    simp only [draw_Below.l0, tries]
    rw [if_neg (by omega), if_neg h0, tmod_b]
  | succ d ih =>
    intro k i s w hi hk
    obtain ⟨k, rfl⟩ : ∃ m, k = m + 1 := ⟨k - 1, by omega⟩
    simp only [draw_Below.l0, tries]
    rw [if_pos (by omega), next_f, bnd]
    by_cases h : (mix (s + gold)).toNat ≤ last.toNat
    · rw [if_pos (Int.ofNat_le.2 h), if_neg h0, tmod_b, if_pos (decide_eq_true h)]
    · rw [if_neg (fun x => h (Int.ofNat_le.1 x)), if_neg (by simpa using h), show wrap64 ((i : Int) + 1) = ((i + 1 : Nat) : Int) by unfold wrap64; omega]
      exact ih k (i + 1) _ _ (by omega) (by omega)
/-- The greatest word that counts. -/
def lastOf (n : BitVec 64) : BitVec 64 := -(-n % n) - (BitVec.ofNat 64 1)
theorem below_f (s n : BitVec 64) (hn : n ≠ (BitVec.ofNat 64 0)) : draw_Below.f 65 (s.toNat : Int) (n.toNat : Int)
    = some ((((tries (fun w => decide (w.toNat ≤ (lastOf n).toNat)) 64 s (BitVec.ofNat 64 0)).1 % n).toNat : Int), ((tries (fun w => decide (w.toNat ≤ (lastOf n).toNat)) 64 s (BitVec.ofNat 64 0)).2.toNat : Int), 0) := by
  unfold draw_Below.f
  rw [if_neg (zero_b hn), neg_b, tmod_b, neg_b, sOne]
  exact below_l n (lastOf n) hn 64 65 0 s (BitVec.ofNat 64 0) (by omega) (by omega)
theorem pow_last (n : BitVec 64) (h : n &&& (n - (BitVec.ofNat 64 1)) = (BitVec.ofNat 64 0)) (hn : n ≠ (BitVec.ofNat 64 0)) : (lastOf n).toNat = 18446744073709551615 ∧ ∀ w : BitVec 64, w % n = w &&& (n - (BitVec.ofNat 64 1)) := by
  have h' : n.toNat ≠ 0 := fun e => hn (BitVec.eq_of_toNat_eq (by rw [e]; rfl))
  have hl := n.isLt
  have e1 : (n - (BitVec.ofNat 64 1)).toNat = n.toNat - 1 := by
    have e1 : ((BitVec.ofNat 64 1)).toNat = 1 := rfl
    rw [BitVec.toNat_sub, e1]; omega
  have h2 := congrArg BitVec.toNat h
  rw [BitVec.toNat_and, e1] at h2
  obtain ⟨j, hj⟩ := (Nat.and_sub_one_eq_zero_iff_isPowerOfTwo h').1 h2
  have hj64 : j < 64 := by
    rcases Nat.lt_or_ge j 64 with h | h
    · exact h
    · have := Nat.pow_le_pow_right (n := 2) (by decide) h
      omega
  constructor
  · have z : -n % n = (BitVec.ofNat 64 0) := by
      apply BitVec.eq_of_toNat_eq
      rw [BitVec.toNat_umod, BitVec.toNat_neg, hj, Nat.mod_eq_of_lt (a := 2 ^ 64 - 2 ^ j) (by have := Nat.two_pow_pos j; omega)]
      have e : 2 ^ 64 = 2 ^ j * 2 ^ (64 - j) := by rw [← Nat.pow_add]; congr 1; omega
      have e2 : 2 ^ 64 - 2 ^ j = 2 ^ j * (2 ^ (64 - j) - 1) := by rw [Nat.mul_sub, ← e, Nat.mul_one]
      rw [e2, Nat.mul_mod_right]; rfl
    unfold lastOf
    rw [z]; decide
  · intro w
    apply BitVec.eq_of_toNat_eq
    rw [BitVec.toNat_umod, BitVec.toNat_and, e1, hj, Nat.and_two_pow_sub_one_eq_mod]
theorem DrawWithin : stooklaw05_DrawWithin.Pure := by
  intro a b ha hb
  obtain ⟨s, rfl⟩ := bv64 (u64_wf ha).1 (u64_wf ha).2
  obtain ⟨n, rfl⟩ := bv64 (u64_wf hb).1 (u64_wf hb).2
  refine ⟨65, ?_⟩
  unfold stooklaw05_DrawWithin.f
  by_cases hn : n = (BitVec.ofNat 64 0)
  · subst hn
    unfold draw_Below.f
    rw [if_pos (by rfl), bnd, if_pos (by rfl)]
    simp only [bnd, if_true, works_f]
  · have h' : n.toNat ≠ 0 := fun e => hn (BitVec.eq_of_toNat_eq (by rw [e]; rfl))
    rw [below_f s n hn, bnd, if_neg (zero_b hn), if_pos rfl]
    have hlt : ((tries (fun w => decide (w.toNat ≤ (lastOf n).toNat)) 64 s (BitVec.ofNat 64 0)).1 % n).toNat < n.toNat := by
      rw [BitVec.toNat_umod]; exact Nat.mod_lt _ (by omega)
    simp only [stooklaw05_DrawWithin.j0]
    rw [if_neg (by simp only [decide_eq_true_eq]; omega), sOne, and_b]
    by_cases hp : n &&& (n - (BitVec.ofNat 64 1)) = (BitVec.ofNat 64 0)
    · obtain ⟨hl, hm⟩ := pow_last n hp hn
      have ht : tries (fun w => decide (w.toNat ≤ (lastOf n).toNat)) 64 s (BitVec.ofNat 64 0) = (mix (s + gold), s + gold) := by
        have hw := (mix (s + gold)).isLt
        have e : ∀ d w, tries (fun w => decide (w.toNat ≤ (lastOf n).toNat)) (d + 1) s w = (mix (s + gold), s + gold) := by
          intro d w
          simp only [tries]
          rw [if_pos (decide_eq_true (by rw [hl]; omega))]
        exact e 63 _
      rw [if_pos (by rw [hp]; rfl), next_f, bnd, ht, if_pos rfl, if_pos (by rw [and_b, hm]), works_f, bnd]
    · rw [if_neg (zero_b hp), works_f, bnd]

end Go.Proofs.Ytckpangkdlpmcaa.Pure
