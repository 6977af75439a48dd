/- The printed statement DrawBelow, about whole numbers alone. No condition. -/
import Derived.Test.YtckpangkdlpmcaaPDrawBelowx1
import Derived.Test.YtckpangkdlpmcaaBits
namespace Go.Proofs.Ytckpangkdlpmcaa.Pure
open Go Go.RowKit Go.Proofs.Ytckpangkdlpmcaa.PDrawBelow Go.Proofs.Ytckpangkdlpmcaa.Bits Go.Proofs.YtckpangkdlpmcaaW.PrintWords Go.Proofs.YtckpangkdlpmcaaW.PrintLast
theorem mix_f (z : BitVec 64) : draw_Mix.f (z.toNat : Int) = some ((mix z).toNat : Int) := by
  unfold draw_Mix.f
  simp only [e30, e27, e31, xor_b, m1, m2]
  rfl
theorem next_f (z : BitVec 64) : draw_Next.f (z.toNat : Int) = some (((mix (z + gold)).toNat : Int), ((z + gold).toNat : Int)) := by
  unfold draw_Next.f
  rw [aGold, mix_f]
  rfl
theorem next_zero : draw_Next.f 0 = some (16294208416658607535, 11400714819323198485) := by
  have h := next_f (BitVec.ofNat 64 0)
  rw [g1, g2] at h
  exact h
theorem works_f : stooklaw05_works.f = some true := by
  unfold stooklaw05_works.f
  rw [next_zero, bnd]
  simp only [if_true, beq_self_eq_true]
theorem refmix_f (z : BitVec 64) : stookref05_Mix.f (z.toNat : Int) = some ((mix z).toNat : Int) := by
  unfold stookref05_Mix.f
  simp only [e30, e27, e31, xor_b, m1, m2]
  rfl
theorem refnext_f (z : BitVec 64) : stookref05_Next.f (z.toNat : Int) = some (((mix (z + gold)).toNat : Int), ((z + gold).toNat : Int)) := by
  unfold stookref05_Next.f
  rw [aGold, refmix_f]
  rfl
/-- What is drawn: the word that counts, or the last one, and the state behind it. -/
def tries (ok : BitVec 64 → Bool) : Nat → BitVec 64 → BitVec 64 → BitVec 64 × BitVec 64
  | 0, s, w => (w, s)
  | d + 1, s, _ => if ok (mix (s + gold)) then (mix (s + gold), s + gold) else tries ok d (s + gold) (mix (s + gold))
theorem tmod_b (x y : BitVec 64) : Int.tmod (x.toNat : Int) (y.toNat : Int) = ((x % y).toNat : Int) := by
  rw [BitVec.toNat_umod]; rfl
theorem zero_b {n : BitVec 64} (h : n ≠ (BitVec.ofNat 64 0)) : ¬ ((n.toNat : Int) = 0) := fun e => h (BitVec.eq_of_toNat_eq (by rw [BitVec.toNat_ofNat]; omega))
theorem below_l (n last : BitVec 64) (hn : n ≠ (BitVec.ofNat 64 0)) (d : Nat) : ∀ (k i : Nat) (s w : BitVec 64), i + d = 64 → d < k →
    draw_Below.l0 k (s.toNat : Int) (n.toNat : Int) (last.toNat : Int) (w.toNat : Int) (i : Int)
      = some ((((tries (fun w => decide (w.toNat ≤ last.toNat)) d s w).1 % n).toNat : Int), ((tries (fun w => decide (w.toNat ≤ last.toNat)) d s w).2.toNat : Int), 0) := by
  have h0 := zero_b hn
  induction d with
  | zero =>
    intro k i s w hi hk
    obtain ⟨k, rfl⟩ : ∃ m, k = m + 1 := ⟨k - 1, by omega⟩
    simp only [draw_Below.l0, tries]
    rw [if_neg (by omega), if_neg h0, tmod_b]
  | succ d ih =>
    intro k i s w hi hk
    obtain ⟨k, rfl⟩ : ∃ m, k = m + 1 := ⟨k - 1, by omega⟩
    simp only [draw_Below.l0, tries]
    rw [if_pos (by omega), next_f, bnd]
    by_cases h : (mix (s + gold)).toNat ≤ last.toNat
    · rw [if_pos (Int.ofNat_le.2 h), if_neg h0, tmod_b, if_pos (decide_eq_true h)]
    · rw [if_neg (fun x => h (Int.ofNat_le.1 x)), if_neg (by simpa using h), show wrap64 ((i : Int) + 1) = ((i + 1 : Nat) : Int) by unfold wrap64; omega]
      exact ih k (i + 1) _ _ (by omega) (by omega)
/-- The greatest word that counts. -/
def lastOf (n : BitVec 64) : BitVec 64 := -(-n % n) - (BitVec.ofNat 64 1)
theorem below_f (s n : BitVec 64) (hn : n ≠ (BitVec.ofNat 64 0)) : draw_Below.f 65 (s.toNat : Int) (n.toNat : Int)
    = some ((((tries (fun w => decide (w.toNat ≤ (lastOf n).toNat)) 64 s (BitVec.ofNat 64 0)).1 % n).toNat : Int), ((tries (fun w => decide (w.toNat ≤ (lastOf n).toNat)) 64 s (BitVec.ofNat 64 0)).2.toNat : Int), 0) := by
  unfold draw_Below.f
  rw [if_neg (zero_b hn), neg_b, tmod_b, neg_b, sOne]
  exact below_l n (lastOf n) hn 64 65 0 s (BitVec.ofNat 64 0) (by omega) (by omega)
theorem refbelow_l (n L : BitVec 64) (hn : n ≠ (BitVec.ofNat 64 0)) (ok : BitVec 64 → Bool) (hok : ∀ w, ok w = decide (L = (BitVec.ofNat 64 0) ∨ w.toNat < (-L).toNat)) (d : Nat) : ∀ (k i : Nat) (s w : BitVec 64), i + d = 64 → d < k →
    stookref05_Below.l0 k (s.toNat : Int) (n.toNat : Int) (L.toNat : Int) (w.toNat : Int) (i : Int)
      = some ((((tries ok d s w).1 % n).toNat : Int), ((tries ok d s w).2.toNat : Int), 0) := by
  have h0 := zero_b hn
  induction d with
  | zero =>
    intro k i s w hi hk
    obtain ⟨k, rfl⟩ : ∃ m, k = m + 1 := ⟨k - 1, by omega⟩
    simp only [stookref05_Below.l0, tries]
    rw [if_neg (by omega), if_neg h0, tmod_b]
  | succ d ih =>
    intro k i s w hi hk
    obtain ⟨k, rfl⟩ : ∃ m, k = m + 1 := ⟨k - 1, by omega⟩
    simp only [stookref05_Below.l0, tries]
    rw [if_pos (by omega), refnext_f, bnd]
    by_cases hL : L = (BitVec.ofNat 64 0)
    · have e : ok (mix (s + gold)) = true := by rw [hok, decide_eq_true (Or.inl hL)]
      rw [if_pos (by rw [hL]; rfl), if_neg h0, tmod_b, if_pos e]
    · rw [if_neg (zero_b hL), neg_b]
      by_cases h : (mix (s + gold)).toNat < (-L).toNat
      · have e : ok (mix (s + gold)) = true := by rw [hok, decide_eq_true (Or.inr h)]
        rw [if_pos (Int.ofNat_lt.2 h), if_neg h0, tmod_b, if_pos e]
      · have e : ok (mix (s + gold)) = false := by rw [hok, decide_eq_false (fun x => x.elim hL h)]
        rw [if_neg (fun x => h (Int.ofNat_lt.1 x)), if_neg (by rw [e]; decide), show wrap64 ((i : Int) + 1) = ((i + 1 : Nat) : Int) by unfold wrap64; omega]
        exact ih k (i + 1) _ _ (by omega) (by omega)
theorem last_ok (L w : BitVec 64) : decide (w.toNat ≤ (-L - (BitVec.ofNat 64 1)).toNat) = decide (L = (BitVec.ofNat 64 0) ∨ w.toNat < (-L).toNat) := by
  have hw := w.isLt
  have hL := L.isLt
  have e1 : ((BitVec.ofNat 64 1)).toNat = 1 := rfl
  rw [decide_eq_decide]
  by_cases h : L = (BitVec.ofNat 64 0)
  · subst h
    simp only [true_or, iff_true]
    have : (-(BitVec.ofNat 64 0) - (BitVec.ofNat 64 1)).toNat = 18446744073709551615 := by decide
    omega
  · have h' : L.toNat ≠ 0 := fun e => h (BitVec.eq_of_toNat_eq (by rw [e]; rfl))
    rw [BitVec.toNat_sub, BitVec.toNat_neg, e1]
    simp only [h, false_or]
    omega
theorem refbelow_f (s n : BitVec 64) (hn : n ≠ (BitVec.ofNat 64 0)) : stookref05_Below.f 65 (s.toNat : Int) (n.toNat : Int)
    = some ((((tries (fun w => decide (w.toNat ≤ (lastOf n).toNat)) 64 s (BitVec.ofNat 64 0)).1 % n).toNat : Int), ((tries (fun w => decide (w.toNat ≤ (lastOf n).toNat)) 64 s (BitVec.ofNat 64 0)).2.toNat : Int), 0) := by
  unfold stookref05_Below.f
  rw [if_neg (zero_b hn), neg_b, tmod_b]
  exact refbelow_l n (-n % n) hn _ (fun w => last_ok (-n % n) w) 64 65 0 s (BitVec.ofNat 64 0) (by omega) (by omega)
theorem DrawBelow : stooklaw05_DrawBelow.Pure := by
  intro a b ha hb
  obtain ⟨s, rfl⟩ := bv64 (u64_wf ha).1 (u64_wf ha).2
  obtain ⟨n, rfl⟩ := bv64 (u64_wf hb).1 (u64_wf hb).2
  refine ⟨65, ?_⟩
  unfold stooklaw05_DrawBelow.f
  by_cases hn : n = (BitVec.ofNat 64 0)
  · subst hn
    unfold draw_Below.f stookref05_Below.f
    rw [if_pos (by rfl), if_pos (by rfl)]
    simp only [bnd, if_true, works_f]
  · rw [below_f s n hn, refbelow_f s n hn]
    simp only [bnd, if_true, works_f]

end Go.Proofs.Ytckpangkdlpmcaa.Pure
