/- The printed statement DrawRow, about whole numbers alone. No condition. -/
import Derived.Test.YtckpangkdlpmcaaPDrawRowx1
import Derived.Test.YtckpangkdlpmcaaBits
namespace Go.Proofs.Ytckpangkdlpmcaa.Pure
open Go Go.RowKit Go.Proofs.Ytckpangkdlpmcaa.PDrawRow Go.Proofs.Ytckpangkdlpmcaa.Bits Go.Proofs.YtckpangkdlpmcaaW.PrintWords Go.Proofs.YtckpangkdlpmcaaW.PrintLast
theorem mix_f (z : BitVec 64) : draw_Mix.f (z.toNat : Int) = some ((mix z).toNat : Int) := by
  unfold draw_Mix.f
  simp only [e30, e27, e31, xor_b, m1, m2]
  rfl
theorem next_f (z : BitVec 64) : draw_Next.f (z.toNat : Int) = some (((mix (z + gold)).toNat : Int), ((z + gold).toNat : Int)) := by
  unfold draw_Next.f
  rw [aGold, mix_f]
  rfl
theorem next_zero : draw_Next.f 0 = some (16294208416658607535, 11400714819323198485) := by
  have h := next_f (BitVec.ofNat 64 0)
  rw [g1, g2] at h
  exact h
theorem works_f : stooklaw05_works.f = some true := by
  unfold stooklaw05_works.f
  rw [next_zero, bnd]
  simp only [if_true, beq_self_eq_true]
theorem word_f (z : BitVec 64) (i : Int) : draw_Word.f (z.toNat : Int) i = if i < 0 then some (0, 2) else some (((mix (z + gold * (BitVec.ofInt 64 i + (BitVec.ofNat 64 1)))).toNat : Int), 0) := by
  unfold draw_Word.f
  split
  · rfl
  · rw [wrap64_ofInt i, aOne, mGold, add_b, mix_f]
    rfl
theorem row_l (x : BitVec 64) (m : Nat) (hm : m < 256) (d : Nat) : ∀ (k i : Nat) (s : BitVec 64), i + d = m → d < k → s = x + gold * BitVec.ofNat 64 i →
    stooklaw05_DrawRow.l0 k (x.toNat : Int) (m : Int) (s.toNat : Int) (i : Int) = some true := by
  induction d with
  | zero =>
    intro k i s hi hk hs
    obtain ⟨k, rfl⟩ : ∃ m, k = m + 1 := ⟨k - 1, by omega⟩
    simp only [stooklaw05_DrawRow.l0]
    rw [if_neg (by unfold wrap64; omega), works_f]
    rfl
  | succ d ih =>
    intro k i s hi hk hs
    obtain ⟨k, rfl⟩ : ∃ m, k = m + 1 := ⟨k - 1, by omega⟩
    simp only [stooklaw05_DrawRow.l0]
    have e : x + gold * (BitVec.ofNat 64 i + (BitVec.ofNat 64 1)) = s + gold := by
      rw [hs, BitVec.mul_add, BitVec.mul_one, BitVec.add_assoc]
    have e' : BitVec.ofInt 64 (i : Int) = BitVec.ofNat 64 i := by simp
    rw [if_pos (by unfold wrap64; omega), next_f, word_f, if_neg (by omega)]
    simp only [bnd, e', e, if_true]
    rw [show wrap64 ((i : Int) + 1) = ((i + 1 : Nat) : Int) by unfold wrap64; omega]
    exact ih k (i + 1) (s + gold) (by omega) (by omega) (by
      rw [hs, BitVec.add_assoc, show BitVec.ofNat 64 (i + 1) = BitVec.ofNat 64 i + (BitVec.ofNat 64 1) from BitVec.ofNat_add i 1, BitVec.mul_add, BitVec.mul_one])
theorem DrawRow : stooklaw05_DrawRow.Pure := by
  intro a m ha hm
  obtain ⟨x, rfl⟩ := bv64 (u64_wf ha).1 (u64_wf ha).2
  have h8 : 0 ≤ m ∧ m < 256 := by
    simp only [Lit.wf, Bool.and_eq_true, decide_eq_true_eq] at hm
    have h1 : IntKind.u8.min = 0 := by decide
    have h2 : IntKind.u8.max = 255 := by decide
    omega
  obtain ⟨n, rfl⟩ := Int.eq_ofNat_of_zero_le h8.1
  refine ⟨n + 1, ?_⟩
  unfold stooklaw05_DrawRow.f
  exact row_l x n (by omega) n (n + 1) 0 x (by omega) (by omega) (by simp)

end Go.Proofs.Ytckpangkdlpmcaa.Pure
