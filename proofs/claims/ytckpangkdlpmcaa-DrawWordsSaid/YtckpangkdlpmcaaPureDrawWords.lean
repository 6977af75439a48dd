/- The printed statement DrawWords, about whole numbers alone. No condition. -/
import Derived.Test.YtckpangkdlpmcaaPDrawWordsx1
import Derived.Test.YtckpangkdlpmcaaBits
namespace Go.Proofs.Ytckpangkdlpmcaa.Pure
open Go Go.RowKit Go.Proofs.Ytckpangkdlpmcaa.PDrawWords Go.Proofs.Ytckpangkdlpmcaa.Bits Go.Proofs.YtckpangkdlpmcaaW.PrintWords Go.Proofs.YtckpangkdlpmcaaW.PrintLast
theorem mix_f (z : BitVec 64) : draw_Mix.f (z.toNat : Int) = some ((mix z).toNat : Int) := by
  unfold draw_Mix.f
  simp only [e30, e27, e31, xor_b, m1, m2]
  rfl
theorem next_f (z : BitVec 64) : draw_Next.f (z.toNat : Int) = some (((mix (z + gold)).toNat : Int), ((z + gold).toNat : Int)) := by
  unfold draw_Next.f
  rw [aGold, mix_f]
  rfl
theorem next_zero : draw_Next.f 0 = some (16294208416658607535, 11400714819323198485) := by
  have h := next_f (BitVec.ofNat 64 0)
  rw [g1, g2] at h
  exact h
theorem works_f : stooklaw05_works.f = some true := by
  unfold stooklaw05_works.f
  rw [next_zero, bnd]
  simp only [if_true, beq_self_eq_true]
theorem refmix_f (z : BitVec 64) : stookref05_Mix.f (z.toNat : Int) = some ((mix z).toNat : Int) := by
  unfold stookref05_Mix.f
  simp only [e30, e27, e31, xor_b, m1, m2]
  rfl
theorem refnext_f (z : BitVec 64) : stookref05_Next.f (z.toNat : Int) = some (((mix (z + gold)).toNat : Int), ((z + gold).toNat : Int)) := by
  unfold stookref05_Next.f
  rw [aGold, refmix_f]
  rfl
theorem word_f (z : BitVec 64) (i : Int) : draw_Word.f (z.toNat : Int) i = if i < 0 then some (0, 2) else some (((mix (z + gold * (BitVec.ofInt 64 i + (BitVec.ofNat 64 1)))).toNat : Int), 0) := by
  unfold draw_Word.f
  split
  · rfl
  · rw [wrap64_ofInt i, aOne, mGold, add_b, mix_f]
    rfl
theorem refword_f (z : BitVec 64) (i : Int) : stookref05_Word.f (z.toNat : Int) i = if i < 0 then some (0, 2) else some (((mix (z + gold * (BitVec.ofInt 64 i + (BitVec.ofNat 64 1)))).toNat : Int), 0) := by
  unfold stookref05_Word.f
  split
  · rfl
  · rw [wrap64_ofInt i, aOne, mGold', add_b, refmix_f, BitVec.mul_comm]
    rfl
theorem DrawWords : stooklaw05_DrawWords.Pure := by
  intro a i ha hi
  obtain ⟨x, rfl⟩ := bv64 (u64_wf ha).1 (u64_wf ha).2
  unfold stooklaw05_DrawWords.f
  simp only [next_f, refnext_f, word_f, refword_f, works_f, bnd, if_true]
  by_cases h : i < 0
  · simp only [if_pos h, bnd, if_true]
  · simp only [if_neg h, bnd, if_true]

end Go.Proofs.Ytckpangkdlpmcaa.Pure
