/- The printed statement DrawStates, about whole numbers alone. No condition. -/
import Derived.Test.YtckpangkdlpmcaaPDrawStatesx1
import Derived.Test.YtckpangkdlpmcaaBits
namespace Go.Proofs.Ytckpangkdlpmcaa.Pure
open Go Go.RowKit Go.Proofs.Ytckpangkdlpmcaa.PDrawStates Go.Proofs.Ytckpangkdlpmcaa.Bits Go.Proofs.YtckpangkdlpmcaaW.PrintWords Go.Proofs.YtckpangkdlpmcaaW.PrintLast
theorem mix_f (z : BitVec 64) : draw_Mix.f (z.toNat : Int) = some ((mix z).toNat : Int) := by
  unfold draw_Mix.f
  simp only [e30, e27, e31, xor_b, m1, m2]
  rfl
theorem unmix_f (z : BitVec 64) : draw_Unmix.f (z.toNat : Int) = some ((unmix z).toNat : Int) := by
  unfold draw_Unmix.f
  simp only [e30, e27, e31, e60, e54, e62, xor_b, m3, m4]
  rfl
theorem next_f (z : BitVec 64) : draw_Next.f (z.toNat : Int) = some (((mix (z + gold)).toNat : Int), ((z + gold).toNat : Int)) := by
  unfold draw_Next.f
  rw [aGold, mix_f]
  rfl
theorem next_zero : draw_Next.f 0 = some (16294208416658607535, 11400714819323198485) := by
  have h := next_f (BitVec.ofNat 64 0)
  rw [g1, g2] at h
  exact h
theorem works_f : stooklaw05_works.f = some true := by
  unfold stooklaw05_works.f
  rw [next_zero, bnd]
  simp only [if_true, beq_self_eq_true]
theorem DrawStates : stooklaw05_DrawStates.Pure := by
  intro a b ha hb
  obtain ⟨x, rfl⟩ := bv64 (u64_wf ha).1 (u64_wf ha).2
  obtain ⟨y, rfl⟩ := bv64 (u64_wf hb).1 (u64_wf hb).2
  unfold stooklaw05_DrawStates.f
  simp only [next_f, unmix_f, works_f, bnd, unmix_mix, if_true, beq_b, mix_inj, BEq.rfl, BitVec.add_left_inj]

end Go.Proofs.Ytckpangkdlpmcaa.Pure
