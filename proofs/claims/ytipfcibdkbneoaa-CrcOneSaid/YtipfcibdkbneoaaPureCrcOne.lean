/- Unlike numbers are unlike behind a step, and behind a byte that is taken in: the printed statement of CrcOne. No condition. -/
import Derived.Test.YtipfcibdkbneoaaPCrc
import Derived.Test.YtipfcibdkbneoaaPAllx3
namespace Go.Proofs.Ytipfcibdkbneoaa.Pure
open Go Go.RowKit Go.Proofs.Ytipfcibdkbneoaa.PAll Go.Proofs.Ytipfcibdkbneoaa.Crc Go.Proofs.YtipfcibdkbneoaaVW.PrintWords Go.Proofs.YtipfcibdkbneoaaVW.PrintLast
theorem CrcOne : stooklaw02_CrcOne.Pure := by
  intro a b c ha hb hc
  obtain ⟨r, rfl⟩ := bv32 (u32_wf ha).1 (u32_wf ha).2
  obtain ⟨s, rfl⟩ := bv32 (u32_wf hb).1 (u32_wf hb).2
  obtain ⟨x, rfl⟩ := bv8 (u8_wf hc).1 (u8_wf hc).2
  refine ⟨21, ?_⟩
  unfold stooklaw02_CrcOne.f
  simp only [step_f, take_f 21 (by omega), crcworks_f 21 (by omega), bnd, beq32, step_inj, take_inj, beq_self_eq_true, if_true]
end Go.Proofs.Ytipfcibdkbneoaa.Pure
