/- A step of the sum, and a byte taken in, are the reference's: the printed statement of CrcSteps. No condition. -/
import Derived.Test.YtipfcibdkbneoaaPCrc
import Derived.Test.YtipfcibdkbneoaaPAllx1
namespace Go.Proofs.Ytipfcibdkbneoaa.Pure
open Go Go.RowKit Go.Proofs.Ytipfcibdkbneoaa.PAll Go.Proofs.Ytipfcibdkbneoaa.Crc Go.Proofs.YtipfcibdkbneoaaVW.PrintWords Go.Proofs.YtipfcibdkbneoaaVW.PrintLast
theorem CrcSteps : stooklaw02_CrcSteps.Pure := by
  intro a c ha hc
  obtain ⟨r, rfl⟩ := bv32 (u32_wf ha).1 (u32_wf ha).2
  obtain ⟨x, rfl⟩ := bv8 (u8_wf hc).1 (u8_wf hc).2
  refine ⟨21, ?_⟩
  unfold stooklaw02_CrcSteps.f
  simp only [step_f, refstep_f, take_f 21 (by omega), reftake_f 21 (by omega), crcworks_f 21 (by omega), bnd, if_true]
end Go.Proofs.Ytipfcibdkbneoaa.Pure
