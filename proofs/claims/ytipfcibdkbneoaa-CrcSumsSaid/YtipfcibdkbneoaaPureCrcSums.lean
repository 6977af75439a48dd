/- The sum of bytes, and of more behind any sum, is the reference's: the printed statement of CrcSums. No condition. -/
import Derived.Test.YtipfcibdkbneoaaPCrc
import Derived.Test.YtipfcibdkbneoaaPAllx2
namespace Go.Proofs.Ytipfcibdkbneoaa.Pure
open Go Go.RowKit Go.Proofs.Ytipfcibdkbneoaa.PAll Go.Proofs.Ytipfcibdkbneoaa.Crc Go.Proofs.YtipfcibdkbneoaaVW.PrintWords Go.Proofs.YtipfcibdkbneoaaVW.PrintLast
theorem CrcSums : stooklaw02_CrcSums.Pure := by
  intro a l ha _ hl hw
  obtain ⟨s, rfl⟩ := bv32 (u32_wf ha).1 (u32_wf ha).2
  obtain ⟨m, rfl⟩ := of_bytes l hw
  have hm : m.length ≤ 140737488355328 := by rw [nat8_len] at hl; omega
  refine ⟨m.length + 21, ?_⟩
  unfold stooklaw02_CrcSums.f
  simp only [of_f _ m hm (show m.length + 8 < m.length + 21 by omega), refof_f _ m hm (show m.length + 8 < m.length + 21 by omega), more_f _ s m hm (show m.length + 8 < m.length + 21 by omega),
    refmore_f _ s m hm (show m.length + 8 < m.length + 21 by omega), crcworks_f (m.length + 21) (by omega), bnd, if_true]
end Go.Proofs.Ytipfcibdkbneoaa.Pure
