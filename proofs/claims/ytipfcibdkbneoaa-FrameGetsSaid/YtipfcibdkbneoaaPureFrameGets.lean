/- A payload is read as the document says: the printed statement of FrameGets. No condition. -/
import Derived.Test.YtipfcibdkbneoaaPFrame
import Derived.Test.YtipfcibdkbneoaaPAllx40
namespace Go.Proofs.Ytipfcibdkbneoaa.Pure
open Go Go.RowKit Go.Proofs.Ytipfcibdkbneoaa.PAll Go.Proofs.Ytipfcibdkbneoaa.Crc Go.Proofs.Ytipfcibdkbneoaa.Leb Go.Proofs.YtipfcibdkbneoaaVW.PrintWords Go.Proofs.YtipfcibdkbneoaaVW.PrintLast
theorem FrameGets : stooklaw03_FrameGets.Pure := by
  intro b a _ hl hw _
  have hb := Bytes.of_wf hw
  have hr : (fget b a).1.length ≤ 65536 := by
    rcases fget_cases b a hb with ⟨e, he, h⟩ | ⟨p, m, n, rfl, h, _, hp, _⟩
    · rw [h]; exact Nat.zero_le _
    · rw [h]; exact hp
  refine ⟨90000, ?_⟩
  unfold stooklaw03_FrameGets.f
  rw [frameget_f _ b a hb (by omega) (by omega), bnd, refframeget_f _ b a hb (by omega) (by omega), bnd, same_self _ _ (by omega) (by omega), bnd, if_pos rfl, if_pos rfl, if_pos rfl, frameworks_f _ (by omega), bnd]
end Go.Proofs.Ytipfcibdkbneoaa.Pure
