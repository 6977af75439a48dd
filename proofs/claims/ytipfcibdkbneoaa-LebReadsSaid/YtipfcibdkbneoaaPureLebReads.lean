/- What is read is the document's: the printed statement of LebReads. No condition. -/
import Derived.Test.YtipfcibdkbneoaaPLeb
import Derived.Test.YtipfcibdkbneoaaPAllx10
namespace Go.Proofs.Ytipfcibdkbneoaa.Pure
open Go Go.RowKit Go.Proofs.Ytipfcibdkbneoaa.PAll Go.Proofs.Ytipfcibdkbneoaa.Crc Go.Proofs.Ytipfcibdkbneoaa.Leb Go.Proofs.YtipfcibdkbneoaaVW.PrintWords Go.Proofs.YtipfcibdkbneoaaVW.PrintLast
theorem LebReads : stooklaw01_LebReads.Pure := by
  intro b a _ hl hw _
  have hb := Bytes.of_wf hw
  refine ⟨40, ?_⟩
  unfold stooklaw01_LebReads.f
  rw [get_f 40 b a hb (by omega) (by omega), bnd, refget_f 40 b a hb (by omega) (by omega), bnd, if_pos rfl, if_pos rfl, if_pos rfl, lebworks_f 40 (by omega), bnd]
end Go.Proofs.Ytipfcibdkbneoaa.Pure
