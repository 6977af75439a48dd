/- A row is read as the document says: the printed statement of PackGets. No condition. -/
import Derived.Test.YtipfcibdkbneoaaPPack
import Derived.Test.YtipfcibdkbneoaaPAllx18
namespace Go.Proofs.Ytipfcibdkbneoaa.Pure
open Go Go.RowKit Go.Proofs.Ytipfcibdkbneoaa.PAll Go.Proofs.Ytipfcibdkbneoaa.Crc Go.Proofs.Ytipfcibdkbneoaa.Leb Go.Proofs.Ytipfcibdkbneoaa.Pack Go.Proofs.YtipfcibdkbneoaaVW.PrintWords Go.Proofs.YtipfcibdkbneoaaVW.PrintLast
theorem PackGets : stooklaw12_PackGets.Pure := by
  intro b a _ hl hw _
  have hb := Bytes.of_wf hw
  have hr := row_len b a hb
  refine ⟨200001, ?_⟩
  unfold stooklaw12_PackGets.f
  rw [packget_f _ b a hb (by omega) (by omega), bnd, refpackget_f _ b a hb (by omega) (by omega), bnd, ints_self _ _ (by omega) (by omega), bnd, if_pos rfl, if_pos rfl, if_pos rfl, packworks_f _ (by omega), bnd]
end Go.Proofs.Ytipfcibdkbneoaa.Pure
