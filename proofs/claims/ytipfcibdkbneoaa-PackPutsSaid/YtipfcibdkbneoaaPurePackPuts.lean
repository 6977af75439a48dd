/- A row's bytes are the document's: the printed statement of PackPuts. No condition. -/
import Derived.Test.YtipfcibdkbneoaaPPack
import Derived.Test.YtipfcibdkbneoaaPAllx20
namespace Go.Proofs.Ytipfcibdkbneoaa.Pure
open Go Go.RowKit Go.Proofs.Ytipfcibdkbneoaa.PAll Go.Proofs.Ytipfcibdkbneoaa.Crc Go.Proofs.Ytipfcibdkbneoaa.Leb Go.Proofs.Ytipfcibdkbneoaa.Pack Go.Proofs.YtipfcibdkbneoaaVW.PrintWords Go.Proofs.YtipfcibdkbneoaaVW.PrintLast
theorem PackPuts : stooklaw12_PackPuts.Pure := by
  intro l _ _ _
  have hp := put_len l
  refine ⟨200001, ?_⟩
  unfold stooklaw12_PackPuts.f
  rw [packput_f _ l (by omega), bnd, refpackput_f _ l (by omega), bnd, size_f _ l (by omega), bnd, same_self _ _ (by omega) (by omega), bnd, if_pos rfl, if_pos rfl, if_pos rfl, if_pos rfl, packworks_f _ (by omega), bnd]
end Go.Proofs.Ytipfcibdkbneoaa.Pure
