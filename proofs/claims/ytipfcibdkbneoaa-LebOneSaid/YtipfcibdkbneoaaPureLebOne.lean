/- What is read is what is put of it: the printed statement of LebOne. No condition. -/
import Derived.Test.YtipfcibdkbneoaaPLeb
import Derived.Test.YtipfcibdkbneoaaPAllx11
namespace Go.Proofs.Ytipfcibdkbneoaa.Pure
open Go Go.RowKit Go.Proofs.Ytipfcibdkbneoaa.PAll Go.Proofs.Ytipfcibdkbneoaa.Crc Go.Proofs.Ytipfcibdkbneoaa.Leb Go.Proofs.YtipfcibdkbneoaaVW.PrintWords Go.Proofs.YtipfcibdkbneoaaVW.PrintLast
theorem LebOne : stooklaw01_LebOne.Pure := by
  intro b a _ hl hw _
  have hb := Bytes.of_wf hw
  refine ⟨40, ?_⟩
  unfold stooklaw01_LebOne.f
  have w := lebworks_f 40 (by omega)
  rw [get_f 40 b a hb (by omega) (by omega), bnd]
  rcases gets_cases b a hb with ⟨e, he, h⟩ | ⟨v, n, m, rfl, h, hv, hen, hmn, h1, h10⟩
  · rw [h, if_neg he, if_pos rfl, if_pos rfl, w, bnd]
  · have h2 := enc_ten hv
    rw [h, if_pos rfl, if_pos (by omega)]
    simp only []
    rw [if_pos (by omega), if_pos (by omega), put_f 40 v hv (by omega), bnd, if_pos (by omega), if_pos (by omega), Int.toNat_natCast, Int.toNat_natCast, List.drop_take, show m + n - m = n by omega, ← hen, same_self 40 _ (by omega) (by omega), bnd, if_pos rfl, w, bnd]
end Go.Proofs.Ytipfcibdkbneoaa.Pure
