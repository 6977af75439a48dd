/- A counted row is laid and read as the document says: the printed statement of LebRows. No condition. -/
import Derived.Test.YtipfcibdkbneoaaPLebTwo
import Derived.Test.YtipfcibdkbneoaaPAllx14
namespace Go.Proofs.Ytipfcibdkbneoaa.Pure
open Go Go.RowKit Go.Proofs.Ytipfcibdkbneoaa.PAll Go.Proofs.Ytipfcibdkbneoaa.Crc Go.Proofs.Ytipfcibdkbneoaa.Leb Go.Proofs.YtipfcibdkbneoaaVW.PrintWords Go.Proofs.YtipfcibdkbneoaaVW.PrintLast
theorem LebRows : stooklaw01_LebRows.Pure := by
  intro l b a most _ hl _ _ hb0 hbw _ hm
  have hb := Bytes.of_wf hbw
  have hm2 := i64_wf hm
  have h10 := enc_ten (n := l.length) (by omega)
  have hrl := rows_len b a most
  obtain ⟨k, hk⟩ : ∃ k, k = l.length + b.length + 60 := ⟨_, rfl⟩
  refine ⟨k, ?_⟩
  unfold stooklaw01_LebRows.f
  rw [getrow_f k b a most hb (by omega) (by omega) (by omega), bnd, refgetrow_f k b a most hb (by omega) (by omega) (by omega), bnd, putrow_f k l (by omega) (by omega), bnd, refputrow_f k l (by omega) (by omega), bnd,
    same_self k _ (by rw [List.length_append]; omega) (by rw [List.length_append]; omega), bnd, if_pos rfl, same_self k _ (by omega) (by omega), bnd, if_pos rfl, if_pos rfl, if_pos rfl, lebworks_f k (by omega), bnd]
end Go.Proofs.Ytipfcibdkbneoaa.Pure
