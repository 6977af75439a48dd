/- A number's bytes are the document's: the printed statement of LebNumbers. No condition. -/
import Derived.Test.YtipfcibdkbneoaaPLeb
import Derived.Test.YtipfcibdkbneoaaPAllx8
namespace Go.Proofs.Ytipfcibdkbneoaa.Pure
open Go Go.RowKit Go.Proofs.Ytipfcibdkbneoaa.PAll Go.Proofs.Ytipfcibdkbneoaa.Crc Go.Proofs.Ytipfcibdkbneoaa.Leb Go.Proofs.YtipfcibdkbneoaaVW.PrintWords Go.Proofs.YtipfcibdkbneoaaVW.PrintLast
theorem LebNumbers : stooklaw01_LebNumbers.Pure := by
  intro a h
  have hw := u64_wf h
  obtain ⟨n, rfl⟩ := Int.eq_ofNat_of_zero_le hw.1
  have hn : n < 18446744073709551616 := by omega
  have h10 := enc_ten hn
  refine ⟨40, ?_⟩
  unfold stooklaw01_LebNumbers.f
  rw [refput_f 40 n hn (by omega), bnd, put_f 40 n hn (by omega), bnd, same_self 40 _ (by omega) (by omega), bnd, if_pos rfl, len_f 40 n hn (by omega), bnd, if_pos rfl, lebworks_f 40 (by omega), bnd]
end Go.Proofs.Ytipfcibdkbneoaa.Pure
