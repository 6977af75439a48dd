/- A greater number has no fewer bytes: the printed statement of LebLens. No condition. -/
import Derived.Test.YtipfcibdkbneoaaPLeb
import Derived.Test.YtipfcibdkbneoaaPAllx12
namespace Go.Proofs.Ytipfcibdkbneoaa.Pure
open Go Go.RowKit Go.Proofs.Ytipfcibdkbneoaa.PAll Go.Proofs.Ytipfcibdkbneoaa.Crc Go.Proofs.Ytipfcibdkbneoaa.Leb Go.Proofs.YtipfcibdkbneoaaVW.PrintWords Go.Proofs.YtipfcibdkbneoaaVW.PrintLast
theorem LebLens : stooklaw01_LebLens.Pure := by
  intro a b ha hb
  have hwa := u64_wf ha
  have hwb := u64_wf hb
  obtain ⟨n, rfl⟩ := Int.eq_ofNat_of_zero_le hwa.1
  obtain ⟨m, rfl⟩ := Int.eq_ofNat_of_zero_le hwb.1
  have hn : n < 18446744073709551616 := by omega
  have hm : m < 18446744073709551616 := by omega
  have h1 := enc_pos n
  have h2 := enc_ten hn
  have h3 := enc_top hn
  refine ⟨40, ?_⟩
  unfold stooklaw01_LebLens.f
  have h4 : ((((enc n).length : Int) == 10) != (decide ((n : Int) ≥ 9223372036854775808))) = false := by
    by_cases h : 9223372036854775808 ≤ n
    · have := h3.2 h
      rw [decide_eq_true (by omega), beq_iff_eq.2 (show ((enc n).length : Int) = 10 by omega)]; rfl
    · have : ¬ (enc n).length = 10 := fun q => h (h3.1 q)
      rw [decide_eq_false (by omega), beq_eq_false_iff_ne.2 (show ((enc n).length : Int) ≠ 10 by omega)]; rfl
  rw [len_f 40 n hn (by omega), bnd, len_f 40 m hm (by omega), bnd, if_neg (by omega), if_neg (by omega), h4, if_neg (by decide)]
  have w := lebworks_f 40 (by omega)
  by_cases g1 : (n : Int) > m
  · have := enc_mono (show m ≤ n by omega)
    rw [if_pos g1, if_neg (by omega), if_pos (by omega), w, bnd]
  · have := enc_mono (show n ≤ m by omega)
    rw [if_neg g1, if_pos (by omega)]
    by_cases g2 : (n : Int) < m
    · rw [if_pos g2, w, bnd]
    · have := enc_mono (show m ≤ n by omega)
      rw [if_neg g2, if_pos (by omega), w, bnd]
end Go.Proofs.Ytipfcibdkbneoaa.Pure
