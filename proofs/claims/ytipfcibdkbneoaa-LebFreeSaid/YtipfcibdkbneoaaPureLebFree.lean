/- No number's bytes are a beginning of another one's: the printed statement of LebFree. No condition. -/
import Derived.Test.YtipfcibdkbneoaaPLeb
import Derived.Test.YtipfcibdkbneoaaPAllx12
namespace Go.Proofs.Ytipfcibdkbneoaa.Pure
open Go Go.RowKit Go.Proofs.Ytipfcibdkbneoaa.PAll Go.Proofs.Ytipfcibdkbneoaa.Crc Go.Proofs.Ytipfcibdkbneoaa.Leb Go.Proofs.YtipfcibdkbneoaaVW.PrintWords Go.Proofs.YtipfcibdkbneoaaVW.PrintLast
theorem LebFree : stooklaw01_LebFree.Pure := by
  intro a b ha hb
  have hwa := u64_wf ha
  have hwb := u64_wf hb
  obtain ⟨n, rfl⟩ := Int.eq_ofNat_of_zero_le hwa.1
  obtain ⟨m, rfl⟩ := Int.eq_ofNat_of_zero_le hwb.1
  have hn : n < 18446744073709551616 := by omega
  have hm : m < 18446744073709551616 := by omega
  have h2 := enc_ten hn
  have h3 := enc_ten hm
  refine ⟨41, ?_⟩
  unfold stooklaw01_LebFree.f
  have w := lebworks_f 40 (by omega)
  rw [put_f 41 n hn (by omega), bnd, put_f 41 m hm (by omega), bnd]
  by_cases h : (n : Int) = m
  · rw [if_pos h]
    simp only [stooklaw01_LebFree.j0, if_true]
    rw [w, bnd]
  · rw [if_neg h]
    by_cases g : ((enc n).length : Int) > (enc m).length
    · rw [decide_eq_true g]
      simp only [stooklaw01_LebFree.j0, if_true]
      rw [w, bnd]
    · rw [decide_eq_false g]
      simp only [stooklaw01_LebFree.j0, Bool.false_eq_true, if_false]
      rw [if_pos (by omega), if_pos (by omega), Int.toNat_natCast, same_f 40 _ _ (by omega) (by omega), bnd, if_neg, w, bnd]
      intro q
      have e := of_decide_eq_true q
      have := enc_free hn hm ((enc m).drop (enc n).length) (by conv => lhs; lhs; rw [e]
                                                               exact List.take_append_drop _ _)
      omega
end Go.Proofs.Ytipfcibdkbneoaa.Pure
