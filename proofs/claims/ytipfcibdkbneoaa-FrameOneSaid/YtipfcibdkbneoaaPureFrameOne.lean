/- What is read is what is put of it: the printed statement of FrameOne. No condition. -/
import Derived.Test.YtipfcibdkbneoaaPFrame
import Derived.Test.YtipfcibdkbneoaaPAllx43
namespace Go.Proofs.Ytipfcibdkbneoaa.Pure
open Go Go.RowKit Go.Proofs.Ytipfcibdkbneoaa.PAll Go.Proofs.Ytipfcibdkbneoaa.Crc Go.Proofs.Ytipfcibdkbneoaa.Leb Go.Proofs.YtipfcibdkbneoaaVW.PrintWords Go.Proofs.YtipfcibdkbneoaaVW.PrintLast
theorem FrameOne : stooklaw03_FrameOne.Pure := by
  intro b a _ hl hw _
  have hb := Bytes.of_wf hw
  have w := frameworks_f 90000 (by omega)
  refine ⟨90000, ?_⟩
  unfold stooklaw03_FrameOne.f
  rw [frameget_f _ b a hb (by omega) (by omega), bnd]
  rcases fget_cases b a hb with ⟨e, he, h⟩ | ⟨p, m, n, rfl, h, hput, hp, hn, hmn⟩
  · rw [h, if_neg he, if_pos (by simp), if_pos rfl, w, bnd]
  · have hpb : Bytes p := by
      have h1 : Bytes (fput p).1 := by rw [hput]; exact (hb.drop m).take n
      unfold fput at h1
      rw [if_neg (by omega)] at h1
      exact fun x hx => h1 x (List.mem_append_left _ (List.mem_append_right _ hx))
    have h10 := enc_ten (n := p.length) (by omega)
    have hs : fsize (p.length : Int) = (n : Int) := by
      unfold fsize
      rw [if_neg (by omega), Int.toNat_natCast]; omega
    have ht : ((b.drop m).take n).length = n := by rw [List.length_take, List.length_drop]; omega
    rw [h, if_pos rfl]
    simp only []
    rw [frameput_f _ p hpb (by omega), bnd, hput]
    simp only []
    rw [if_pos True.intro, if_pos (by omega), if_pos (by omega), if_pos (by omega), fsize_f _ _ (by omega), bnd, hs, w64 (by omega) (by omega), if_pos (by omega), if_pos (by omega), if_pos (by omega), Int.toNat_natCast, Int.toNat_natCast, List.drop_take, show m + n - m = n by omega,
      same_self _ _ (by omega) (by omega), bnd, if_pos rfl, w, bnd]
end Go.Proofs.Ytipfcibdkbneoaa.Pure
