/- A payload's frame is the document's: the printed statement of FramePuts. No condition. -/
import Derived.Test.YtipfcibdkbneoaaPFrame
import Derived.Test.YtipfcibdkbneoaaPAllx39
namespace Go.Proofs.Ytipfcibdkbneoaa.Pure
open Go Go.RowKit Go.Proofs.Ytipfcibdkbneoaa.PAll Go.Proofs.Ytipfcibdkbneoaa.Crc Go.Proofs.Ytipfcibdkbneoaa.Leb Go.Proofs.YtipfcibdkbneoaaVW.PrintWords Go.Proofs.YtipfcibdkbneoaaVW.PrintLast
theorem fput_len (p : List Int) : (fput p).1.length ≤ 65600 ∧ fsize (p.length : Int) = ((fput p).1.length : Int) := by
  unfold fput fsize
  by_cases h : 65536 < p.length
  · rw [if_pos h, if_pos (Or.inr (by omega))]; exact ⟨Nat.zero_le _, rfl⟩
  · have h10 := enc_ten (n := p.length) (by omega)
    rw [if_neg h, if_neg (by omega), Int.toNat_natCast]
    simp only [List.length_append, four_len]
    omega
theorem FramePuts : stooklaw03_FramePuts.Pure := by
  intro p n _ hl hw _
  have hp := Bytes.of_wf hw
  obtain ⟨h1, h2⟩ := fput_len p
  refine ⟨90000, ?_⟩
  unfold stooklaw03_FramePuts.f
  rw [frameput_f _ p hp (by omega), bnd, refframeput_f _ p hp (by omega), bnd, same_self _ _ (by omega) (by omega), bnd, if_pos rfl, if_pos rfl, fsize_f _ n (by omega), bnd, reffsize_f _ n (by omega), bnd, if_pos rfl, fsize_f _ _ (by omega), bnd, if_pos h2, frameworks_f _ (by omega), bnd]
end Go.Proofs.Ytipfcibdkbneoaa.Pure
