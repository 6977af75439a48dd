/- A number that is put anywhere among bytes is got there: what the printed statement of LebBack asks, where the lengths together are small. Condition: the lengths' sum is at most 1048576. -/
import Derived.Test.YtipfcibdkbneoaaPLeb
import Derived.Test.YtipfcibdkbneoaaPAllx10
namespace Go.Proofs.Ytipfcibdkbneoaa.Pure
open Go Go.RowKit Go.Proofs.Ytipfcibdkbneoaa.PAll Go.Proofs.Ytipfcibdkbneoaa.Crc Go.Proofs.Ytipfcibdkbneoaa.Leb Go.Proofs.YtipfcibdkbneoaaVW.PrintWords Go.Proofs.YtipfcibdkbneoaaVW.PrintLast
theorem LebBackU : ∀ (a0 : Int) (l1 : List Int) (l2 : List Int), (Lit.int .u64 a0).wf = true → l1.length ≤ maxLen → l1.length * 1 ≤ 140737488351232 → (∀ x ∈ l1, (Lit.int .u8 x).wf = true) → l2.length ≤ maxLen → l2.length * 1 ≤ 140737488351232 → (∀ x ∈ l2, (Lit.int .u8 x).wf = true) → l1.length + l2.length ≤ 1048576 → ∃ k, stooklaw01_LebBack.f k a0 l1 l2 = some true := by
  intro a l m ha _ _ hl _ _ hm hu
  have hw := u64_wf ha
  obtain ⟨n, rfl⟩ := Int.eq_ofNat_of_zero_le hw.1
  have hn : n < 18446744073709551616 := by omega
  have h10 := enc_ten hn
  have hb : Bytes (l ++ enc n ++ m) := ((Bytes.of_wf hl).append (bytes_enc n)).append (Bytes.of_wf hm)
  refine ⟨40, ?_⟩
  unfold stooklaw01_LebBack.f
  rw [if_pos (by simp only [List.length_nil]; omega), bnd, List.nil_append, put_f 40 n hn (by omega), bnd, if_pos (by omega), bnd, if_pos (by simp only [List.length_append]; omega),
    get_f 40 _ _ hb (by simp only [List.length_append]; omega) (by omega), bnd, gets_enc l n m hn, if_pos rfl, if_pos rfl, if_pos (by rw [w64 (by omega) (by omega)]; simp only []; omega), len_f 40 n hn (by omega), bnd, if_pos rfl, lebworks_f 40 (by omega), bnd]
end Go.Proofs.Ytipfcibdkbneoaa.Pure
