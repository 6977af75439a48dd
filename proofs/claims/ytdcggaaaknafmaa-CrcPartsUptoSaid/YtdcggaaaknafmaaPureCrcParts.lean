/- The sum of two pieces is that of the first with the second behind, and both sums joined: what the printed statement of CrcParts asks, where the lengths together are small. Condition: the lengths' sum is at most 1048576. -/
import Derived.Test.YtdcggaaaknafmaaPJoin
import Derived.Test.YtdcggaaaknafmaaPAllx17
namespace Go.Proofs.Ytdcggaaaknafmaa.Pure
open Go Go.RowKit Go.Proofs.Ytdcggaaaknafmaa.PAll Go.Proofs.Ytdcggaaaknafmaa.Crc Go.Proofs.YtdcggaaaknafmaaVW.PrintWords Go.Proofs.YtdcggaaaknafmaaVW.PrintLast
theorem CrcPartsU : ∀ (l0 : List Int) (l1 : List Int), l0.length ≤ maxLen → l0.length * 1 ≤ 140737488351232 → (∀ x ∈ l0, (Lit.int .u8 x).wf = true) → l1.length ≤ maxLen → l1.length * 1 ≤ 140737488351232 → (∀ x ∈ l1, (Lit.int .u8 x).wf = true) → l0.length + l1.length ≤ 1048576 → ∃ k, stooklaw02_CrcParts.f k l0 l1 = some true := by
  intro a b _ _ ha _ _ hb hu
  obtain ⟨A, rfl⟩ := of_bytes a ha
  obtain ⟨B, rfl⟩ := of_bytes b hb
  rw [nat8_len, nat8_len] at hu
  obtain ⟨k, hk⟩ : ∃ k, k = 1048600 := ⟨_, rfl⟩
  refine ⟨k, ?_⟩
  unfold stooklaw02_CrcParts.f
  have hab : (A ++ B).length = A.length + B.length := List.length_append
  rw [nat8_len, if_neg (by omega), if_pos (by rw [nat8_len, List.length_nil]; omega), bnd, List.nil_append, if_pos (by rw [nat8_len]; omega), bnd, ← nat8_append, of_f k A (by omega) (by omega), bnd, of_f k B (by omega) (by omega), bnd, join_f k _ _ _ (by omega), bnd,
    of_f k (A ++ B) (by omega) (by omega), bnd, bnd, more_f k _ B (by omega) (by omega), bnd, ← sum_more, if_pos rfl, if_pos rfl, bnd, ← sum_join, if_pos rfl, crcworks_f k (by omega), bnd]
end Go.Proofs.Ytdcggaaaknafmaa.Pure
