/- A row that is put anywhere among bytes is got there: what the printed statement of PackBack asks, where the lengths together are small. Condition: the lengths' sum is at most 1048576. -/
import Derived.Test.YtipfcibdkbneoaaPPack
import Derived.Test.YtipfcibdkbneoaaPAllx33
namespace Go.Proofs.Ytipfcibdkbneoaa.Pure
open Go Go.RowKit Go.Proofs.Ytipfcibdkbneoaa.PAll Go.Proofs.Ytipfcibdkbneoaa.Crc Go.Proofs.Ytipfcibdkbneoaa.Leb Go.Proofs.Ytipfcibdkbneoaa.Pack Go.Proofs.YtipfcibdkbneoaaVW.PrintWords Go.Proofs.YtipfcibdkbneoaaVW.PrintLast
theorem PackBackU : ∀ (l0 : List Int) (l1 : List Int) (l2 : List Int), l0.length ≤ maxLen → l0.length * 8 ≤ 140737488351232 → (∀ x ∈ l0, (Lit.int .i64 x).wf = true) → l1.length ≤ maxLen → l1.length * 1 ≤ 140737488351232 → (∀ x ∈ l1, (Lit.int .u8 x).wf = true) → l2.length ≤ maxLen → l2.length * 1 ≤ 140737488351232 → (∀ x ∈ l2, (Lit.int .u8 x).wf = true) → l0.length + l1.length + l2.length ≤ 1048576 → ∃ k, stooklaw12_PackBack.f k l0 l1 l2 = some true := by
  intro l a c _ _ _ _ _ ha _ _ hc hu
  have hp := put_len l
  have hpb := put_bytes l
  have hb : Bytes (a ++ (put l).1 ++ c) := ((Bytes.of_wf ha).append hpb).append (Bytes.of_wf hc)
  obtain ⟨k, hk⟩ : ∃ k, k = 200001 + l.length := ⟨_, rfl⟩
  refine ⟨k, ?_⟩
  have w := packworks_f k (by omega)
  unfold stooklaw12_PackBack.f
  rw [packput_f k l (by omega), bnd]
  by_cases h0 : (put l).2 = 0
  · have hg := row_put l (put l).1 a c (by rw [← h0])
    rw [if_pos h0, if_pos (by simp only [List.length_nil]; omega), bnd, List.nil_append, if_pos (by omega), bnd, if_pos (by rw [List.length_append]; omega), packget_f k _ _ hb (by simp only [List.length_append]; omega) (by omega), bnd, hg, if_pos rfl,
      ints_self k l (by omega) (by omega), bnd, if_pos rfl, if_pos (by rw [w64 (by omega) (by omega)]; simp only []; omega), w, bnd]
  · rw [if_neg h0, put_no l h0, if_pos (by simp), w, bnd]
end Go.Proofs.Ytipfcibdkbneoaa.Pure
