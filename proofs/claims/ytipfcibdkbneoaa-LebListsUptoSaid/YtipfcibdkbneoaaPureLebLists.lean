/- A counted list is laid and read as the document says: what the printed statement of LebLists asks, where the lengths together are small. Condition: the lengths' sum is at most 1048576. -/
import Derived.Test.YtipfcibdkbneoaaPLebTwo
import Derived.Test.YtipfcibdkbneoaaPAllx15
namespace Go.Proofs.Ytipfcibdkbneoaa.Pure
open Go Go.RowKit Go.Proofs.Ytipfcibdkbneoaa.PAll Go.Proofs.Ytipfcibdkbneoaa.Crc Go.Proofs.Ytipfcibdkbneoaa.Leb Go.Proofs.YtipfcibdkbneoaaVW.PrintWords Go.Proofs.YtipfcibdkbneoaaVW.PrintLast
theorem LebListsU : ∀ (l0 : List Int) (l1 : List Int) (a2 : Int) (a3 : Int), l0.length ≤ maxLen → l0.length * 8 ≤ 140737488351232 → (∀ x ∈ l0, (Lit.int .u64 x).wf = true) → l1.length ≤ maxLen → l1.length * 1 ≤ 140737488351232 → (∀ x ∈ l1, (Lit.int .u8 x).wf = true) → (Lit.int .i64 a2).wf = true → (Lit.int .i64 a3).wf = true → l0.length + l1.length ≤ 1048576 → ∃ k, stooklaw01_LebLists.f k l0 l1 a2 a3 = some true := by
  intro l b a most _ _ hlw _ _ hbw _ hm hu
  have hb := Bytes.of_wf hbw
  have hm2 := i64_wf hm
  obtain ⟨l, rfl, hw⟩ := of_words l hlw
  rw [ints_len] at hu
  have h10 := enc_ten (n := l.length) (by omega)
  have he := encs_len l hw
  have hrl := lists_len b a most hb (by omega)
  obtain ⟨k, hk⟩ : ∃ k, k = 11 * l.length + b.length + 60 := ⟨_, rfl⟩
  refine ⟨k, ?_⟩
  unfold stooklaw01_LebLists.f
  rw [getlist_f k b a most hb (by omega) (by omega) (by omega), bnd, refgetlist_f k b a most hb (by omega) (by omega) (by omega), bnd, putlist_f k l hw (by omega) (by omega), bnd, refputlist_f k l hw (by omega) (by omega), bnd,
    same_self k _ (by rw [List.length_append]; omega) (by rw [List.length_append]; omega), bnd, if_pos rfl, words_self k _ (by omega) (by omega), bnd, if_pos rfl, if_pos rfl, if_pos rfl, lebworks_f k (by omega), bnd]
end Go.Proofs.Ytipfcibdkbneoaa.Pure
