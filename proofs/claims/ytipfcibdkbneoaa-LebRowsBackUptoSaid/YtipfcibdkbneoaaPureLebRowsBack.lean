/- Rows and lists that are put anywhere among bytes are got there: what the printed statement of LebRowsBack asks, where the lengths together are small. Condition: the lengths' sum is at most 1048576. -/
import Derived.Test.YtipfcibdkbneoaaPLebTwo
import Derived.Test.YtipfcibdkbneoaaPAllx22
namespace Go.Proofs.Ytipfcibdkbneoaa.Pure
open Go Go.RowKit Go.Proofs.Ytipfcibdkbneoaa.PAll Go.Proofs.Ytipfcibdkbneoaa.Crc Go.Proofs.Ytipfcibdkbneoaa.Leb Go.Proofs.YtipfcibdkbneoaaVW.PrintWords Go.Proofs.YtipfcibdkbneoaaVW.PrintLast
theorem bytes_encs : ∀ l : List Nat, Bytes (encs l)
  | [] => by intro x hx; simp [encs] at hx
  | n :: l => (bytes_enc n).append (bytes_encs l)
theorem LebRowsBackU : ∀ (l0 : List Int) (l1 : List Int) (l2 : List Int), l0.length ≤ maxLen → l0.length * 1 ≤ 140737488351232 → (∀ x ∈ l0, (Lit.int .u8 x).wf = true) → l1.length ≤ maxLen → l1.length * 8 ≤ 140737488351232 → (∀ x ∈ l1, (Lit.int .u64 x).wf = true) → l2.length ≤ maxLen → l2.length * 1 ≤ 140737488351232 → (∀ x ∈ l2, (Lit.int .u8 x).wf = true) → l0.length + l1.length + l2.length ≤ 1048576 → ∃ k, stooklaw01_LebRowsBack.f k l0 l1 l2 = some true := by
  intro row l a _ _ hr _ _ hlw _ _ ha hu
  obtain ⟨l, rfl, hw⟩ := of_words l hlw
  rw [ints_len] at hu
  have h10 := enc_ten (n := l.length) (by omega)
  have h11 := enc_ten (n := row.length) (by omega)
  have he := encs_len l hw
  have e : ([] ++ a ++ (enc row.length ++ row)) ++ (enc l.length ++ encs l) = a ++ (enc row.length ++ row) ++ (enc l.length ++ encs l) := by simp
  have hb : Bytes (a ++ (enc row.length ++ row) ++ (enc l.length ++ encs l)) := ((Bytes.of_wf ha).append ((bytes_enc _).append (Bytes.of_wf hr))).append ((bytes_enc _).append (bytes_encs l))
  have hbl : (a ++ (enc row.length ++ row) ++ (enc l.length ++ encs l)).length = a.length + (enc row.length ++ row).length + (enc l.length ++ encs l).length := by simp only [List.length_append]
  have hp : (enc row.length ++ row).length = (enc row.length).length + row.length := List.length_append
  have hq : (enc l.length ++ encs l).length = (enc l.length).length + (encs l).length := List.length_append
  have g1 := rows_enc a row (enc l.length ++ encs l) row.length (Int.le_refl _) (by omega)
  have g2 := lists_enc (a ++ (enc row.length ++ row)) [] l hw l.length (Int.le_refl _) (by omega)
  rw [List.append_nil, List.length_append] at g2
  obtain ⟨k, hk⟩ : ∃ k, k = 11 * l.length + row.length + a.length + 100 := ⟨_, rfl⟩
  refine ⟨k, ?_⟩
  unfold stooklaw01_LebRowsBack.f
  rw [if_pos (by simp only [List.length_nil]; omega), bnd, putrow_f k row (by omega) (by omega), bnd, if_pos (by simp only [List.length_append, List.length_nil]; omega), bnd, putlist_f k l hw (by omega) (by omega), bnd,
    if_pos (by simp only [List.length_append, List.length_nil]; omega), bnd, e, getrow_f k _ _ _ hb (by omega) (by omega) (by omega), bnd, g1]
  simp only []
  rw [ints_len, getlist_f k _ _ _ hb (by omega) (by omega) (by omega), bnd, g2, if_pos rfl, if_pos True.intro, same_self k row (by omega) (by omega), bnd, if_pos rfl, words_self k _ (by rw [ints_len]; omega) (by rw [ints_len]; omega), bnd, if_pos rfl,
    if_pos (by rw [w64 (by omega) (by omega)]; omega), if_pos (by simp only []; omega), lebworks_f k (by omega), bnd]
end Go.Proofs.Ytipfcibdkbneoaa.Pure
