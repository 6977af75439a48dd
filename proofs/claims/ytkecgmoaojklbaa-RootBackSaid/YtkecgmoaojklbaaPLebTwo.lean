/- What the printed functions for counted rows come to, leb's and the reference's. No condition. -/
import Derived.Test.YtkecgmoaojklbaaPLeb
namespace Go.Proofs.Ytkecgmoaojklbaa.Pure
open Go Go.RowKit Go.Proofs.Ytkecgmoaojklbaa.PAll Go.Proofs.Ytkecgmoaojklbaa.Crc Go.Proofs.Ytkecgmoaojklbaa.Leb Go.Proofs.YtkecgmoaojklbaaVW.PrintWords Go.Proofs.YtkecgmoaojklbaaVW.PrintLast

/-- A number that is at most most. -/
def cnt (b : List Int) (a most : Int) : Int × Int × Int :=
  if (gets b a).2.2 = 0 then (if most < 0 then (0, 0, 3) else (if (gets b a).1 > IntKind.u64.wrap most then (0, 0, 3) else (wrap64 (gets b a).1, (gets b a).2.1, 0))) else (0, 0, (gets b a).2.2)
theorem ite_some {α : Type} (c : Prop) [Decidable c] (x y : α) : (if c then some x else some y) = some (if c then x else y) := by split <;> rfl
theorem cnt_cases (b : List Int) (a most : Int) (hb : Bytes b) (hm : most < 9223372036854775808) :
    (∃ e, e ≠ 0 ∧ cnt b a most = (0, 0, e)) ∨ ∃ v n m : Nat, a = (m : Int) ∧ (v : Int) ≤ most ∧ cnt b a most = ((v : Int), ((m + n : Nat) : Int), 0) ∧ enc v = (b.drop m).take n ∧ m + n ≤ b.length ∧ 1 ≤ n ∧ n ≤ 10 := by
  unfold cnt
  rcases gets_cases b a hb with ⟨e, he, h⟩ | ⟨v, n, m, rfl, h, hv, hen, hmn, h1, h10⟩
  · rw [h, if_neg he]
    exact Or.inl ⟨e, he, rfl⟩
  · rw [h, if_pos rfl]
    by_cases h2 : most < 0
    · rw [if_pos h2]; exact Or.inl ⟨3, by decide, rfl⟩
    · rw [if_neg h2, wu64 (by omega) (by omega)]
      by_cases h3 : (v : Int) > most
      · rw [if_pos h3]; exact Or.inl ⟨3, by decide, rfl⟩
      · rw [if_neg h3, w64 (by omega) (by omega)]
        exact Or.inr ⟨v, n, m, rfl, by omega, rfl, hen, hmn, h1, h10⟩
theorem cnt_enc (a : List Int) (v : Nat) (c : List Int) (most : Int) (hv : (v : Int) ≤ most) (hm : most < 9223372036854775808) : cnt (a ++ enc v ++ c) (a.length : Int) most = ((v : Int), ((a.length + (enc v).length : Nat) : Int), 0) := by
  unfold cnt
  rw [gets_enc a v c (by omega), if_pos rfl, if_neg (by omega), wu64 (by omega) (by omega), if_neg (by simp only []; omega), w64 (by simp only []; omega) (by simp only []; omega)]
/-- The counted row at a place. -/
def rows (b : List Int) (a most : Int) : List Int × Int × Int :=
  if (cnt b a most).2.2 = 0 then (if (cnt b a most).1 > (b.length : Int) - (cnt b a most).2.1 then ([], 0, 4) else ((b.drop (cnt b a most).2.1.toNat).take (cnt b a most).1.toNat, (cnt b a most).2.1 + (cnt b a most).1, 0)) else ([], 0, (cnt b a most).2.2)
theorem rows_len (b : List Int) (a most : Int) : (rows b a most).1.length ≤ b.length := by
  unfold rows
  split
  · split
    · exact Nat.zero_le _
    · simp only [List.length_take, List.length_drop]; omega
  · exact Nat.zero_le _
/-- What is listed, behind what was there. -/
def listed (acc : List Int) : Except Int (List Int × Int) → List Int × Int × Int
  | .ok (l, z) => (acc ++ l, z, 0)
  | .error e => ([], 0, e)
theorem rows_enc (a row c : List Int) (most : Int) (hr : (row.length : Int) ≤ most) (hm : most < 9223372036854775808) : rows (a ++ (enc row.length ++ row) ++ c) (a.length : Int) most = (row, ((a.length + (enc row.length ++ row).length : Nat) : Int), 0) := by
  have e : a ++ (enc row.length ++ row) ++ c = a ++ enc row.length ++ (row ++ c) := by simp
  have h := cnt_enc a row.length (row ++ c) most hr hm
  unfold rows
  rw [e, h, if_pos rfl]
  simp only []
  rw [if_neg (by simp only [List.length_append]; omega), Int.toNat_natCast, Int.toNat_natCast, List.drop_left' (by rw [List.length_append]), List.take_left]
  congr 2
  simp only [List.length_append]; omega
end Go.Proofs.Ytkecgmoaojklbaa.Pure
