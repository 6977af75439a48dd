/- What the printed functions for counted rows come to, leb's and the reference's. No condition. -/
import Derived.Test.YtjefgdggjchhbaaPLeb
import Derived.Test.YtjefgdggjchhbaaPAllx6
import Derived.Test.YtjefgdggjchhbaaPAllx11
import Derived.Test.YtjefgdggjchhbaaPAllx1
import Derived.Test.YtjefgdggjchhbaaPAllx3
namespace Go.Proofs.Ytjefgdggjchhbaa.Pure
open Go Go.RowKit Go.Proofs.Ytjefgdggjchhbaa.PAll Go.Proofs.Ytjefgdggjchhbaa.Crc Go.Proofs.Ytjefgdggjchhbaa.Leb Go.Proofs.YtjefgdggjchhbaaVW.PrintWords Go.Proofs.YtjefgdggjchhbaaVW.PrintLast

/-- A number that is at most most. -/
def cnt (b : List Int) (a most : Int) : Int × Int × Int :=
  if (gets b a).2.2 = 0 then (if most < 0 then (0, 0, 3) else (if (gets b a).1 > IntKind.u64.wrap most then (0, 0, 3) else (wrap64 (gets b a).1, (gets b a).2.1, 0))) else (0, 0, (gets b a).2.2)
theorem ite_some {α : Type} (c : Prop) [Decidable c] (x y : α) : (if c then some x else some y) = some (if c then x else y) := by split <;> rfl
theorem count_f (k : Nat) (b : List Int) (a most : Int) (hb : Bytes b) (hl : b.length ≤ 281474976710656) (hk : 12 < k) : leb_count.f k b a most = some (cnt b a most) := by
  unfold leb_count.f cnt
  rw [get_f k b a hb hl hk, bnd, ite_some, ite_some, ite_some]
theorem refcount_f (k : Nat) (b : List Int) (a most : Int) (hb : Bytes b) (hl : b.length ≤ 281474976710656) (hk : 26 < k) : stookref01_Count.f k b a most = some (cnt b a most) := by
  unfold stookref01_Count.f cnt
  rw [refget_f k b a hb hl hk, bnd, ite_some, ite_some, ite_some]
theorem cnt_cases (b : List Int) (a most : Int) (hb : Bytes b) (hm : most < 9223372036854775808) :
    (∃ e, e ≠ 0 ∧ cnt b a most = (0, 0, e)) ∨ ∃ v n m : Nat, a = (m : Int) ∧ (v : Int) ≤ most ∧ cnt b a most = ((v : Int), ((m + n : Nat) : Int), 0) ∧ enc v = (b.drop m).take n ∧ m + n ≤ b.length ∧ 1 ≤ n ∧ n ≤ 10 := by
  unfold cnt
  rcases gets_cases b a hb with ⟨e, he, h⟩ | ⟨v, n, m, rfl, h, hv, hen, hmn, h1, h10⟩
  · rw [h, if_neg he]
    exact Or.inl ⟨e, he, rfl⟩
  · rw [h, if_pos rfl]
    by_cases h2 : most < 0
    · rw [if_pos h2]; exact Or.inl ⟨3, by decide, rfl⟩
    · rw [if_neg h2, wu64 (by omega) (by omega)]
      by_cases h3 : (v : Int) > most
      · rw [if_pos h3]; exact Or.inl ⟨3, by decide, rfl⟩
      · rw [if_neg h3, w64 (by omega) (by omega)]
        exact Or.inr ⟨v, n, m, rfl, by omega, rfl, hen, hmn, h1, h10⟩
theorem cnt_enc (a : List Int) (v : Nat) (c : List Int) (most : Int) (hv : (v : Int) ≤ most) (hm : most < 9223372036854775808) : cnt (a ++ enc v ++ c) (a.length : Int) most = ((v : Int), ((a.length + (enc v).length : Nat) : Int), 0) := by
  unfold cnt
  rw [gets_enc a v c (by omega), if_pos rfl, if_neg (by omega), wu64 (by omega) (by omega), if_neg (by simp only []; omega), w64 (by simp only []; omega) (by simp only []; omega)]
/-- The counted row at a place. -/
def rows (b : List Int) (a most : Int) : List Int × Int × Int :=
  if (cnt b a most).2.2 = 0 then (if (cnt b a most).1 > (b.length : Int) - (cnt b a most).2.1 then ([], 0, 4) else ((b.drop (cnt b a most).2.1.toNat).take (cnt b a most).1.toNat, (cnt b a most).2.1 + (cnt b a most).1, 0)) else ([], 0, (cnt b a most).2.2)
theorem getrow_f (k : Nat) (b : List Int) (a most : Int) (hb : Bytes b) (hl : b.length ≤ 140737488355327) (hm : most < 9223372036854775808) (hk : 12 < k) : leb_GetRow.f k b a most = some (rows b a most) := by
  unfold leb_GetRow.f rows
  rw [count_f k b a most hb (by omega) hk, bnd]
  rcases cnt_cases b a most hb hm with ⟨e, he, h⟩ | ⟨v, n, m, rfl, hv, h, hen, hmn, h1, h10⟩
  · rw [h, if_neg he, if_neg he]
  · rw [h, if_pos rfl, if_pos rfl]
    simp only []
    rw [w64 (by omega) (by omega)]
    by_cases h2 : (v : Int) > (b.length : Int) - ((m + n : Nat) : Int)
    · rw [if_pos h2, if_pos h2]
    · rw [if_neg h2, if_neg h2, if_pos (by omega), Int.toNat_natCast, if_pos (by omega), bnd, if_pos (by omega), if_pos (by omega), Int.toNat_natCast, w64 (by omega) (by omega)]
      have e1 : min (b.drop (m + n)).length (List.replicate v (0 : Int)).length = v := by
        rw [List.length_drop, List.length_replicate]; omega
      rw [e1, List.drop_eq_nil_of_le (show (List.replicate v (0 : Int)).length ≤ v by simp), List.append_nil]
theorem refgetrow_f (k : Nat) (b : List Int) (a most : Int) (hb : Bytes b) (hl : b.length ≤ 140737488355327) (hm : most < 9223372036854775808) (hk : 26 < k) : stookref01_GetRow.f k b a most = some (rows b a most) := by
  unfold stookref01_GetRow.f rows
  rw [refcount_f k b a most hb (by omega) hk, bnd]
  rcases cnt_cases b a most hb hm with ⟨e, he, h⟩ | ⟨v, n, m, rfl, hv, h, hen, hmn, h1, h10⟩
  · rw [h, if_neg he, if_neg he]
  · rw [h, if_pos rfl, if_pos rfl]
    simp only []
    rw [w64 (by omega) (by omega)]
    by_cases h2 : (v : Int) > (b.length : Int) - ((m + n : Nat) : Int)
    · rw [if_pos h2, if_pos h2]
    · rw [if_neg h2, if_neg h2, w64 (i := ((m + n : Nat) : Int) + (v : Int)) (by omega) (by omega), if_pos (by omega), if_pos (by omega), if_pos (by omega), Int.toNat_natCast, show ((m + n : Nat) : Int) + (v : Int) = ((m + n + v : Nat) : Int) by omega, Int.toNat_natCast, List.drop_take, show m + n + v - (m + n) = v by omega,
        if_pos (by rw [List.length_nil, List.length_take, List.length_drop]; omega), List.nil_append, Int.toNat_natCast]
theorem putrow_f (k : Nat) (b : List Int) (hl : b.length ≤ 140737488351232) (hk : 12 < k) : leb_PutRow.f k b = some (enc b.length ++ b) := by
  have h10 := enc_ten (n := b.length) (by omega)
  unfold leb_PutRow.f
  rw [wu64 (by omega) (by omega), put_one k b.length (by omega) (by omega), bnd, if_pos (by omega)]
theorem refputrow_f (k : Nat) (b : List Int) (hl : b.length ≤ 140737488351232) (hk : 12 < k) : stookref01_PutRow.f k b = some (enc b.length ++ b) := by
  have h10 := enc_ten (n := b.length) (by omega)
  unfold stookref01_PutRow.f
  rw [wu64 (by omega) (by omega), refput_f k b.length (by omega) (by omega), bnd, if_pos (by omega)]
/-- What is listed, behind what was there. -/
def listed (acc : List Int) : Except Int (List Int × Int) → List Int × Int × Int
  | .ok (l, z) => (acc ++ l, z, 0)
  | .error e => ([], 0, e)
theorem rows_enc (a row c : List Int) (most : Int) (hr : (row.length : Int) ≤ most) (hm : most < 9223372036854775808) : rows (a ++ (enc row.length ++ row) ++ c) (a.length : Int) most = (row, ((a.length + (enc row.length ++ row).length : Nat) : Int), 0) := by
  have e : a ++ (enc row.length ++ row) ++ c = a ++ enc row.length ++ (row ++ c) := by simp
  have h := cnt_enc a row.length (row ++ c) most hr hm
  unfold rows
  rw [e, h, if_pos rfl]
  simp only []
  rw [if_neg (by simp only [List.length_append]; omega), Int.toNat_natCast, Int.toNat_natCast, List.drop_left' (by rw [List.length_append]), List.take_left]
  congr 2
  simp only [List.length_append]; omega
end Go.Proofs.Ytjefgdggjchhbaa.Pure
