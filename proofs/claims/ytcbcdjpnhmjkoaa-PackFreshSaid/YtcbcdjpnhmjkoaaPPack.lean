/- What the printed functions of pack and of its reference come to: the words of Pack. No condition. -/
import Derived.Test.YtcbcdjpnhmjkoaaPLebTwo
import Derived.Test.YtcbcdjpnhmjkoaaPack
import Derived.Test.YtcbcdjpnhmjkoaaPAllx1
import Derived.Test.YtcbcdjpnhmjkoaaPAllx4
import Derived.Test.YtcbcdjpnhmjkoaaPAllx2
import Derived.Test.YtcbcdjpnhmjkoaaPAllx12
namespace Go.Proofs.Ytcbcdjpnhmjkoaa.Pure
open Go Go.RowKit Go.Proofs.Ytcbcdjpnhmjkoaa.PAll Go.Proofs.Ytcbcdjpnhmjkoaa.Crc Go.Proofs.Ytcbcdjpnhmjkoaa.Leb Go.Proofs.Ytcbcdjpnhmjkoaa.Pack Go.Proofs.YtcbcdjpnhmjkoaaVW.PrintWords Go.Proofs.YtcbcdjpnhmjkoaaVW.PrintLast

theorem fold_f {n : Int} (h0 : -9223372036854775808 ≤ n) (h1 : n < 9223372036854775808) : pack_Fold.f n = some (fold n : Int) := by
  unfold pack_Fold.f fold
  by_cases h : 0 ≤ n
  · rw [if_pos h, show n / 9223372036854775808 = 0 by omega, wu64 (i := 0) (by omega) (by omega), wu64 (i := n) h (by omega), wu64 (by omega) (by omega), xor_zero64 (by omega) (by omega)]
    congr 1; omega
  · rw [if_neg h, show n / 9223372036854775808 = -1 by omega, show IntKind.u64.wrap (-1) = 18446744073709551615 by rw [wrap_u64]; rfl,
      show IntKind.u64.wrap (IntKind.u64.wrap n * 2) = 18446744073709551616 + 2 * n by rw [wrap_u64, wrap_u64]; omega, xor_ones64 (by omega) (by omega)]
    congr 1; omega
theorem unfold_f {u : Nat} (h : u < 18446744073709551616) : pack_Unfold.f (u : Int) = some (unfold u) := by
  unfold pack_Unfold.f unfold
  rw [and_one64 (by omega) (by omega), w64 (i := (u : Int) / 2) (by omega) (by omega), w64 (i := (u : Int) % 2) (by omega) (by omega), w64 (by omega) (by omega)]
  by_cases hu : u % 2 = 0
  · rw [if_pos hu, show -((u : Int) % 2) = 0 by omega, ixor_zero64 (by omega) (by omega)]; rfl
  · rw [if_neg hu, show -((u : Int) % 2) = -1 by omega, ixor_ones64 (by omega) (by omega)]; rfl
theorem fsame_l (l m : List Int) (h : l.length = m.length) (hl : l.length ≤ 281474976710656) (d : Nat) : ∀ (k i : Nat), i + d = l.length → d < k →
    stookref00_Ints.l0 k l m (i : Int) = some (decide (l.drop i = m.drop i)) := by
  induction d with
  | zero =>
    intro k i hi hk
    obtain ⟨k, rfl⟩ : ∃ m, k = m + 1 := ⟨k - 1, by omega⟩
    simp only [stookref00_Ints.l0]
    rw [if_neg (by omega), List.drop_eq_nil_of_le (by omega), List.drop_eq_nil_of_le (by omega)]
    rfl
  | succ d ih =>
    intro k i hi hk
    obtain ⟨k, rfl⟩ : ∃ m, k = m + 1 := ⟨k - 1, by omega⟩
    simp only [stookref00_Ints.l0]
    have e1 : rd l (i : Int) = l[i]'(by omega) := by unfold rd; rw [Int.toNat_natCast, List.getD_eq_getElem?_getD, List.getElem?_eq_getElem (by omega)]; rfl
    have e2 : rd m (i : Int) = m[i]'(by omega) := by unfold rd; rw [Int.toNat_natCast, List.getD_eq_getElem?_getD, List.getElem?_eq_getElem (by omega)]; rfl
    rw [if_pos (by omega), if_pos (by omega), if_pos (by omega), w64 (by omega) (by omega), show (i : Int) + 1 = ((i + 1 : Nat) : Int) by omega, ih k (i + 1) (by omega) (by omega), e1, e2,
      List.drop_eq_getElem_cons (show i < l.length by omega), List.drop_eq_getElem_cons (show i < m.length by omega)]
    by_cases hx : l[i]'(by omega) = m[i]'(by omega)
    · rw [if_pos hx, hx]
      refine congrArg some ?_
      rw [decide_eq_decide]
      exact ⟨fun q => by rw [q], fun q => (List.cons.inj q).2⟩
    · rw [if_neg hx]
      exact congrArg some (decide_eq_false (fun q => hx (List.cons.inj q).1)).symm
theorem ints_self (k : Nat) (l : List Int) (hl : l.length ≤ 281474976710656) (hk : l.length < k) : stookref00_Ints.f k l l = some true := by
  unfold stookref00_Ints.f
  rw [if_pos rfl]
  have h := fsame_l l l rfl hl l.length k 0 (by omega) hk
  rw [decide_eq_true rfl] at h
  exact h
def laid (out : List Int) : Option (List Int) → List Int × Int
  | none => ([], 2)
  | some b => (out ++ b, 0)
theorem rd_at (l : List Int) (i : Nat) (h : i < l.length) : rd l (i : Int) = l[i]'h := by
  unfold rd; rw [Int.toNat_natCast, List.getD_eq_getElem?_getD, List.getElem?_eq_getElem h]; rfl
theorem laid_cons (out : List Int) (was x : Int) (l : List Int) (hx : ¬ (x < 0 ∨ 1048575 < x)) : laid (out ++ enc (fold (x - was))) (body x l) = laid out (body was (x :: l)) := by
  rw [body, if_neg hx]
  cases body x l with
  | none => rfl
  | some c => simp [laid]
theorem packput_l (l : List Int) (hl : l.length ≤ 65536) (d : Nat) : ∀ (k i : Nat) (was : Int) (out : List Int), i + d = l.length → 0 ≤ was → was ≤ 1048575 → out.length + 3 * d ≤ 1000000 → 2 * d + 14 < k →
    pack_Put.l0 k out was l (l.length : Int) (i : Int) = some (laid out (body was (l.drop i))) := by
  induction d with
  | zero =>
    intro k i was out hi _ _ _ hk
    obtain ⟨k, rfl⟩ : ∃ m, k = m + 1 := ⟨k - 1, by omega⟩
    simp only [pack_Put.l0]
    rw [if_neg (by omega), List.drop_eq_nil_of_le (by omega), body]
    show some (out, (0 : Int)) = some (out ++ [], 0)
    rw [List.append_nil]
  | succ d ih =>
    intro k i was out hi h0 h1 ho hk
    obtain ⟨k, rfl⟩ : ∃ m, k = m + 1 + 1 := ⟨k - 2, by omega⟩
    simp only [pack_Put.l0]
    rw [if_pos (by omega), if_pos (by omega), if_pos (by omega), rd_at l i (by omega), List.drop_eq_getElem_cons (show i < l.length by omega)]
    generalize l[i]'(by omega) = x
    by_cases hx : x < 0 ∨ 1048575 < x
    · have e : body was (x :: l.drop (i + 1)) = none := by rw [body, if_pos hx]
      rw [e]
      by_cases hx0 : x < 0
      · rw [if_pos hx0]
        simp only [pack_Put.j1, if_true]
        rfl
      · rw [if_neg hx0, decide_eq_true (show x > 1048575 by omega)]
        simp only [pack_Put.j1, if_true]
        rfl
    · rw [if_neg (by omega), decide_eq_false (show ¬ x > 1048575 by omega)]
      simp only [pack_Put.j1, Bool.false_eq_true, if_false]
      obtain ⟨h3, hf⟩ := fold_three (x := x) (was := was) (by omega) (by omega) h0 h1
      rw [w64 (i := x - was) (by omega) (by omega), fold_f (by omega) (by omega), bnd, put_f k _ (by omega) (by omega), bnd, if_pos (by omega), w64 (by omega) (by omega), show (i : Int) + 1 = ((i + 1 : Nat) : Int) by omega,
        ih k (i + 1) x _ (by omega) (by omega) (by omega) (by rw [List.length_append]; omega) (by omega), laid_cons out was x _ hx]
theorem packput_f (k : Nat) (l : List Int) (hk : 200000 < k) : pack_Put.f k l = some (put l) := by
  unfold pack_Put.f put
  by_cases h : 65536 < l.length
  · rw [if_pos (by omega), if_pos h]
  · have h3 := enc_three (n := l.length) (by omega)
    rw [if_neg (by omega), if_neg h, wu64 (by omega) (by omega), put_f k l.length (by omega) (by omega), bnd]
    have e := packput_l l (by omega) l.length k 0 0 (enc l.length) (by omega) (by omega) (by omega) (by omega) (by omega)
    rw [List.drop_zero] at e
    refine e.trans ?_
    cases body 0 l with
    | none => rfl
    | some b => rfl
theorem packget_l (b : List Int) (hb : Bytes b) (hl : b.length ≤ 281474976710656) (n : Nat) (hn : n ≤ 65536) (d : Nat) : ∀ (k i : Nat) (a was : Int) (acc : List Int), i + d = n → 0 ≤ was → was ≤ 1048575 → acc.length + d ≤ 65536 → d + 14 < k →
    pack_Get.l0 k b acc a was (n : Int) (i : Int) = some (listed acc (toks b d a was)) := by
  induction d with
  | zero =>
    intro k i a was acc hi _ _ _ hk
    obtain ⟨k, rfl⟩ : ∃ m, k = m + 1 := ⟨k - 1, by omega⟩
    simp only [pack_Get.l0]
    rw [if_neg (by omega), toks]
    show some (acc, a, (0 : Int)) = some (acc ++ [], a, 0)
    rw [List.append_nil]
  | succ d ih =>
    intro k i a was acc hi h0 h1 hacc hk
    obtain ⟨k, rfl⟩ : ∃ m, k = m + 1 := ⟨k - 1, by omega⟩
    simp only [pack_Get.l0]
    rw [if_pos (by omega), get_f k b a hb hl (by omega), bnd, toks]
    rcases gets_cases b a hb with ⟨e, he, h⟩ | ⟨v, j, m, rfl, h, hv, hen, hmn, hj, h10⟩
    · rw [h, if_neg he, if_neg he]; rfl
    · have hu := unfold_lt hv
      rw [h, if_pos rfl, if_pos rfl]
      simp only [Int.toNat_natCast]
      rw [unfold_f hv, bnd, w64 (i := -was) (by omega) (by omega), w64 (i := 1048575 - was) (by omega) (by omega)]
      by_cases hd : unfold v < -was ∨ 1048575 - was < unfold v
      · rw [if_pos hd]
        by_cases hd1 : unfold v < -was
        · rw [if_pos hd1]; rfl
        · rw [if_neg hd1, if_pos (by omega)]; rfl
      · rw [if_neg hd, if_neg (by omega), if_neg (by omega), if_pos (by omega), w64 (i := was + unfold v) (by omega) (by omega), wu64 (by omega) (by omega), show (i : Int) + 1 = ((i + 1 : Nat) : Int) by omega,
          ih k (i + 1) _ (was + unfold v) _ (by omega) (by omega) (by omega) (by rw [List.length_append, List.length_singleton]; omega) (by omega)]
        cases toks b d ((m + j : Nat) : Int) (was + unfold v) with
        | error e => rfl
        | ok p => obtain ⟨l, z⟩ := p; simp [listed]
theorem told_listed (x : Except Int (List Int × Int)) : listed [] x = told x := by
  cases x with
  | error e => rfl
  | ok p => obtain ⟨l, z⟩ := p; rfl
theorem packget_f (k : Nat) (b : List Int) (a : Int) (hb : Bytes b) (hl : b.length ≤ 281474976710656) (hk : 200000 < k) : pack_Get.f k b a = some (row b a) := by
  unfold pack_Get.f row
  rw [get_f k b a hb hl (by omega), bnd]
  rcases gets_cases b a hb with ⟨e, he, h⟩ | ⟨v, j, m, rfl, h, hv, hen, hmn, hj, h10⟩
  · rw [h, if_neg he, if_neg he]
  · rw [h, if_pos rfl, if_pos rfl]
    by_cases h3 : (v : Int) > 65536
    · rw [if_pos h3, if_pos h3]
    · rw [if_neg h3, if_neg h3]
      simp only [Int.toNat_natCast]
      have e := packget_l b hb hl v (by omega) v k 0 ((m + j : Nat) : Int) 0 [] (by omega) (by omega) (by omega) (by simp only [List.length_nil]; omega) (by omega)
      rw [told_listed] at e
      exact e
theorem put_told : put [5, 3, 300] = ([3, 10, 3, 210, 4], 0) := by
  have e3 : enc 3 = [3] := enc_lt (by decide)
  have e10 : enc 10 = [10] := enc_lt (by decide)
  have e594 : enc 594 = [210, 4] := by rw [enc_ge (by decide), enc_lt (by decide)]; rfl
  have f1 : fold (5 - 0) = 10 := by decide
  have f2 : fold (3 - 5) = 3 := by decide
  have f3 : fold (300 - 3) = 594 := by decide
  unfold put
  rw [if_neg (by decide), body, if_neg (by decide), body, if_neg (by decide), body, if_neg (by decide), body, f1, f2, f3, show ([5, 3, 300] : List Int).length = 3 from rfl, e3, e10, e594]
  rfl
theorem packworks_f (k : Nat) (hk : 200000 < k) : stooklaw12_works.f k = some true := by
  unfold stooklaw12_works.f
  have g := row_put [5, 3, 300] [3, 10, 3, 210, 4] [] [] put_told
  rw [show [] ++ ([3, 10, 3, 210, 4] : List Int) ++ [] = [3, 10, 3, 210, 4] from rfl, show ((([] : List Int).length : Nat) : Int) = 0 from rfl] at g
  rw [packput_f k _ hk, bnd, put_told]
  simp only []
  rw [packget_f k _ _ (by unfold Bytes; decide) (by decide) hk, bnd, g, if_pos True.intro, if_pos rfl, same_self k _ (by decide) (by simp; omega), bnd, if_pos rfl, ints_self k _ (by decide) (by simp; omega), bnd, if_pos rfl]
  rfl
end Go.Proofs.Ytcbcdjpnhmjkoaa.Pure
