/- Three rows of bytes of one length, put against one another, have as their sum the three sums put against one another: the printed statement of CrcLinear. No condition. -/
import Derived.Test.YtipfcibdkbneoaaPCrc
import Derived.Test.YtipfcibdkbneoaaPAllx4
namespace Go.Proofs.Ytipfcibdkbneoaa.Pure
open Go Go.RowKit Go.Proofs.Ytipfcibdkbneoaa.PAll Go.Proofs.Ytipfcibdkbneoaa.Crc Go.Proofs.YtipfcibdkbneoaaVW.PrintWords Go.Proofs.YtipfcibdkbneoaaVW.PrintLast
def zip3 (a b c : List (BitVec 8)) : List (BitVec 8) := List.zipWith (· ^^^ ·) (List.zipWith (· ^^^ ·) a b) c
theorem linear_l (a b c : List (BitVec 8)) (n : Nat) (ha : n ≤ a.length) (hb : n ≤ b.length) (hc : n ≤ c.length) (hn : n ≤ 140737488355000) (d : Nat) : ∀ (k i : Nat), i + d = n → n + 21 + d < k →
    stooklaw02_CrcLinear.l0 k (nat8 a) (nat8 b) (nat8 c) (n : Int) (nat8 (zip3 (a.take i) (b.take i) (c.take i))) (i : Int) = some true := by
  induction d with
  | zero =>
    intro k i hi hk
    obtain ⟨k, rfl⟩ : ∃ m, k = m + 1 := ⟨k - 1, by omega⟩
    have hz : (zip3 (a.take i) (b.take i) (c.take i)).length = i := by simp [zip3]; omega
    have la : (a.take i).length = i := by simp; omega
    have lb : (b.take i).length = i := by simp; omega
    have lc : (c.take i).length = i := by simp; omega
    simp only [stooklaw02_CrcLinear.l0]
    obtain rfl : n = i := by omega
    rw [if_neg (by omega), of_f k _ (by omega) (by omega), bnd, if_pos (by omega), Int.toNat_natCast, nat8_take, nat8_take, nat8_take, if_pos (by rw [nat8_len]; omega), of_f k (a.take n) (by omega) (by omega), bnd,
      if_pos (by rw [nat8_len]; omega), of_f k (b.take n) (by omega) (by omega), bnd, if_pos (by rw [nat8_len]; omega), of_f k (c.take n) (by omega) (by omega), bnd, xor32, xor32,
      if_pos (by rw [inj32]; exact sum_xor3 _ _ _ (by omega) (by omega)), crcworks_f k (by omega), bnd]
  | succ d ih =>
    intro k i hi hk
    obtain ⟨k, rfl⟩ : ∃ m, k = m + 1 := ⟨k - 1, by omega⟩
    have hz : (zip3 (a.take i) (b.take i) (c.take i)).length = i := by simp [zip3]; omega
    simp only [stooklaw02_CrcLinear.l0]
    have e : nat8 (zip3 (a.take i) (b.take i) (c.take i)) ++ [(((a[i]'(by omega) ^^^ b[i]'(by omega)) ^^^ c[i]'(by omega)).toNat : Int)] = nat8 (zip3 (a.take (i + 1)) (b.take (i + 1)) (c.take (i + 1))) := by
      rw [nat8_one, ← nat8_append]
      congr 1
      rw [List.take_succ_eq_append_getElem (show i < a.length by omega), List.take_succ_eq_append_getElem (show i < b.length by omega), List.take_succ_eq_append_getElem (show i < c.length by omega)]
      unfold zip3
      rw [List.zipWith_append (by simp; omega), List.zipWith_append (by simp; omega)]
      rfl
    rw [if_pos (by omega), if_pos (by omega), if_pos (by rw [nat8_len]; omega), if_pos (by rw [nat8_len]; omega), if_pos (by rw [nat8_len]; omega), if_pos (by rw [nat8_len]; omega),
      rd_nat8 a i (by omega), rd_nat8 b i (by omega), rd_nat8 c i (by omega), xor8, xor8, e, w64 (by omega) (by omega), show (i : Int) + 1 = ((i + 1 : Nat) : Int) by omega]
    exact ih k (i + 1) (by omega) (by omega)
theorem CrcLinear : stooklaw02_CrcLinear.Pure := by
  intro l m p _ hl hlw _ hm hmw _ hp hpw
  obtain ⟨a, rfl⟩ := of_bytes l hlw
  obtain ⟨b, rfl⟩ := of_bytes m hmw
  obtain ⟨c, rfl⟩ := of_bytes p hpw
  rw [nat8_len] at hl hm hp
  obtain ⟨n, hn, h1, h2, h3⟩ : ∃ n : Nat, mn (mn ((nat8 a).length : Int) ((nat8 b).length : Int)) ((nat8 c).length : Int) = (n : Int) ∧ n ≤ a.length ∧ n ≤ b.length ∧ n ≤ c.length := by
    refine ⟨min (min a.length b.length) c.length, ?_, by omega, by omega, by omega⟩
    rw [nat8_len, nat8_len, nat8_len]
    unfold mn
    split <;> split <;> omega
  refine ⟨2 * n + 30, ?_⟩
  unfold stooklaw02_CrcLinear.f
  rw [hn]
  exact linear_l a b c n h1 h2 h3 (by omega) n (2 * n + 30) 0 (by omega) (by omega)
end Go.Proofs.Ytipfcibdkbneoaa.Pure
