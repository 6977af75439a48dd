/- What the printed functions of leb and of its reference come to: the words of Leb. No condition. -/
import Derived.Test.YtjefgdggjchhbaaLeb
import Derived.Test.YtjefgdggjchhbaaPAllx2
import Derived.Test.YtjefgdggjchhbaaPAllx4
import Derived.Test.YtjefgdggjchhbaaPAllx1
import Derived.Test.YtjefgdggjchhbaaPAllx5
import Derived.Test.YtjefgdggjchhbaaPAllx10
namespace Go.Proofs.Ytjefgdggjchhbaa.Pure
open Go Go.RowKit Go.Proofs.Ytjefgdggjchhbaa.PAll Go.Proofs.Ytjefgdggjchhbaa.Crc Go.Proofs.Ytjefgdggjchhbaa.Leb Go.Proofs.YtjefgdggjchhbaaVW.PrintWords Go.Proofs.YtjefgdggjchhbaaVW.PrintLast

theorem refput_f : ∀ (k n : Nat), n < 18446744073709551616 → (enc n).length ≤ k → stookref01_Put.f k (n : Int) = some (enc n)
  | 0, n, _, h => by have := enc_pos n; omega
  | k + 1, n, hn, h => by
    unfold stookref01_Put.f
    rcases Nat.lt_or_ge n 128 with h1 | h1
    · rw [if_pos (by omega), enc_lt h1]
      congr 2
      omega
    · rw [if_neg (by omega), bnd]
      have e : IntKind.u64.wrap (Int.tdiv (n : Int) 128) = ((n / 128 : Nat) : Int) := by
        rw [Int.tdiv_eq_ediv_of_nonneg (by omega), wrap_u64]; omega
      have hl := enc_ge h1
      have h2 : (enc (n / 128)).length ≤ k := by rw [hl] at h; simp only [List.length_cons] at h; omega
      have h10 := enc_ten (n := n / 128) (by omega)
      rw [e, refput_f k (n / 128) (by omega) h2, bnd, if_pos (by simp only [List.length_singleton]; omega), hl]
      show some (_ :: enc (n / 128)) = some (_ :: enc (n / 128))
      congr 2
      have : Int.tmod (n : Int) 128 = ((n % 128 : Nat) : Int) := rfl
      rw [this]; omega
theorem same_l (l m : List Int) (h : l.length = m.length) (hl : l.length ≤ 281474976710656) (d : Nat) : ∀ (k i : Nat), i + d = l.length → d < k →
    stookref00_Same.l0 k l m (i : Int) = some (decide (l.drop i = m.drop i)) := by
  induction d with
  | zero =>
    intro k i hi hk
    obtain ⟨k, rfl⟩ : ∃ m, k = m + 1 := ⟨k - 1, by omega⟩
    simp only [stookref00_Same.l0]
    rw [if_neg (by omega), List.drop_eq_nil_of_le (by omega), List.drop_eq_nil_of_le (by omega)]
    rfl
  | succ d ih =>
    intro k i hi hk
    obtain ⟨k, rfl⟩ : ∃ m, k = m + 1 := ⟨k - 1, by omega⟩
    simp only [stookref00_Same.l0]
    have e1 : rd l (i : Int) = l[i]'(by omega) := by unfold rd; rw [Int.toNat_natCast, List.getD_eq_getElem?_getD, List.getElem?_eq_getElem (by omega)]; rfl
    have e2 : rd m (i : Int) = m[i]'(by omega) := by unfold rd; rw [Int.toNat_natCast, List.getD_eq_getElem?_getD, List.getElem?_eq_getElem (by omega)]; rfl
    rw [if_pos (by omega), if_pos (by omega), if_pos (by omega), w64 (by omega) (by omega), show (i : Int) + 1 = ((i + 1 : Nat) : Int) by omega, ih k (i + 1) (by omega) (by omega), e1, e2,
      List.drop_eq_getElem_cons (show i < l.length by omega), List.drop_eq_getElem_cons (show i < m.length by omega)]
    by_cases hx : l[i]'(by omega) = m[i]'(by omega)
    · rw [if_pos hx, hx]
      refine congrArg some ?_
      rw [decide_eq_decide]
      exact ⟨fun q => by rw [q], fun q => (List.cons.inj q).2⟩
    · rw [if_neg hx]
      exact congrArg some (decide_eq_false (fun q => hx (List.cons.inj q).1)).symm
theorem same_f (k : Nat) (l m : List Int) (hl : l.length ≤ 281474976710656) (hk : l.length < k) : stookref00_Same.f k l m = some (decide (l = m)) := by
  unfold stookref00_Same.f
  by_cases h : l.length = m.length
  · rw [if_pos (by omega)]
    exact same_l l m h hl l.length k 0 (by omega) hk
  · rw [if_neg (by omega), decide_eq_false (fun e => h (by rw [e]))]
theorem same_self (k : Nat) (l : List Int) (hl : l.length ≤ 281474976710656) (hk : l.length < k) : stookref00_Same.f k l l = some true := by
  rw [same_f k l l hl hk, decide_eq_true rfl]
/-- All the bytes of numbers. -/
def encs (l : List Nat) : List Int := l.flatMap enc
def ints (l : List Nat) : List Int := l.map Int.ofNat
theorem ints_len (l : List Nat) : (ints l).length = l.length := by simp [ints]
theorem rd_ints (l : List Nat) (i : Nat) (h : i < l.length) : rd (ints l) (i : Int) = ((l[i]'h : Nat) : Int) := by
  unfold rd ints
  rw [Int.toNat_natCast, List.getD_eq_getElem?_getD, List.getElem?_map, List.getElem?_eq_getElem h]
  rfl
theorem put_l1 (l : List Int) (j : Int) : ∀ (c k n : Nat) (out : List Int), (enc n).length = c → n < 18446744073709551616 → out.length + (enc n).length ≤ 140737488355328 → leb_put.l1 (k + c) out (n : Int) l (l.length : Int) j = leb_put.l0 k (out ++ enc n) l (l.length : Int) (wrap64 (j + 1)) := by
  intro c
  induction c with
  | zero => intro k n out h _ _; have := enc_pos n; omega
  | succ c ih =>
    intro k n out h hn hout
    rw [show k + (c + 1) = (k + c) + 1 from rfl]
    simp only [leb_put.l1]
    rcases Nat.lt_or_ge n 128 with h1 | h1
    · rw [enc_lt h1] at h hout ⊢
      simp only [List.length_singleton] at h hout
      rw [if_neg (by omega), if_pos (by omega), show (n : Int) % 256 = (n : Int) by omega, show k + c = k by omega]
    · have hl := enc_ge h1
      rw [hl] at h hout ⊢
      simp only [List.length_cons] at h hout
      have e : bits .or .u8 ((n : Int) % 256) 128 = ((n % 128 + 128 : Nat) : Int) := by
        rw [or128 (by omega) (by omega)]; omega
      rw [if_pos (by omega), if_pos (by omega), e, show (n : Int) / 128 = ((n / 128 : Nat) : Int) by omega,
        ih k (n / 128) (out ++ [((n % 128 + 128 : Nat) : Int)]) (by omega) (by omega) (by simp only [List.length_append, List.length_singleton]; omega), List.append_assoc]
      rfl
theorem put_l0 (l : List Nat) (hl : l.length ≤ 281474976710656) (hw : ∀ n ∈ l, n < 18446744073709551616) (d : Nat) : ∀ (k i : Nat) (out : List Int), i + d = l.length → out.length + (encs (l.drop i)).length ≤ 140737488355328 → (encs (l.drop i)).length + d < k →
    leb_put.l0 k out (ints l) (l.length : Int) (i : Int) = some (out ++ encs (l.drop i)) := by
  induction d with
  | zero =>
    intro k i out hi _ hk
    obtain ⟨k, rfl⟩ : ∃ m, k = m + 1 := ⟨k - 1, by omega⟩
    simp only [leb_put.l0]
    rw [if_neg (by omega), List.drop_eq_nil_of_le (by omega)]
    simp [encs]
  | succ d ih =>
    intro k i out hi ho hk
    have e : l.drop i = l[i]'(by omega) :: l.drop (i + 1) := List.drop_eq_getElem_cons (show i < l.length by omega)
    have e2 : encs (l.drop i) = enc (l[i]'(by omega)) ++ encs (l.drop (i + 1)) := by rw [e]; rfl
    rw [e2] at ho hk ⊢
    rw [List.length_append] at ho hk
    obtain ⟨q, hq⟩ : ∃ q, k = (q + (enc (l[i]'(by omega))).length) + 1 := ⟨k - 1 - (enc (l[i]'(by omega))).length, by omega⟩
    rw [hq]
    simp only [leb_put.l0]
    have h1 := put_l1 (ints l) (i : Int) _ q (l[i]'(by omega)) out rfl (hw _ (List.getElem_mem _)) (by omega)
    rw [ints_len] at h1
    rw [if_pos (by omega), if_pos (by omega), if_pos (by rw [ints_len]; omega), rd_ints l i (by omega), h1, w64 (by omega) (by omega), show (i : Int) + 1 = ((i + 1 : Nat) : Int) by omega,
      ih q (i + 1) _ (by omega) (by rw [List.length_append]; omega) (by omega), List.append_assoc]
theorem puts_f (k : Nat) (l : List Nat) (hl : l.length ≤ 281474976710656) (hw : ∀ n ∈ l, n < 18446744073709551616) (ho : (encs l).length ≤ 140737488355328) (hk : (encs l).length + l.length < k) : leb_put.f k (ints l) = some (encs l) := by
  unfold leb_put.f
  rw [ints_len]
  exact put_l0 l hl hw l.length k 0 [] (by omega) (by simpa using ho) hk
theorem encs_one (n : Nat) : encs [n] = enc n := by simp [encs]
theorem put_one (k n : Nat) (hn : n < 18446744073709551616) (hk : (enc n).length + 1 < k) : leb_put.f k [(n : Int)] = some (enc n) := by
  have h10 := enc_ten hn
  have h := puts_f k [n] (by simp) (by simpa using hn) (by rw [encs_one]; omega) (by rw [encs_one]; simpa using hk)
  rw [encs_one] at h
  exact h
theorem put_f (k n : Nat) (hn : n < 18446744073709551616) (hk : (enc n).length + 1 < k) : leb_Put.f k (n : Int) = some (enc n) := by
  unfold leb_Put.f
  rw [put_one k n hn hk, bnd]
theorem len_l : ∀ (c k n x : Nat), (enc n).length = c + 1 → x + c < 1000 → c < k → leb_Len.l0 k (n : Int) (x : Int) = some ((x + c : Nat) : Int) := by
  intro c
  induction c with
  | zero =>
    intro k n x h hx hk
    obtain ⟨k, rfl⟩ : ∃ m, k = m + 1 := ⟨k - 1, by omega⟩
    simp only [leb_Len.l0]
    have h1 : n < 128 := by
      rcases Nat.lt_or_ge n 128 with h1 | h1
      · exact h1
      · rw [enc_ge h1] at h; have := enc_pos (n / 128); simp only [List.length_cons] at h; omega
    rw [if_neg (by omega)]; rfl
  | succ c ih =>
    intro k n x h hx hk
    obtain ⟨k, rfl⟩ : ∃ m, k = m + 1 := ⟨k - 1, by omega⟩
    simp only [leb_Len.l0]
    have h1 : 128 ≤ n := by
      rcases Nat.lt_or_ge n 128 with h1 | h1
      · rw [enc_lt h1] at h; simp at h
      · exact h1
    rw [enc_ge h1] at h
    simp only [List.length_cons] at h
    rw [if_pos (by omega), show (n : Int) / 128 = ((n / 128 : Nat) : Int) by omega, w64 (by omega) (by omega), show (x : Int) + 1 = ((x + 1 : Nat) : Int) by omega, ih k (n / 128) (x + 1) (by omega) (by omega) (by omega)]
    congr 2; omega
theorem len_f (k n : Nat) (hn : n < 18446744073709551616) (hk : 10 < k) : leb_Len.f k (n : Int) = some ((enc n).length : Int) := by
  unfold leb_Len.f
  have h1 := enc_pos n
  have h2 := enc_ten hn
  have h := len_l ((enc n).length - 1) k n 1 (by omega) (by omega) (by omega)
  rw [show ((1 : Nat) : Int) = 1 from rfl] at h
  rw [h]
  congr 2; omega
theorem bytes_rd {l : List Int} (h : Bytes l) (i : Nat) (hi : i < l.length) : rd l (i : Int) = l[i]'hi ∧ 0 ≤ l[i]'hi ∧ l[i]'hi < 256 := by
  refine ⟨?_, h _ (List.getElem_mem _)⟩
  unfold rd; rw [Int.toNat_natCast, List.getD_eq_getElem?_getD, List.getElem?_eq_getElem hi]; rfl
/-- Where reading stands behind i bytes. -/
def out (acc at_ i : Nat) : Except Int (Nat × Nat) → Int × Int × Int
  | .ok (v, n) => (((acc + v * 2 ^ (7 * i) : Nat) : Int), ((at_ + i + n : Nat) : Int), 0)
  | .error e => (0, 0, e)
theorem get_ten (k : Nat) (b : List Int) (a acc : Int) : leb_Get.l0 (k + 1) b a acc 10 = some (0, 0, 5) := by
  simp only [leb_Get.l0]
  rw [if_neg (by omega), if_pos True.intro]
theorem get_step (b : List Int) (hb : Bytes b) (hl : b.length ≤ 281474976710656) (m k i acc d : Nat) (hi : i + d = 9) (hmi : m + i ≤ b.length) (hacc : acc < 2 ^ (7 * i)) (hk : 1 < k)
    (next : d ≠ 0 → ∀ acc2 : Nat, m + (i + 1) ≤ b.length → acc2 < 2 ^ (7 * (i + 1)) → leb_Get.l0 (k - 1) b (m : Int) (acc2 : Int) ((i + 1 : Nat) : Int) = some (out acc2 m (i + 1) (readN d false (b.drop (m + (i + 1)))))) :
    leb_Get.l0 k b (m : Int) (acc : Int) (i : Int) = some (out acc m i (readN (d + 1) (decide (i = 0)) (b.drop (m + i)))) := by
  obtain ⟨k, rfl⟩ : ∃ m, k = m + 1 := ⟨k - 1, by omega⟩
  rw [Nat.add_sub_cancel] at next
  simp only [leb_Get.l0]
  have hi64 : IntKind.u64.wrap (i : Int) = (i : Int) := wu64 (by omega) (by omega)
  have h7 : IntKind.u64.wrap (7 * (i : Int)) = ((7 * i : Nat) : Int) := by rw [wu64 (by omega) (by omega)]; omega
  rw [if_pos (by omega), hi64, h7, w64 (i := (m : Int) + i) (by omega) (by omega)]
  by_cases hend : m + i = b.length
  · rw [if_pos (by omega), List.drop_eq_nil_of_le (by omega)]
    rfl
  · rw [if_neg (by omega), if_pos (by omega), if_pos (by omega), if_pos (by omega), show (m : Int) + i = ((m + i : Nat) : Int) by omega]
    obtain ⟨e1, e2, e3⟩ := bytes_rd hb (m + i) (by omega)
    rw [e1, List.drop_eq_getElem_cons (show m + i < b.length by omega)]
    generalize b[m + i]'(by omega) = c at e2 e3
    have hp9 := pow7_le (i := i) (by omega)
    have hx : IntKind.u64.wrap (bits .and .u8 c 127) = ((c.toNat % 128 : Nat) : Int) := by
      rw [and127 e2 e3, wu64 (by omega) (by omega)]; omega
    rw [hx]
    have hv : c.toNat % 128 * 2 ^ (7 * i) + acc < 18446744073709551616 → bits .or .u64 (acc : Int) (shl .u64 ((c.toNat % 128 : Nat) : Int) ((7 * i : Nat) : Int)) = ((acc + c.toNat % 128 * 2 ^ (7 * i) : Nat) : Int) := by
      intro h
      rw [shl_u64 _ _ (by omega) (by omega), or_u64 _ _ _ hacc (by omega)]
    by_cases hc : c < 128
    · rw [if_pos hc]
      have hs : ¬ ((d = 0 ∧ 1 < c) ∨ (decide (i = 0) = false ∧ c = 0)) → some (bits .or .u64 (acc : Int) (shl .u64 ((c.toNat % 128 : Nat) : Int) ((7 * i : Nat) : Int)), wrap64 (((m + i : Nat) : Int) + 1), (0 : Int)) = some (out acc m i (.ok (c.toNat, 1))) := by
        intro h
        rw [hv, w64 (by omega) (by omega), show c.toNat % 128 = c.toNat by omega]
        · rfl
        · by_cases h9 : d = 0
          · have h1 : ¬ 1 < c := fun q => h (Or.inl ⟨h9, q⟩)
            have : c.toNat % 128 * 2 ^ (7 * i) ≤ 1 * 2 ^ (7 * i) := Nat.mul_le_mul_right _ (by omega)
            omega
          · have h8 : (2 : Nat) ^ (7 * i) ≤ 72057594037927936 := Nat.le_trans (Nat.pow_le_pow_right (by decide) (show 7 * i ≤ 56 by omega)) (by decide)
            have : c.toNat % 128 * 2 ^ (7 * i) ≤ 127 * 2 ^ (7 * i) := Nat.mul_le_mul_right _ (by omega)
            omega
      unfold readN
      rw [if_pos hc, if_neg (show ¬ (i : Int) = 10 by omega)]
      by_cases h9 : i = 9
      · rw [if_pos (show (i : Int) = 9 by omega)]
        by_cases h1 : c > 1
        · rw [if_pos h1, if_pos (Or.inl ⟨by omega, h1⟩)]; rfl
        · rw [if_neg h1, if_pos (show (i : Int) > 0 by omega)]
          by_cases h0 : c = 0
          · rw [if_pos h0, if_pos (Or.inr ⟨decide_eq_false (by omega), h0⟩)]; rfl
          · have hn : ¬ ((d = 0 ∧ 1 < c) ∨ (decide (i = 0) = false ∧ c = 0)) := by rintro (⟨_, q⟩ | ⟨_, q⟩) <;> omega
            rw [if_neg h0, if_neg hn]; exact hs hn
      · rw [if_neg (show ¬ (i : Int) = 9 by omega)]
        by_cases hi0 : i = 0
        · have hn : ¬ ((d = 0 ∧ 1 < c) ∨ (decide (i = 0) = false ∧ c = 0)) := by
            rintro (⟨q, _⟩ | ⟨q, _⟩)
            · omega
            · rw [decide_eq_true hi0] at q; cases q
          rw [if_neg (show ¬ (i : Int) > 0 by omega), if_neg hn]; exact hs hn
        · rw [if_pos (show (i : Int) > 0 by omega)]
          by_cases h0 : c = 0
          · rw [if_pos h0, if_pos (Or.inr ⟨decide_eq_false hi0, h0⟩)]; rfl
          · have hn : ¬ ((d = 0 ∧ 1 < c) ∨ (decide (i = 0) = false ∧ c = 0)) := by rintro (⟨q, _⟩ | ⟨_, q⟩) <;> omega
            rw [if_neg h0, if_neg hn]; exact hs hn
    · rw [if_neg hc, w64 (by omega) (by omega), show (i : Int) + 1 = ((i + 1 : Nat) : Int) by omega]
      unfold readN
      rw [if_neg hc]
      by_cases h9 : d = 0
      · subst h9
        obtain rfl : i = 9 := by omega
        obtain ⟨k, rfl⟩ : ∃ m, k = m + 1 := ⟨k - 1, by omega⟩
        rw [show ((9 + 1 : Nat) : Int) = 10 from rfl, get_ten]
        rfl
      · have h8 : (2 : Nat) ^ (7 * i) ≤ 72057594037927936 := Nat.le_trans (Nat.pow_le_pow_right (by decide) (show 7 * i ≤ 56 by omega)) (by decide)
        have hle : c.toNat % 128 * 2 ^ (7 * i) ≤ 127 * 2 ^ (7 * i) := Nat.mul_le_mul_right _ (by omega)
        rw [hv (by omega), next h9 _ (by omega) (by rw [pow7]; omega), show m + (i + 1) = m + i + 1 by omega]
        cases hr : readN d false (b.drop (m + i + 1)) with
        | error e => rfl
        | ok p =>
          obtain ⟨v, n⟩ := p
          simp only [out, pow7]
          congr 2
          · congr 1
            have : c.toNat % 128 = c.toNat - 128 := by omega
            rw [this, Nat.add_mul, ← Nat.mul_assoc v, Nat.mul_comm v 128]
            omega
          · congr 1; congr 1; omega
theorem get_l (b : List Int) (hb : Bytes b) (hl : b.length ≤ 281474976710656) (m d : Nat) : ∀ (k i acc : Nat), i + d = 9 → m + i ≤ b.length → acc < 2 ^ (7 * i) → d + 1 < k →
    leb_Get.l0 k b (m : Int) (acc : Int) (i : Int) = some (out acc m i (readN (d + 1) (decide (i = 0)) (b.drop (m + i)))) := by
  induction d with
  | zero =>
    intro k i acc hi hmi hacc hk
    exact get_step b hb hl m k i acc 0 hi hmi hacc (by omega) (fun h => by omega)
  | succ d ih =>
    intro k i acc hi hmi hacc hk
    exact get_step b hb hl m k i acc (d + 1) hi hmi hacc (by omega) (fun _ acc2 h1 h2 => ih (k - 1) (i + 1) acc2 (by omega) h1 h2 (by omega))
theorem get_f (k : Nat) (b : List Int) (a : Int) (hb : Bytes b) (hl : b.length ≤ 281474976710656) (hk : 12 < k) : leb_Get.f k b a = some (gets b a) := by
  obtain ⟨k, rfl⟩ : ∃ m, k = m + 1 := ⟨k - 1, by omega⟩
  unfold leb_Get.f gets
  by_cases h0 : a < 0
  · rw [if_pos h0, if_pos (Or.inl h0)]
    simp only [leb_Get.j0, if_true]
  · rw [if_neg h0]
    by_cases h1 : (b.length : Int) < a
    · rw [if_pos (Or.inr h1), decide_eq_true (show a > (b.length : Int) from h1)]
      simp only [leb_Get.j0, if_true]
    · rw [if_neg (by rintro (q | q) <;> omega), decide_eq_false (show ¬ a > (b.length : Int) from h1)]
      simp only [leb_Get.j0, Bool.false_eq_true, if_false]
      obtain ⟨m, rfl⟩ := Int.eq_ofNat_of_zero_le (a := a) (by omega)
      have h := get_l b hb hl m 9 k 0 0 (by omega) (by omega) (by decide) (by omega)
      rw [show ((0 : Nat) : Int) = 0 from rfl] at h
      rw [h, Int.toNat_natCast, Nat.add_zero, decide_eq_true rfl]
      cases readN (9 + 1) true (b.drop m) with
      | error e => rfl
      | ok p =>
        obtain ⟨v, n⟩ := p
        show some (((0 + v * 2 ^ (7 * 0) : Nat) : Int), ((m + 0 + n : Nat) : Int), (0 : Int)) = some ((v : Int), (m : Int) + n, 0)
        rw [show 0 + v * 2 ^ (7 * 0) = v by omega, show ((m + 0 + n : Nat) : Int) = (m : Int) + n by omega]
theorem low_at (b : List Int) (m c : Nat) (h : m + c < b.length) : low (b.drop m) (c + 1) = low (b.drop m) c + (b[m + c]'h).toNat % 128 * 2 ^ (7 * c) := by
  rw [low, List.getD_eq_getElem?_getD, List.getElem?_drop, List.getElem?_eq_getElem h]; rfl
theorem ref_l1 (b : List Int) (hb : Bytes b) (hl : b.length ≤ 281474976710656) (m n : Nat) (hn : m + n < b.length) : ∀ c k v : Nat, c ≤ n + 1 → c < k → v * 2 ^ (7 * c) + low (b.drop m) c < 18446744073709551616 →
    stookref01_Get.l1 k b (m : Int) (n : Int) (v : Int) ((c : Int) - 1) = some (((v * 2 ^ (7 * c) + low (b.drop m) c : Nat) : Int), ((m + n + 1 : Nat) : Int), 0) := by
  intro c
  induction c with
  | zero =>
    intro k v _ hk _
    obtain ⟨k, rfl⟩ : ∃ m, k = m + 1 := ⟨k - 1, by omega⟩
    simp only [stookref01_Get.l1]
    rw [if_neg (by omega), w64 (i := (m : Int) + n) (by omega) (by omega), w64 (by omega) (by omega)]
    simp [low]
  | succ c ih =>
    intro k v hc hk hv
    obtain ⟨k, rfl⟩ : ∃ m, k = m + 1 := ⟨k - 1, by omega⟩
    simp only [stookref01_Get.l1]
    obtain ⟨e1, e2, e3⟩ := bytes_rd hb (m + c) (by omega)
    have hlow := low_at b m c (by omega)
    obtain ⟨x, hx⟩ := Int.eq_ofNat_of_zero_le e2
    have hxn : x < 256 := by omega
    rw [hx] at hlow
    rw [hlow, pow7] at hv
    have hp : 1 ≤ (2 : Nat) ^ (7 * c) := Nat.pos_of_ne_zero (by simp)
    have hmul : v * (128 * 2 ^ (7 * c)) = (128 * v) * 2 ^ (7 * c) := by rw [← Nat.mul_assoc, Nat.mul_comm v]
    have hsum : (128 * v) * 2 ^ (7 * c) + x % 128 * 2 ^ (7 * c) = (128 * v + x % 128) * 2 ^ (7 * c) := (Nat.add_mul _ _ _).symm
    rw [Int.toNat_natCast] at hlow hv
    have hbig : 128 * v + x % 128 ≤ (128 * v + x % 128) * 2 ^ (7 * c) := Nat.le_mul_of_pos_right _ hp
    have e4 : Int.tmod (x : Int) 128 = ((x % 128 : Nat) : Int) := rfl
    rw [show (((c + 1 : Nat) : Int) - 1) = (c : Int) by omega, if_pos (by omega), w64 (i := (m : Int) + c) (by omega) (by omega), if_pos (by omega), if_pos (by omega), show (m : Int) + c = ((m + c : Nat) : Int) by omega, e1, hx, e4,
      wu64 (i := 128 * (v : Int)) (by omega) (by omega), wu64 (i := ((x % 128 : Nat) : Int)) (by omega) (by omega), show 128 * (v : Int) + ((x % 128 : Nat) : Int) = ((128 * v + x % 128 : Nat) : Int) by omega,
      wu64 (by omega) (by omega), w64 (by omega) (by omega), ih k (128 * v + x % 128) (by omega) (by omega) (by omega), hlow, pow7, hmul]
    congr 2
    omega
theorem ref_j3 (b : List Int) (hb : Bytes b) (hl : b.length ≤ 281474976710656) (m i k : Nat) (hi : m + i < b.length) (h9 : i ≤ 9) (hk : 12 < k) (hv : low (b.drop m) (i + 1) < 18446744073709551616) :
    stookref01_Get.j3 k b (m : Int) (i : Int) false = some (((low (b.drop m) (i + 1) : Nat) : Int), ((m + i + 1 : Nat) : Int), 0) := by
  obtain ⟨k, rfl⟩ : ∃ m, k = m + 1 := ⟨k - 1, by omega⟩
  simp only [stookref01_Get.j3, Bool.false_eq_true, if_false]
  have h := ref_l1 b hb hl m i hi (i + 1) k 0 (by omega) (by omega) (by omega)
  rw [show (((i + 1 : Nat) : Int) - 1) = (i : Int) by omega, show ((0 : Nat) : Int) = 0 from rfl, Nat.zero_mul, Nat.zero_add] at h
  exact h
theorem ref_j3t (b : List Int) (m i : Int) (k : Nat) (hk : 1 < k) : stookref01_Get.j3 k b m i true = some (0, 0, 5) := by
  obtain ⟨k, rfl⟩ : ∃ m, k = m + 1 := ⟨k - 1, by omega⟩
  simp only [stookref01_Get.j3, if_true]
theorem ref_j2 (b : List Int) (hb : Bytes b) (hl : b.length ≤ 281474976710656) (m i d k : Nat) (hi : i + d = 9) (hmi : m + i ≤ b.length) (hk : 14 < k) (hc : ∀ h : m + i < b.length, i < 9 → b[m + i]'h < 128) :
    stookref01_Get.j2 k b (m : Int) (i : Int) = some (out (low (b.drop m) i) m i (readN (d + 1) (decide (i = 0)) (b.drop (m + i)))) := by
  obtain ⟨k, rfl⟩ : ∃ m, k = m + 1 := ⟨k - 1, by omega⟩
  simp only [stookref01_Get.j2]
  rw [w64 (i := (m : Int) + i) (by omega) (by omega)]
  by_cases hend : m + i = b.length
  · rw [if_pos (by omega), List.drop_eq_nil_of_le (show b.length ≤ m + i by omega)]
    rfl
  · have hlt : m + i < b.length := by omega
    rw [if_neg (by omega), if_pos (by omega), if_pos (by omega), show (m : Int) + i = ((m + i : Nat) : Int) by omega]
    obtain ⟨e1, e2, e3⟩ := bytes_rd hb (m + i) hlt
    have hl1 := low_at b m i hlt
    have hl0 := low_lt (b.drop m) i
    have hp9 := pow7_le (i := i) (by omega)
    rw [e1, List.drop_eq_getElem_cons hlt]
    have hcc := hc hlt
    have key := ref_j3 b hb hl m i k hlt (by omega) (by omega)
    rw [hl1] at key
    generalize b[m + i]'hlt = c at e2 e3 hcc hl1 key
    unfold readN
    have fin : ∀ q : Bool, c < 128 → (d = 0 → c ≤ 1) → q = decide (i ≠ 0 ∧ c = 0) → stookref01_Get.j3 k b (m : Int) (i : Int) q = some (out (low (b.drop m) i) m i (if (d = 0 ∧ 1 < c) ∨ (decide (i = 0) = false ∧ c = 0) then .error 5 else .ok (c.toNat, 1))) := by
      intro q h1 h2 hq
      by_cases h3 : i ≠ 0 ∧ c = 0
      · rw [hq, decide_eq_true h3, ref_j3t _ _ _ _ (by omega), if_pos (Or.inr ⟨decide_eq_false h3.1, h3.2⟩)]; rfl
      · rw [hq, decide_eq_false h3, if_neg]
        · have hv : low (b.drop m) i + c.toNat % 128 * 2 ^ (7 * i) < 18446744073709551616 := by
            by_cases h9 : d = 0
            · have := h2 h9
              have : c.toNat % 128 * 2 ^ (7 * i) ≤ 1 * 2 ^ (7 * i) := Nat.mul_le_mul_right _ (by omega)
              omega
            · have h8 : (2 : Nat) ^ (7 * i) ≤ 72057594037927936 := Nat.le_trans (Nat.pow_le_pow_right (by decide) (show 7 * i ≤ 56 by omega)) (by decide)
              have : c.toNat % 128 * 2 ^ (7 * i) ≤ 127 * 2 ^ (7 * i) := Nat.mul_le_mul_right _ (by omega)
              omega
          rw [key hv, show c.toNat % 128 = c.toNat by omega]
          rfl
        · rintro (⟨h4, h5⟩ | ⟨h4, h5⟩)
          · have := h2 h4; omega
          · exact h3 ⟨of_decide_eq_false h4, h5⟩
    by_cases h9 : i = 9
    · rw [if_pos (show (i : Int) = 9 by omega)]
      by_cases h1 : c > 1
      · rw [if_pos h1, ref_j3t _ _ _ _ (by omega)]
        by_cases h2 : c < 128
        · rw [if_pos h2, if_pos (Or.inl ⟨by omega, h1⟩)]; rfl
        · obtain rfl : d = 0 := by omega
          rw [if_neg h2]; rfl
      · rw [if_neg h1, if_pos (show (i : Int) > 0 by omega), if_pos (show c < 128 by omega)]
        refine fin _ (by omega) (fun _ => by omega) ?_
        by_cases h0 : c = 0
        · rw [h0, decide_eq_true ⟨by omega, rfl⟩]; rfl
        · rw [decide_eq_false (fun q => h0 q.2)]; exact beq_eq_false_iff_ne.2 h0
    · rw [if_neg (show ¬ (i : Int) = 9 by omega), if_pos (hcc (by omega))]
      by_cases hi0 : i = 0
      · rw [if_neg (show ¬ (i : Int) > 0 by omega)]
        exact fin _ (hcc (by omega)) (fun _ => by omega) (decide_eq_false (fun q => q.1 hi0)).symm
      · rw [if_pos (show (i : Int) > 0 by omega)]
        refine fin _ (hcc (by omega)) (fun _ => by omega) ?_
        by_cases h0 : c = 0
        · rw [h0, decide_eq_true ⟨hi0, rfl⟩]; rfl
        · rw [decide_eq_false (fun q => h0 q.2)]; exact beq_eq_false_iff_ne.2 h0
theorem ref_l0 (b : List Int) (hb : Bytes b) (hl : b.length ≤ 281474976710656) (m d : Nat) : ∀ (k i : Nat), i + d = 9 → m + i ≤ b.length → d + 15 < k →
    stookref01_Get.l0 k b (m : Int) (i : Int) = some (out (low (b.drop m) i) m i (readN (d + 1) (decide (i = 0)) (b.drop (m + i)))) := by
  induction d with
  | zero =>
    intro k i hi hmi hk
    obtain ⟨k, rfl⟩ : ∃ m, k = m + 1 := ⟨k - 1, by omega⟩
    simp only [stookref01_Get.l0]
    rw [if_neg (by omega)]
    exact ref_j2 b hb hl m i 0 k hi hmi (by omega) (fun _ h => by omega)
  | succ d ih =>
    intro k i hi hmi hk
    obtain ⟨k, rfl⟩ : ∃ m, k = m + 1 := ⟨k - 1, by omega⟩
    simp only [stookref01_Get.l0]
    rw [if_pos (by omega), w64 (i := (m : Int) + i) (by omega) (by omega)]
    by_cases hlt : m + i < b.length
    · obtain ⟨e1, e2, e3⟩ := bytes_rd hb (m + i) hlt
      rw [if_pos (by omega), if_pos (by omega), show (m : Int) + i = ((m + i : Nat) : Int) by omega, e1]
      by_cases hc : b[m + i]'hlt < 128
      · rw [if_neg (by omega)]
        exact ref_j2 b hb hl m i (d + 1) k hi hmi (by omega) (fun _ _ => hc)
      · rw [if_pos (by omega), w64 (by omega) (by omega), show (i : Int) + 1 = ((i + 1 : Nat) : Int) by omega, ih k (i + 1) (by omega) (by omega) (by omega), low_at b m i hlt, List.drop_eq_getElem_cons hlt, show m + (i + 1) = m + i + 1 by omega]
        generalize b[m + i]'hlt = c at e2 e3 hc
        conv => rhs; unfold readN
        rw [if_neg hc, decide_eq_false (show ¬ i + 1 = 0 by omega)]
        cases hr : readN (d + 1) false (b.drop (m + i + 1)) with
        | error e => rfl
        | ok p =>
          obtain ⟨v, n⟩ := p
          simp only [out, pow7]
          congr 2
          · congr 1
            have : c.toNat % 128 = c.toNat - 128 := by omega
            rw [this, Nat.add_mul, ← Nat.mul_assoc v, Nat.mul_comm v 128]
            omega
          · congr 1; congr 1; omega
    · rw [if_neg (by omega)]
      exact ref_j2 b hb hl m i (d + 1) k hi hmi (by omega) (fun h => absurd h hlt)
theorem refget_f (k : Nat) (b : List Int) (a : Int) (hb : Bytes b) (hl : b.length ≤ 281474976710656) (hk : 26 < k) : stookref01_Get.f k b a = some (gets b a) := by
  obtain ⟨k, rfl⟩ : ∃ m, k = m + 1 := ⟨k - 1, by omega⟩
  unfold stookref01_Get.f gets
  by_cases h0 : a < 0
  · rw [if_pos h0, if_pos (Or.inl h0)]
    simp only [stookref01_Get.j0, if_true]
  · rw [if_neg h0]
    by_cases h1 : (b.length : Int) < a
    · rw [if_pos (Or.inr h1), decide_eq_true (show a > (b.length : Int) from h1)]
      simp only [stookref01_Get.j0, if_true]
    · rw [if_neg (by rintro (q | q) <;> omega), decide_eq_false (show ¬ a > (b.length : Int) from h1)]
      simp only [stookref01_Get.j0, Bool.false_eq_true, if_false]
      obtain ⟨m, rfl⟩ := Int.eq_ofNat_of_zero_le (a := a) (by omega)
      have h := ref_l0 b hb hl m 9 k 0 (by omega) (by omega) (by omega)
      rw [show ((0 : Nat) : Int) = 0 from rfl] at h
      rw [h, Int.toNat_natCast, Nat.add_zero, decide_eq_true rfl]
      cases readN (9 + 1) true (b.drop m) with
      | error e => rfl
      | ok p =>
        obtain ⟨v, n⟩ := p
        show some (((low (b.drop m) 0 + v * 2 ^ (7 * 0) : Nat) : Int), ((m + 0 + n : Nat) : Int), (0 : Int)) = some ((v : Int), (m : Int) + n, 0)
        rw [show low (b.drop m) 0 = 0 from rfl, show 0 + v * 2 ^ (7 * 0) = v by omega, show ((m + 0 + n : Nat) : Int) = (m : Int) + n by omega]
end Go.Proofs.Ytjefgdggjchhbaa.Pure
