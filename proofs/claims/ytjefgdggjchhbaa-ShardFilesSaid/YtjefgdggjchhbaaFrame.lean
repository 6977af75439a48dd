/- Payloads that tell where they end, and whether they are whole: what a frame is, how it is read, how bytes are scanned. No program. No condition. -/
import Derived.Test.YtjefgdggjchhbaaPLebTwo
import Derived.Test.YtjefgdggjchhbaaPCrc
namespace Go.Proofs.Ytjefgdggjchhbaa.Pure
open Go Go.RowKit Go.Proofs.Ytjefgdggjchhbaa.PAll Go.Proofs.Ytjefgdggjchhbaa.Crc Go.Proofs.Ytjefgdggjchhbaa.Leb Go.Proofs.YtjefgdggjchhbaaVW.PrintWords Go.Proofs.YtjefgdggjchhbaaVW.PrintLast

/-- The sum of whole numbers that are bytes. -/
def crcs (l : List Int) : Int := ((Crc.sum (l.map (BitVec.ofInt 8))).toNat : Int)
theorem bytes_nat8 {l : List Int} (h : Bytes l) : nat8 (l.map (BitVec.ofInt 8)) = l := by
  unfold nat8
  rw [List.map_map]
  conv => rhs; rw [← List.map_id l]
  apply List.map_congr_left
  intro x hx
  have h2 := h x hx
  show ((BitVec.ofInt 8 x).toNat : Int) = x
  rw [BitVec.toNat_ofInt]
  omega
theorem crcs_range (l : List Int) : 0 ≤ crcs l ∧ crcs l < 4294967296 := by
  unfold crcs
  have := (Crc.sum (l.map (BitVec.ofInt 8))).isLt
  omega
theorem crc_f (k : Nat) (l : List Int) (h : Bytes l) (hl : l.length ≤ 140737488355328) (hk : l.length + 8 < k) : crc_Of.f k l = some (crcs l) := by
  have e := of_f k (l.map (BitVec.ofInt 8)) (by simpa using hl) (by simpa using hk)
  rw [bytes_nat8 h] at e
  exact e
theorem refcrc_f (k : Nat) (l : List Int) (h : Bytes l) (hl : l.length ≤ 140737488355328) (hk : l.length + 8 < k) : stookref02_Of.f k l = some (crcs l) := by
  have e := refof_f k (l.map (BitVec.ofInt 8)) (by simpa using hl) (by simpa using hk)
  rw [bytes_nat8 h] at e
  exact e
/-- A number's four bytes. -/
def four (t : Int) : List Int := [t % 256, t / 256 % 256, t / 65536 % 256, t / 16777216 % 256]
theorem four_len (t : Int) : (four t).length = 4 := rfl
theorem four_bytes (t : Int) : Bytes (four t) := by
  intro x hx
  simp only [four, List.mem_cons, List.not_mem_nil, or_false] at hx
  omega
theorem four_eq {a b c d t : Int} (ha : 0 ≤ a ∧ a < 256) (hb : 0 ≤ b ∧ b < 256) (hc : 0 ≤ c ∧ c < 256) (hd : 0 ≤ d ∧ d < 256) (ht : 0 ≤ t ∧ t < 4294967296) : t = a + b * 256 + c * 65536 + d * 16777216 ↔ [a, b, c, d] = four t := by
  simp only [four, List.cons.injEq, and_true]
  omega
theorem or_u32 (a b : Nat) (n : Nat) (ha : a < 2 ^ n) (h : a + b * 2 ^ n < 4294967296) : bits .or .u32 (a : Int) ((b * 2 ^ n : Nat) : Int) = ((a + b * 2 ^ n : Nat) : Int) := by
  have o : ∀ m : Nat, m < 4294967296 → (BitVec.ofInt 32 (m : Int)).toNat = m := fun m hm => by rw [BitVec.toNat_ofInt]; omega
  show IntKind.u32.wrap (((BitVec.ofInt 32 (a : Int)) ||| (BitVec.ofInt 32 ((b * 2 ^ n : Nat) : Int))).toNat : Int) = _
  rw [BitVec.toNat_or, o a (by omega), o _ (by omega), Nat.or_comm, Nat.mul_comm b, ← Nat.two_pow_add_eq_or_of_lt ha, wrap_u32, Nat.mul_comm (2 ^ n) b]
  generalize b * 2 ^ n = z at h
  omega
theorem word_or {a b c d : Int} (ha : 0 ≤ a ∧ a < 256) (hb : 0 ≤ b ∧ b < 256) (hc : 0 ≤ c ∧ c < 256) (hd : 0 ≤ d ∧ d < 256) :
    bits .or .u32 (bits .or .u32 (bits .or .u32 (a % 4294967296) (((b % 4294967296) * 256) % 4294967296)) (((c % 4294967296) * 65536) % 4294967296)) (((d % 4294967296) * 16777216) % 4294967296) = a + b * 256 + c * 65536 + d * 16777216 := by
  obtain ⟨a, rfl⟩ := Int.eq_ofNat_of_zero_le ha.1
  obtain ⟨b, rfl⟩ := Int.eq_ofNat_of_zero_le hb.1
  obtain ⟨c, rfl⟩ := Int.eq_ofNat_of_zero_le hc.1
  obtain ⟨d, rfl⟩ := Int.eq_ofNat_of_zero_le hd.1
  have e1 : ((b : Int) % 4294967296 * 256) % 4294967296 = ((b * 2 ^ 8 : Nat) : Int) := by omega
  have e2 : ((c : Int) % 4294967296 * 65536) % 4294967296 = ((c * 2 ^ 16 : Nat) : Int) := by omega
  have e3 : ((d : Int) % 4294967296 * 16777216) % 4294967296 = ((d * 2 ^ 24 : Nat) : Int) := by omega
  rw [e1, e2, e3, show (a : Int) % 4294967296 = (a : Int) by omega, or_u32 a b 8 (by omega) (by omega), or_u32 _ c 16 (by omega) (by omega), or_u32 _ d 24 (by omega) (by omega)]
  omega
/-- A payload's frame. -/
def fput (p : List Int) : List Int × Int := if 65536 < p.length then ([], 3) else ((enc p.length ++ p) ++ four (crcs (enc p.length ++ p)), 0)
def fsize (n : Int) : Int := if n < 0 ∨ 65536 < n then 0 else ((enc n.toNat).length : Int) + n + 4
/-- What is read at a place. -/
def fget (b : List Int) (a : Int) : List Int × Int × Int :=
  if (rows b a 65536).2.2 = 0 then
    (if (b.length : Int) - (rows b a 65536).2.1 < 4 then ([], 0, 4)
    else if (b.drop (rows b a 65536).2.1.toNat).take 4 = four (crcs ((b.take (rows b a 65536).2.1.toNat).drop a.toNat)) then ((rows b a 65536).1, (rows b a 65536).2.1 + 4, 0) else ([], 0, 6))
  else ([], 0, (rows b a 65536).2.2)
/-- Rows, each with its error or its place. -/
theorem rows_cases (b : List Int) (a most : Int) (hb : Bytes b) (hm : most < 9223372036854775808) :
    (∃ e, e ≠ 0 ∧ rows b a most = ([], 0, e)) ∨ ∃ (p : List Int) (m n : Nat), a = (m : Int) ∧ rows b a most = (p, ((m + n : Nat) : Int), 0) ∧ (p.length : Int) ≤ most ∧ enc p.length ++ p = (b.drop m).take n ∧ n = (enc p.length).length + p.length ∧ m + n ≤ b.length ∧ p.length < 18446744073709551616 := by
  unfold rows
  rcases cnt_cases b a most hb hm with ⟨e, he, h⟩ | ⟨v, n, m, rfl, hv, h, hen, hmn, h1, h10⟩
  · rw [h, if_neg he]; exact Or.inl ⟨e, he, rfl⟩
  · rw [h, if_pos rfl]
    by_cases h2 : (v : Int) > (b.length : Int) - ((m + n : Nat) : Int)
    · rw [if_pos h2]; exact Or.inl ⟨4, by decide, rfl⟩
    · rw [if_neg h2]
      simp only [Int.toNat_natCast]
      have hl : ((b.drop (m + n)).take v).length = v := by rw [List.length_take, List.length_drop]; omega
      have he : (enc v).length = n := by rw [hen, List.length_take, List.length_drop]; omega
      refine Or.inr ⟨(b.drop (m + n)).take v, m, n + v, rfl, ?_, by omega, ?_, by rw [hl, he], by omega, by omega⟩
      · rw [show ((m + n : Nat) : Int) + (v : Int) = ((m + (n + v) : Nat) : Int) by omega]
      · rw [hl, hen, List.take_add, List.drop_drop]
theorem fget_cases (b : List Int) (a : Int) (hb : Bytes b) :
    (∃ e, e ≠ 0 ∧ fget b a = ([], 0, e)) ∨ ∃ (p : List Int) (m n : Nat), a = (m : Int) ∧ fget b a = (p, ((m + n : Nat) : Int), 0) ∧ fput p = ((b.drop m).take n, 0) ∧ p.length ≤ 65536 ∧ n = (enc p.length).length + p.length + 4 ∧ m + n ≤ b.length := by
  unfold fget
  rcases rows_cases b a 65536 hb (by decide) with ⟨e, he, h⟩ | ⟨p, m, n, rfl, h, hp, hrow, hn, hmn, _⟩
  · rw [h, if_neg he]; exact Or.inl ⟨e, he, rfl⟩
  · rw [h, if_pos rfl]
    by_cases h4 : (b.length : Int) - ((m + n : Nat) : Int) < 4
    · rw [if_pos h4]; exact Or.inl ⟨4, by decide, rfl⟩
    · rw [if_neg h4]
      simp only [Int.toNat_natCast]
      rw [List.drop_take, show m + n - m = n by omega, ← hrow]
      by_cases hs : (b.drop (m + n)).take 4 = four (crcs (enc p.length ++ p))
      · rw [if_pos hs]
        refine Or.inr ⟨p, m, n + 4, rfl, ?_, ?_, by omega, by omega, by omega⟩
        · rw [show ((m + n : Nat) : Int) + 4 = ((m + (n + 4) : Nat) : Int) by omega]
        · unfold fput
          rw [if_neg (by omega), List.take_add, List.drop_drop, hs, ← hrow]
      · rw [if_neg hs]; exact Or.inl ⟨6, by decide, rfl⟩
theorem fput_get (p c a z : List Int) (h : fput p = (c, 0)) : fget (a ++ c ++ z) (a.length : Int) = (p, ((a.length + c.length : Nat) : Int), 0) := by
  unfold fput at h
  by_cases hp : 65536 < p.length
  · rw [if_pos hp] at h; cases h
  · rw [if_neg hp] at h
    simp only [Prod.mk.injEq, and_true] at h
    subst h
    have e : a ++ ((enc p.length ++ p) ++ four (crcs (enc p.length ++ p))) ++ z = a ++ (enc p.length ++ p) ++ (four (crcs (enc p.length ++ p)) ++ z) := by simp
    have hr := rows_enc a p (four (crcs (enc p.length ++ p)) ++ z) 65536 (by omega) (by decide)
    unfold fget
    rw [e, hr, if_pos rfl]
    simp only [Int.toNat_natCast]
    have hl : (a ++ (enc p.length ++ p)).length = a.length + (enc p.length ++ p).length := List.length_append
    rw [if_neg (by simp only [List.length_append, four_len]; omega), List.drop_left' hl, List.take_left' (four_len _), List.take_left' hl, List.drop_left, if_pos rfl]
    congr 2
    simp only [List.length_append, four_len]; omega
theorem fget_step (b : List Int) (hb : Bytes b) (a : Nat) (h : (fget b (a : Int)).2.2 = 0) : ∃ (p : List Int) (n : Nat), fget b (a : Int) = (p, ((a + n : Nat) : Int), 0) ∧ 5 ≤ n ∧ a + n ≤ b.length ∧ p.length ≤ 65536 ∧ p.length < n := by
  rcases fget_cases b (a : Int) hb with ⟨e, he, hf⟩ | ⟨p, m, n, hm, hf, hp, hl, hn, hmn⟩
  · rw [hf] at h; exact absurd h he
  · obtain rfl : a = m := by omega
    have := enc_pos p.length
    exact ⟨p, n, hf, by omega, hmn, hl, by omega⟩
end Go.Proofs.Ytjefgdggjchhbaa.Pure
