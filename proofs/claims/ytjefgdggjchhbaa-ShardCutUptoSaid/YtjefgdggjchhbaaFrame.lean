/- Payloads that tell where they end, and whether they are whole: what a frame is, how it is read, how bytes are scanned. No program. No condition. -/
import Derived.Test.YtjefgdggjchhbaaPLebTwo
import Derived.Test.YtjefgdggjchhbaaPCrc
namespace Go.Proofs.Ytjefgdggjchhbaa.Pure
open Go Go.RowKit Go.Proofs.Ytjefgdggjchhbaa.PAll Go.Proofs.Ytjefgdggjchhbaa.Crc Go.Proofs.Ytjefgdggjchhbaa.Leb Go.Proofs.YtjefgdggjchhbaaVW.PrintWords Go.Proofs.YtjefgdggjchhbaaVW.PrintLast

/-- The sum of whole numbers that are bytes. -/
def crcs (l : List Int) : Int := ((Crc.sum (l.map (BitVec.ofInt 8))).toNat : Int)
theorem bits_nat8 (m : List (BitVec 8)) : (nat8 m).map (BitVec.ofInt 8) = m := by
  unfold nat8
  rw [List.map_map]
  conv => rhs; rw [← List.map_id m]
  apply List.map_congr_left
  intro x _
  exact ofInt8 x
theorem bytes_nat8 {l : List Int} (h : Bytes l) : nat8 (l.map (BitVec.ofInt 8)) = l := by
  unfold nat8
  rw [List.map_map]
  conv => rhs; rw [← List.map_id l]
  apply List.map_congr_left
  intro x hx
  have h2 := h x hx
  show ((BitVec.ofInt 8 x).toNat : Int) = x
  rw [BitVec.toNat_ofInt]
  omega
theorem nat8_bytes (m : List (BitVec 8)) : Bytes (nat8 m) := by
  intro x hx
  unfold nat8 at hx
  obtain ⟨c, _, rfl⟩ := List.mem_map.1 hx
  have := c.isLt
  omega
theorem crcs_nat8 (m : List (BitVec 8)) : crcs (nat8 m) = ((Crc.sum m).toNat : Int) := by
  unfold crcs
  rw [bits_nat8]
theorem crcs_range (l : List Int) : 0 ≤ crcs l ∧ crcs l < 4294967296 := by
  unfold crcs
  have := (Crc.sum (l.map (BitVec.ofInt 8))).isLt
  omega
theorem crc_f (k : Nat) (l : List Int) (h : Bytes l) (hl : l.length ≤ 140737488355328) (hk : l.length + 8 < k) : crc_Of.f k l = some (crcs l) := by
  have e := of_f k (l.map (BitVec.ofInt 8)) (by simpa using hl) (by simpa using hk)
  rw [bytes_nat8 h] at e
  exact e
theorem refcrc_f (k : Nat) (l : List Int) (h : Bytes l) (hl : l.length ≤ 140737488355328) (hk : l.length + 8 < k) : stookref02_Of.f k l = some (crcs l) := by
  have e := refof_f k (l.map (BitVec.ofInt 8)) (by simpa using hl) (by simpa using hk)
  rw [bytes_nat8 h] at e
  exact e
/-- A number's four bytes. -/
def four (t : Int) : List Int := [t % 256, t / 256 % 256, t / 65536 % 256, t / 16777216 % 256]
theorem four_len (t : Int) : (four t).length = 4 := rfl
theorem four_bytes (t : Int) : Bytes (four t) := by
  intro x hx
  simp only [four, List.mem_cons, List.not_mem_nil, or_false] at hx
  omega
theorem four_eq {a b c d t : Int} (ha : 0 ≤ a ∧ a < 256) (hb : 0 ≤ b ∧ b < 256) (hc : 0 ≤ c ∧ c < 256) (hd : 0 ≤ d ∧ d < 256) (ht : 0 ≤ t ∧ t < 4294967296) : t = a + b * 256 + c * 65536 + d * 16777216 ↔ [a, b, c, d] = four t := by
  simp only [four, List.cons.injEq, and_true]
  omega
theorem wrap_u32' {i : Int} (h0 : 0 ≤ i) (h : i < 4294967296) : IntKind.u32.wrap i = i := by rw [wrap_u32]; omega
theorem or_u32 (a b : Nat) (n : Nat) (ha : a < 2 ^ n) (h : a + b * 2 ^ n < 4294967296) : bits .or .u32 (a : Int) ((b * 2 ^ n : Nat) : Int) = ((a + b * 2 ^ n : Nat) : Int) := by
  have o : ∀ m : Nat, m < 4294967296 → (BitVec.ofInt 32 (m : Int)).toNat = m := fun m hm => by rw [BitVec.toNat_ofInt]; omega
  show IntKind.u32.wrap (((BitVec.ofInt 32 (a : Int)) ||| (BitVec.ofInt 32 ((b * 2 ^ n : Nat) : Int))).toNat : Int) = _
  rw [BitVec.toNat_or, o a (by omega), o _ (by omega), Nat.or_comm, Nat.mul_comm b, ← Nat.two_pow_add_eq_or_of_lt ha, wrap_u32, Nat.mul_comm (2 ^ n) b]
  generalize b * 2 ^ n = z at h
  omega
theorem word_or {a b c d : Int} (ha : 0 ≤ a ∧ a < 256) (hb : 0 ≤ b ∧ b < 256) (hc : 0 ≤ c ∧ c < 256) (hd : 0 ≤ d ∧ d < 256) :
    bits .or .u32 (bits .or .u32 (bits .or .u32 (a % 4294967296) (((b % 4294967296) * 256) % 4294967296)) (((c % 4294967296) * 65536) % 4294967296)) (((d % 4294967296) * 16777216) % 4294967296) = a + b * 256 + c * 65536 + d * 16777216 := by
  obtain ⟨a, rfl⟩ := Int.eq_ofNat_of_zero_le ha.1
  obtain ⟨b, rfl⟩ := Int.eq_ofNat_of_zero_le hb.1
  obtain ⟨c, rfl⟩ := Int.eq_ofNat_of_zero_le hc.1
  obtain ⟨d, rfl⟩ := Int.eq_ofNat_of_zero_le hd.1
  have e1 : ((b : Int) % 4294967296 * 256) % 4294967296 = ((b * 2 ^ 8 : Nat) : Int) := by omega
  have e2 : ((c : Int) % 4294967296 * 65536) % 4294967296 = ((c * 2 ^ 16 : Nat) : Int) := by omega
  have e3 : ((d : Int) % 4294967296 * 16777216) % 4294967296 = ((d * 2 ^ 24 : Nat) : Int) := by omega
  rw [e1, e2, e3, show (a : Int) % 4294967296 = (a : Int) by omega, or_u32 a b 8 (by omega) (by omega), or_u32 _ c 16 (by omega) (by omega), or_u32 _ d 24 (by omega) (by omega)]
  omega
/-- A payload's frame. -/
def fput (p : List Int) : List Int × Int := if 65536 < p.length then ([], 3) else ((enc p.length ++ p) ++ four (crcs (enc p.length ++ p)), 0)
def fsize (n : Int) : Int := if n < 0 ∨ 65536 < n then 0 else ((enc n.toNat).length : Int) + n + 4
/-- What is read at a place. -/
def fget (b : List Int) (a : Int) : List Int × Int × Int :=
  if (rows b a 65536).2.2 = 0 then
    (if (b.length : Int) - (rows b a 65536).2.1 < 4 then ([], 0, 4)
    else if (b.drop (rows b a 65536).2.1.toNat).take 4 = four (crcs ((b.take (rows b a 65536).2.1.toNat).drop a.toNat)) then ((rows b a 65536).1, (rows b a 65536).2.1 + 4, 0) else ([], 0, 6))
  else ([], 0, (rows b a 65536).2.2)
/-- Rows, each with its error or its place. -/
theorem rows_cases (b : List Int) (a most : Int) (hb : Bytes b) (hm : most < 9223372036854775808) :
    (∃ e, e ≠ 0 ∧ rows b a most = ([], 0, e)) ∨ ∃ (p : List Int) (m n : Nat), a = (m : Int) ∧ rows b a most = (p, ((m + n : Nat) : Int), 0) ∧ (p.length : Int) ≤ most ∧ enc p.length ++ p = (b.drop m).take n ∧ n = (enc p.length).length + p.length ∧ m + n ≤ b.length ∧ p.length < 18446744073709551616 := by
  unfold rows
  rcases cnt_cases b a most hb hm with ⟨e, he, h⟩ | ⟨v, n, m, rfl, hv, h, hen, hmn, h1, h10⟩
  · rw [h, if_neg he]; exact Or.inl ⟨e, he, rfl⟩
  · rw [h, if_pos rfl]
    by_cases h2 : (v : Int) > (b.length : Int) - ((m + n : Nat) : Int)
    · rw [if_pos h2]; exact Or.inl ⟨4, by decide, rfl⟩
    · rw [if_neg h2]
      simp only [Int.toNat_natCast]
      have hl : ((b.drop (m + n)).take v).length = v := by rw [List.length_take, List.length_drop]; omega
      have he : (enc v).length = n := by rw [hen, List.length_take, List.length_drop]; omega
      refine Or.inr ⟨(b.drop (m + n)).take v, m, n + v, rfl, ?_, by omega, ?_, by rw [hl, he], by omega, by omega⟩
      · rw [show ((m + n : Nat) : Int) + (v : Int) = ((m + (n + v) : Nat) : Int) by omega]
      · rw [hl, hen, List.take_add, List.drop_drop]
theorem fget_cases (b : List Int) (a : Int) (hb : Bytes b) :
    (∃ e, e ≠ 0 ∧ fget b a = ([], 0, e)) ∨ ∃ (p : List Int) (m n : Nat), a = (m : Int) ∧ fget b a = (p, ((m + n : Nat) : Int), 0) ∧ fput p = ((b.drop m).take n, 0) ∧ p.length ≤ 65536 ∧ n = (enc p.length).length + p.length + 4 ∧ m + n ≤ b.length := by
  unfold fget
  rcases rows_cases b a 65536 hb (by decide) with ⟨e, he, h⟩ | ⟨p, m, n, rfl, h, hp, hrow, hn, hmn, _⟩
  · rw [h, if_neg he]; exact Or.inl ⟨e, he, rfl⟩
  · rw [h, if_pos rfl]
    by_cases h4 : (b.length : Int) - ((m + n : Nat) : Int) < 4
    · rw [if_pos h4]; exact Or.inl ⟨4, by decide, rfl⟩
    · rw [if_neg h4]
      simp only [Int.toNat_natCast]
      rw [List.drop_take, show m + n - m = n by omega, ← hrow]
      by_cases hs : (b.drop (m + n)).take 4 = four (crcs (enc p.length ++ p))
      · rw [if_pos hs]
        refine Or.inr ⟨p, m, n + 4, rfl, ?_, ?_, by omega, by omega, by omega⟩
        · rw [show ((m + n : Nat) : Int) + 4 = ((m + (n + 4) : Nat) : Int) by omega]
        · unfold fput
          rw [if_neg (by omega), List.take_add, List.drop_drop, hs, ← hrow]
      · rw [if_neg hs]; exact Or.inl ⟨6, by decide, rfl⟩
theorem fput_get (p c a z : List Int) (h : fput p = (c, 0)) : fget (a ++ c ++ z) (a.length : Int) = (p, ((a.length + c.length : Nat) : Int), 0) := by
  unfold fput at h
  by_cases hp : 65536 < p.length
  · rw [if_pos hp] at h; cases h
  · rw [if_neg hp] at h
    simp only [Prod.mk.injEq, and_true] at h
    subst h
    have e : a ++ ((enc p.length ++ p) ++ four (crcs (enc p.length ++ p))) ++ z = a ++ (enc p.length ++ p) ++ (four (crcs (enc p.length ++ p)) ++ z) := by simp
    have hr := rows_enc a p (four (crcs (enc p.length ++ p)) ++ z) 65536 (by omega) (by decide)
    unfold fget
    rw [e, hr, if_pos rfl]
    simp only [Int.toNat_natCast]
    have hl : (a ++ (enc p.length ++ p)).length = a.length + (enc p.length ++ p).length := List.length_append
    rw [if_neg (by simp only [List.length_append, four_len]; omega), List.drop_left' hl, List.take_left' (four_len _), List.take_left' hl, List.drop_left, if_pos rfl]
    congr 2
    simp only [List.length_append, four_len]; omega
/-- What a number reads as stays with more bytes behind. -/
theorem readN_more (c : List Int) : ∀ (f : Nat) (first : Bool) (l : List Int) (p : Nat × Nat), readN f first l = .ok p → readN f first (l ++ c) = .ok p
  | 0, _, _, _, h => by unfold readN at h; cases h
  | _ + 1, _, [], _, h => by unfold readN at h; cases h
  | f + 1, first, x :: l, p, h => by
    rw [List.cons_append]
    unfold readN at h ⊢
    by_cases hx : x < 128
    · rw [if_pos hx] at h ⊢; exact h
    · rw [if_neg hx] at h ⊢
      cases hr : readN f false l with
      | error e => rw [hr] at h; cases h
      | ok q => rw [hr] at h; rw [readN_more c f false l q hr]; exact h
theorem gets_more (b c : List Int) (a : Int) (h : (gets b a).2.2 = 0) : gets (b ++ c) a = gets b a := by
  unfold gets at h ⊢
  by_cases ha : a < 0 ∨ (b.length : Int) < a
  · rw [if_pos ha] at h; exact absurd h (by decide)
  · rw [if_neg ha] at h ⊢
    rw [if_neg (by rw [List.length_append]; omega)]
    have e : (b ++ c).drop a.toNat = b.drop a.toNat ++ c := List.drop_append_of_le_length (by omega)
    rw [e]
    cases hr : readN 10 true (b.drop a.toNat) with
    | ok p => rw [readN_more c 10 true _ p hr]
    | error q =>
      rw [hr] at h
      exfalso
      have : ∀ (f : Nat) (first : Bool) (l : List Int) (e : Int), readN f first l = .error e → e ≠ 0 := by
        intro f
        induction f with
        | zero => intro first l e h; unfold readN at h; cases h; decide
        | succ f ih =>
          intro first l e h
          match l with
          | [] => unfold readN at h; cases h; decide
          | c :: l =>
            unfold readN at h
            split at h
            · split at h
              · cases h; decide
              · cases h
            · cases hq : readN f false l with
              | error e2 => rw [hq] at h; cases h; exact ih _ _ _ hq
              | ok p => rw [hq] at h; cases h
      exact this _ _ _ _ hr h
theorem rows_more (b c : List Int) (a most : Int) (hb : Bytes b) (hm : most < 9223372036854775808) (h : (rows b a most).2.2 = 0) : rows (b ++ c) a most = rows b a most := by
  have hg : (gets b a).2.2 = 0 := by
    rcases gets_cases b a hb with ⟨e, he, hg⟩ | ⟨v, n, m, rfl, hg, _⟩
    · unfold rows cnt at h
      rw [hg, if_neg he] at h
      simp only [] at h
      rw [if_neg he] at h
      exact absurd h he
    · rw [hg]
  have hc : cnt (b ++ c) a most = cnt b a most := by unfold cnt; rw [gets_more b c a hg]
  rcases rows_cases b a most hb hm with ⟨e, he, hr⟩ | ⟨p, m, n, rfl, hr, hp, hrow, hn, hmn, _⟩
  · rw [hr] at h; exact absurd h he
  · unfold rows at hr ⊢
    rw [hc]
    rcases cnt_cases b (m : Int) most hb hm with ⟨e, he, hq⟩ | ⟨v, j, q, hmq, hv, hq, hen, hqj, h1, h10⟩
    · rw [hq, if_neg he] at hr
      simp only [Prod.mk.injEq] at hr
      exact absurd hr.2.2 he
    · rw [hq, if_pos rfl] at hr ⊢
      by_cases h2 : (v : Int) > (b.length : Int) - ((q + j : Nat) : Int)
      · rw [if_pos h2] at hr
        simp only [Prod.mk.injEq] at hr
        exact absurd hr.2.2 (by decide)
      · rw [if_neg h2, if_pos rfl, if_neg (by rw [List.length_append]; simp only []; omega)]
        simp only [Int.toNat_natCast]
        rw [List.drop_append_of_le_length (by omega), List.take_append_of_le_length (by rw [List.length_drop]; omega)]
theorem fget_more (b c : List Int) (a : Int) (hb : Bytes b) (h : (fget b a).2.2 = 0) : fget (b ++ c) a = fget b a := by
  unfold fget at h ⊢
  by_cases hr0 : (rows b a 65536).2.2 = 0
  · have hrm := rows_more b c a 65536 hb (by decide) hr0
    rw [hrm]
    rw [if_pos hr0] at h ⊢
    rcases rows_cases b a 65536 hb (by decide) with ⟨e, he, hr⟩ | ⟨p, m, n, rfl, hr, hp, hrow, hn, hmn, _⟩
    · rw [hr] at hr0; exact absurd hr0 he
    · rw [hr] at h ⊢
      by_cases h4 : (b.length : Int) - ((m + n : Nat) : Int) < 4
      · rw [if_pos h4] at h; exact absurd h (by decide)
      · rw [if_neg h4] at h ⊢
        rw [if_pos rfl, if_neg (by rw [List.length_append]; simp only []; omega)]
        simp only [Int.toNat_natCast]
        rw [List.drop_append_of_le_length (by omega), List.take_append_of_le_length (by rw [List.length_drop]; omega), List.take_append_of_le_length (by omega)]
  · rw [if_neg hr0] at h; exact absurd h hr0
/-- What a scan tells from a place on: the payloads, where they end, and why. -/
def fscan (b : List Int) : Nat → Int → List (List Int) × Int × Int
  | 0, a => ([], a, 0)
  | n + 1, a => if a < b.length then (if (fget b a).2.2 = 0 then ((fget b a).1 :: (fscan b n (fget b a).2.1).1, (fscan b n (fget b a).2.1).2) else ([], a, (fget b a).2.2)) else ([], a, 0)
theorem fscan_succ (b : List Int) (n : Nat) (a : Int) : fscan b (n + 1) a = if a < b.length then (if (fget b a).2.2 = 0 then ((fget b a).1 :: (fscan b n (fget b a).2.1).1, (fscan b n (fget b a).2.1).2) else ([], a, (fget b a).2.2)) else ([], a, 0) := rfl
theorem fget_step (b : List Int) (hb : Bytes b) (a : Nat) (h : (fget b (a : Int)).2.2 = 0) : ∃ (p : List Int) (n : Nat), fget b (a : Int) = (p, ((a + n : Nat) : Int), 0) ∧ 5 ≤ n ∧ a + n ≤ b.length ∧ p.length ≤ 65536 ∧ p.length < n := by
  rcases fget_cases b (a : Int) hb with ⟨e, he, hf⟩ | ⟨p, m, n, hm, hf, hp, hl, hn, hmn⟩
  · rw [hf] at h; exact absurd h he
  · obtain rfl : a = m := by omega
    have := enc_pos p.length
    exact ⟨p, n, hf, by omega, hmn, hl, by omega⟩
/-- A scan of bytes is the beginning of a scan of these with more behind. -/
theorem fscan_more (b c : List Int) (hb : Bytes b) (hc : Bytes c) : ∀ (d n a : Nat), a + d = b.length → b.length - a < n → ∀ m, (b ++ c).length - a < m →
    (∃ z, (fscan (b ++ c) m (a : Int)).1 = (fscan b n (a : Int)).1 ++ z) ∧ (fscan b n (a : Int)).2.1 ≤ (fscan (b ++ c) m (a : Int)).2.1 ∧ (a : Int) ≤ (fscan (b ++ c) m (a : Int)).2.1 := by
  intro d
  induction d using Nat.strongRecOn with
  | _ d ih =>
    intro n a hd hn m hm
    obtain ⟨n, rfl⟩ : ∃ q, n = q + 1 := ⟨n - 1, by omega⟩
    obtain ⟨m, rfl⟩ : ∃ q, m = q + 1 := ⟨m - 1, by omega⟩
    have hbc : Bytes (b ++ c) := hb.append hc
    have hlen : (b ++ c).length = b.length + c.length := List.length_append
    have tail : ∀ (e q : Nat), q + e = (b ++ c).length → ∀ m, (b ++ c).length - q < m → (q : Int) ≤ (fscan (b ++ c) m (q : Int)).2.1 := by
      intro e
      induction e using Nat.strongRecOn with
      | _ e ie =>
        intro q hq m hm
        obtain ⟨m, rfl⟩ : ∃ r, m = r + 1 := ⟨m - 1, by omega⟩
        rw [fscan]
        by_cases h1 : (q : Int) < ((b ++ c).length : Int)
        · rw [if_pos h1]
          by_cases h2 : (fget (b ++ c) (q : Int)).2.2 = 0
          · obtain ⟨p, j, hf, hj, hqj, _⟩ := fget_step (b ++ c) hbc q h2
            rw [if_pos h2, hf]
            have := ie (e - j) (by omega) (q + j) (by omega) m (by omega)
            simp only []
            omega
          · rw [if_neg h2]; exact Int.le_refl _
        · rw [if_neg h1]; exact Int.le_refl _
    refine ⟨?_, ?_, tail ((b ++ c).length - a) a (by omega) (m + 1) hm⟩
    · rw [fscan_succ b n]
      by_cases h1 : (a : Int) < (b.length : Int)
      · rw [if_pos h1]
        by_cases h2 : (fget b (a : Int)).2.2 = 0
        · obtain ⟨p, j, hf, hj, haj, _⟩ := fget_step b hb a h2
          have hf2 := fget_more b c (a : Int) hb h2
          rw [if_pos h2, fscan_succ (b ++ c) m, if_pos (by omega), hf2, if_pos h2, hf]
          simp only []
          obtain ⟨⟨z, hz⟩, _⟩ := ih (d - j) (by omega) n (a + j) (by omega) (by omega) m (by omega)
          exact ⟨z, by rw [hz, List.cons_append]⟩
        · rw [if_neg h2]; exact ⟨_, rfl⟩
      · rw [if_neg h1]; exact ⟨_, rfl⟩
    · rw [fscan_succ b n]
      by_cases h1 : (a : Int) < (b.length : Int)
      · rw [if_pos h1]
        by_cases h2 : (fget b (a : Int)).2.2 = 0
        · obtain ⟨p, j, hf, hj, haj, _⟩ := fget_step b hb a h2
          have hf2 := fget_more b c (a : Int) hb h2
          rw [if_pos h2, fscan_succ (b ++ c) m, if_pos (by omega), hf2, if_pos h2, hf]
          simp only []
          exact (ih (d - j) (by omega) n (a + j) (by omega) (by omega) m (by omega)).2.1
        · rw [if_neg h2]; exact tail ((b ++ c).length - a) a (by omega) (m + 1) hm
      · rw [if_neg h1]; exact tail ((b ++ c).length - a) a (by omega) (m + 1) hm
theorem fscan_len (b : List Int) (hb : Bytes b) : ∀ (d n a : Nat), a + d = b.length → (fscan b n (a : Int)).1.length ≤ d ∧ ∀ p ∈ (fscan b n (a : Int)).1, p.length ≤ 65536 := by
  intro d
  induction d using Nat.strongRecOn with
  | _ d ih =>
    intro n a hd
    match n with
    | 0 => rw [fscan]; exact ⟨Nat.zero_le _, by simp⟩
    | n + 1 =>
      rw [fscan]
      by_cases h1 : (a : Int) < (b.length : Int)
      · rw [if_pos h1]
        by_cases h2 : (fget b (a : Int)).2.2 = 0
        · obtain ⟨p, j, hf, hj, haj, hp, _⟩ := fget_step b hb a h2
          rw [if_pos h2, hf]
          simp only []
          obtain ⟨i1, i2⟩ := ih (d - j) (by omega) n (a + j) (by omega)
          refine ⟨by rw [List.length_cons]; omega, ?_⟩
          intro q hq
          rcases List.mem_cons.1 hq with rfl | hq
          · exact hp
          · exact i2 q hq
        · rw [if_neg h2]; exact ⟨Nat.zero_le _, by simp⟩
      · rw [if_neg h1]; exact ⟨Nat.zero_le _, by simp⟩
end Go.Proofs.Ytjefgdggjchhbaa.Pure
