/- Numbers with signs folded, rows of tokens as bytes: what they are, and that each undoes the other. No program. No condition. -/
import Derived.Test.YtcbcdjpnhmjkoaaLeb
namespace Go.Proofs.Ytcbcdjpnhmjkoaa.Pack
open Go Go.RowKit Go.Proofs.YtcbcdjpnhmjkoaaVW.PrintWords Go.Proofs.Ytcbcdjpnhmjkoaa.Crc Go.Proofs.Ytcbcdjpnhmjkoaa.Leb

def fold (n : Int) : Nat := if 0 ≤ n then (2 * n).toNat else (-(2 * n) - 1).toNat
def unfold (u : Nat) : Int := if u % 2 = 0 then ((u / 2 : Nat) : Int) else -((u / 2 : Nat) : Int) - 1
theorem unfold_fold (n : Int) : unfold (fold n) = n := by
  unfold unfold fold
  split <;> split <;> omega
theorem fold_unfold (u : Nat) : fold (unfold u) = u := by
  unfold unfold fold
  split <;> split <;> omega
theorem fold_lt {n : Int} {b : Nat} (h0 : -(b : Int) ≤ n) (h1 : n ≤ b) : fold n ≤ 2 * b := by
  unfold fold
  split <;> omega
theorem unfold_lt {u : Nat} (h : u < 18446744073709551616) : -9223372036854775808 ≤ unfold u ∧ unfold u < 9223372036854775808 := by
  unfold unfold
  split <;> omega
theorem xor_zero64 {x : Int} (h0 : 0 ≤ x) (h1 : x < 18446744073709551616) : bits .xor .u64 x 0 = x := by
  show IntKind.u64.wrap (((BitVec.ofInt 64 x) ^^^ (BitVec.ofInt 64 0)).toNat : Int) = _
  obtain ⟨n, rfl⟩ := Int.eq_ofNat_of_zero_le h0
  rw [show BitVec.ofInt 64 0 = BitVec.ofNat 64 0 by decide, BitVec.xor_zero, ofInt64 n (by omega), wu64 (by omega) (by omega)]
theorem xor_ones64 {x : Int} (h0 : 0 ≤ x) (h1 : x < 18446744073709551616) : bits .xor .u64 x 18446744073709551615 = 18446744073709551615 - x := by
  show IntKind.u64.wrap (((BitVec.ofInt 64 x) ^^^ (BitVec.ofInt 64 18446744073709551615)).toNat : Int) = _
  obtain ⟨n, rfl⟩ := Int.eq_ofNat_of_zero_le h0
  rw [show BitVec.ofInt 64 18446744073709551615 = BitVec.allOnes 64 by decide, BitVec.xor_allOnes, BitVec.toNat_not, ofInt64 n (by omega), wrap_u64]
  omega
theorem wrap_i64 (n : Int) : IntKind.i64.wrap n = wrap64 n := by
  have e : IntKind.i64.wrap n = (if decide (n % 18446744073709551616 ≥ 9223372036854775808) = true then n % 18446744073709551616 - 18446744073709551616 else n % 18446744073709551616) := rfl
  rw [e]
  unfold wrap64
  by_cases h : n % 18446744073709551616 ≥ 9223372036854775808
  · rw [decide_eq_true h, if_pos rfl]; omega
  · rw [decide_eq_false h, if_neg (by decide)]; omega
theorem ixor_zero64 {x : Int} (h0 : 0 ≤ x) (h1 : x < 9223372036854775808) : bits .xor .i64 x 0 = x := by
  show IntKind.i64.wrap (((BitVec.ofInt 64 x) ^^^ (BitVec.ofInt 64 0)).toNat : Int) = _
  obtain ⟨n, rfl⟩ := Int.eq_ofNat_of_zero_le h0
  rw [show BitVec.ofInt 64 0 = BitVec.ofNat 64 0 by decide, BitVec.xor_zero, ofInt64 n (by omega), wrap_i64, w64 (by omega) (by omega)]
theorem ixor_ones64 {x : Int} (h0 : 0 ≤ x) (h1 : x < 9223372036854775808) : bits .xor .i64 x (-1) = -x - 1 := by
  show IntKind.i64.wrap (((BitVec.ofInt 64 x) ^^^ (BitVec.ofInt 64 (-1))).toNat : Int) = _
  obtain ⟨n, rfl⟩ := Int.eq_ofNat_of_zero_le h0
  rw [show BitVec.ofInt 64 (-1) = BitVec.allOnes 64 by decide, BitVec.xor_allOnes, BitVec.toNat_not, ofInt64 n (by omega), wrap_i64]
  unfold wrap64
  omega
theorem and_one64 {x : Int} (h0 : 0 ≤ x) (h1 : x < 18446744073709551616) : bits .and .u64 x 1 = x % 2 := by
  show IntKind.u64.wrap (((BitVec.ofInt 64 x) &&& (BitVec.ofInt 64 1)).toNat : Int) = _
  obtain ⟨n, rfl⟩ := Int.eq_ofNat_of_zero_le h0
  rw [BitVec.toNat_and, ofInt64 n (by omega), show (BitVec.ofInt 64 1).toNat = 1 by decide, Nat.and_one_is_mod, wu64 (by omega) (by omega)]
  omega
/-- A row's bytes behind the number of its tokens; none where a token is none. -/
def body : Int → List Int → Option (List Int)
  | _, [] => some []
  | was, x :: l => if x < 0 ∨ 1048575 < x then none else (body x l).map (enc (fold (x - was)) ++ ·)
def put (l : List Int) : List Int × Int :=
  if 65536 < l.length then ([], 3) else match body 0 l with
    | none => ([], 2)
    | some b => (enc l.length ++ b, 0)
theorem enc_three {n : Nat} (h : n < 2097152) : (enc n).length ≤ 3 := (enc_len 2 n).2 (Nat.lt_of_lt_of_le h (by decide))
theorem fold_three {x was : Int} (h0 : 0 ≤ x) (h1 : x ≤ 1048575) (h2 : 0 ≤ was) (h3 : was ≤ 1048575) : (enc (fold (x - was))).length ≤ 3 ∧ fold (x - was) < 2097152 := by
  have := fold_lt (n := x - was) (b := 1048575) (by omega) (by omega)
  exact ⟨enc_three (by omega), by omega⟩
theorem body_len : ∀ (l : List Int) (was : Int) (b : List Int), 0 ≤ was → was ≤ 1048575 → body was l = some b → b.length ≤ 3 * l.length
  | [], _, b, _, _, h => by rw [body] at h; cases h; exact Nat.zero_le _
  | x :: l, was, b, h0, h1, h => by
    rw [body] at h
    by_cases hx : x < 0 ∨ 1048575 < x
    · rw [if_pos hx] at h; cases h
    · rw [if_neg hx] at h
      cases hb : body x l with
      | none => rw [hb] at h; cases h
      | some c =>
        rw [hb] at h
        simp only [Option.map_some, Option.some.injEq] at h
        subst h
        have h2 := body_len l x c (by omega) (by omega) hb
        have h3 := (fold_three (x := x) (was := was) (by omega) (by omega) h0 h1).1
        simp only [List.length_append, List.length_cons]; omega
theorem body_bytes : ∀ (l : List Int) (was : Int) (b : List Int), body was l = some b → Bytes b
  | [], _, b, h => by rw [body] at h; cases h; intro x hx; cases hx
  | x :: l, was, b, h => by
    rw [body] at h
    by_cases hx : x < 0 ∨ 1048575 < x
    · rw [if_pos hx] at h; cases h
    · rw [if_neg hx] at h
      cases hb : body x l with
      | none => rw [hb] at h; cases h
      | some c =>
        rw [hb] at h
        simp only [Option.map_some, Option.some.injEq] at h
        subst h
        exact (bytes_enc _).append (body_bytes l x c hb)
/-- So many tokens from a place on. -/
def toks (b : List Int) : Nat → Int → Int → Except Int (List Int × Int)
  | 0, a, _ => .ok ([], a)
  | n + 1, a, was =>
    if (gets b a).2.2 = 0 then
      (if unfold (gets b a).1.toNat < -was ∨ 1048575 - was < unfold (gets b a).1.toNat then .error 5
      else match toks b n (gets b a).2.1 (was + unfold (gets b a).1.toNat) with
        | .ok (l, z) => .ok ((was + unfold (gets b a).1.toNat) :: l, z)
        | .error e => .error e)
    else .error (gets b a).2.2
def told : Except Int (List Int × Int) → List Int × Int × Int
  | .ok (l, z) => (l, z, 0)
  | .error e => ([], 0, e)
def row (b : List Int) (a : Int) : List Int × Int × Int :=
  if (gets b a).2.2 = 0 then (if (gets b a).1 > 65536 then ([], 0, 3) else told (toks b (gets b a).1.toNat (gets b a).2.1 0)) else ([], 0, (gets b a).2.2)
theorem toks_len (b : List Int) : ∀ (n : Nat) (a was : Int) (l : List Int) (z : Int), toks b n a was = .ok (l, z) → l.length = n
  | 0, a, was, l, z, h => by rw [toks] at h; cases h; rfl
  | n + 1, a, was, l, z, h => by
    rw [toks] at h
    split at h
    · split at h
      · cases h
      · cases hr : toks b n (gets b a).2.1 (was + unfold (gets b a).1.toNat) with
        | error e => rw [hr] at h; cases h
        | ok p =>
          obtain ⟨l2, z2⟩ := p
          rw [hr] at h
          simp only [Except.ok.injEq, Prod.mk.injEq] at h
          obtain ⟨rfl, rfl⟩ := h
          rw [List.length_cons, toks_len b n _ _ l2 z2 hr]
    · cases h
theorem row_len (b : List Int) (a : Int) (hb : Bytes b) : (row b a).1.length ≤ 65536 := by
  unfold row
  rcases gets_cases b a hb with ⟨e, he, h⟩ | ⟨v, n, m, rfl, h, hv, hen, hmn, h1, h10⟩
  · rw [h, if_neg he]; exact Nat.zero_le _
  · rw [h, if_pos rfl]
    by_cases h3 : (v : Int) > 65536
    · rw [if_pos h3]; exact Nat.zero_le _
    · rw [if_neg h3]
      simp only [Int.toNat_natCast]
      cases hr : toks b v ((m + n : Nat) : Int) 0 with
      | error e => exact Nat.zero_le _
      | ok p =>
        obtain ⟨l, z⟩ := p
        show l.length ≤ _
        rw [toks_len b v _ _ l z hr]; omega
/-- What is read is what is laid of it. -/
theorem toks_inv (b : List Int) (hb : Bytes b) : ∀ (n m : Nat) (was : Int) (l : List Int) (z : Int), m ≤ b.length → 0 ≤ was → was ≤ 1048575 → toks b n (m : Int) was = .ok (l, z) →
    ∃ c, body was l = some c ∧ z = ((m + c.length : Nat) : Int) ∧ m + c.length ≤ b.length ∧ c = (b.drop m).take c.length
  | 0, m, was, l, z, hm, _, _, h => by
    rw [toks] at h; cases h
    exact ⟨[], rfl, by simp, by simpa using hm, by simp⟩
  | n + 1, m, was, l, z, hm, h0, h1, h => by
    rw [toks] at h
    rcases gets_cases b (m : Int) hb with ⟨e, he, hg⟩ | ⟨v, j, q, hq, hg, hv, hen, hmn, hj, h10⟩
    · rw [hg, if_neg he] at h; cases h
    · obtain rfl : m = q := by omega
      rw [hg, if_pos rfl] at h
      simp only [Int.toNat_natCast] at h
      split at h
      · cases h
      · rename_i hd
        cases hr : toks b n ((m + j : Nat) : Int) (was + unfold v) with
        | error e => rw [hr] at h; cases h
        | ok p =>
          obtain ⟨l2, z2⟩ := p
          rw [hr] at h
          simp only [Except.ok.injEq, Prod.mk.injEq] at h
          obtain ⟨rfl, rfl⟩ := h
          obtain ⟨c, hc, hz, hcl, hct⟩ := toks_inv b hb n (m + j) (was + unfold v) l2 z2 hmn (by omega) (by omega) hr
          have hlen : (enc v).length = j := by rw [hen, List.length_take, List.length_drop]; omega
          refine ⟨enc v ++ c, ?_, by rw [hz, List.length_append, hlen]; omega, by rw [List.length_append, hlen]; omega, ?_⟩
          · rw [body, if_neg (by omega), hc, show was + unfold v - was = unfold v by omega, fold_unfold]; rfl
          · rw [List.length_append, hlen, List.take_add, ← hen, List.drop_drop, ← hct]
theorem row_inv (b : List Int) (hb : Bytes b) (a : Int) : (∃ e, e ≠ 0 ∧ row b a = ([], 0, e)) ∨ ∃ (l c : List Int) (m : Nat), a = (m : Int) ∧ row b a = (l, ((m + c.length : Nat) : Int), 0) ∧ put l = (c, 0) ∧ m + c.length ≤ b.length ∧ 1 ≤ c.length ∧ c = (b.drop m).take c.length := by
  unfold row
  rcases gets_cases b a hb with ⟨e, he, h⟩ | ⟨v, n, m, rfl, h, hv, hen, hmn, h1, h10⟩
  · rw [h, if_neg he]; exact Or.inl ⟨e, he, rfl⟩
  · rw [h, if_pos rfl]
    by_cases h3 : (v : Int) > 65536
    · rw [if_pos h3]; exact Or.inl ⟨3, by decide, rfl⟩
    · rw [if_neg h3]
      simp only [Int.toNat_natCast]
      cases hr : toks b v ((m + n : Nat) : Int) 0 with
      | error e =>
        refine Or.inl ⟨e, ?_, rfl⟩
        have : ∀ (n : Nat) (a was e : Int), toks b n a was = .error e → e ≠ 0 := by
          intro n
          induction n with
          | zero => intro a was e h; rw [toks] at h; cases h
          | succ n ih =>
            intro a was e h
            rw [toks] at h
            split at h
            · split at h
              · cases h; decide
              · cases hq : toks b n (gets b a).2.1 (was + unfold (gets b a).1.toNat) with
                | error e2 => rw [hq] at h; cases h; exact ih _ _ _ hq
                | ok p => rw [hq] at h; cases h
            · rename_i hne
              cases h; exact hne
        exact this _ _ _ _ hr
      | ok p =>
        obtain ⟨l, z⟩ := p
        obtain ⟨c, hc, hz, hcl, hct⟩ := toks_inv b hb v (m + n) 0 l z hmn (by omega) (by omega) hr
        have hl := toks_len b v _ _ l z hr
        have hlen : (enc v).length = n := by rw [hen, List.length_take, List.length_drop]; omega
        refine Or.inr ⟨l, enc v ++ c, m, rfl, ?_, ?_, by rw [List.length_append, hlen]; omega, by rw [List.length_append, hlen]; omega, ?_⟩
        · show (l, z, (0 : Int)) = _
          rw [hz, List.length_append, hlen, Nat.add_assoc]
        · unfold put
          rw [if_neg (by omega), hc, hl]
        · rw [List.length_append, hlen, List.take_add, ← hen, List.drop_drop, ← hct]
/-- What is laid is read. -/
theorem toks_body : ∀ (l : List Int) (was : Int) (bs a c : List Int), 0 ≤ was → was ≤ 1048575 → body was l = some bs → toks (a ++ bs ++ c) l.length (a.length : Int) was = .ok (l, ((a.length + bs.length : Nat) : Int))
  | [], was, bs, a, c, _, _, h => by
    rw [body] at h; cases h
    rw [List.length_nil, toks]; simp
  | x :: l, was, bs, a, c, h0, h1, h => by
    rw [body] at h
    by_cases hx : x < 0 ∨ 1048575 < x
    · rw [if_pos hx] at h; cases h
    · rw [if_neg hx] at h
      cases hb : body x l with
      | none => rw [hb] at h; cases h
      | some d =>
        rw [hb] at h
        simp only [Option.map_some, Option.some.injEq] at h
        subst h
        have hf := (fold_three (x := x) (was := was) (by omega) (by omega) h0 h1).2
        have e : a ++ (enc (fold (x - was)) ++ d) ++ c = a ++ enc (fold (x - was)) ++ (d ++ c) := by simp
        have e2 : a ++ enc (fold (x - was)) ++ (d ++ c) = (a ++ enc (fold (x - was))) ++ d ++ c := by simp
        have ih := toks_body l x d (a ++ enc (fold (x - was))) c (by omega) (by omega) hb
        rw [List.length_append] at ih
        rw [e, List.length_cons, toks, gets_enc a _ _ (by omega), if_pos rfl]
        simp only [Int.toNat_natCast, unfold_fold]
        rw [if_neg (by omega), show was + (x - was) = x by omega, e2, ih]
        simp only [List.length_append, Nat.add_assoc]
theorem row_put (l c a z : List Int) (h : put l = (c, 0)) : row (a ++ c ++ z) (a.length : Int) = (l, ((a.length + c.length : Nat) : Int), 0) := by
  unfold put at h
  by_cases hl : 65536 < l.length
  · rw [if_pos hl] at h; cases h
  · rw [if_neg hl] at h
    cases hb : body 0 l with
    | none => rw [hb] at h; cases h
    | some d =>
      rw [hb] at h
      simp only [Prod.mk.injEq, and_true] at h
      subst h
      have e : a ++ (enc l.length ++ d) ++ z = a ++ enc l.length ++ (d ++ z) := by simp
      have e2 : a ++ enc l.length ++ (d ++ z) = (a ++ enc l.length) ++ d ++ z := by simp
      have ih := toks_body l 0 d (a ++ enc l.length) z (by omega) (by omega) hb
      rw [List.length_append] at ih
      unfold row
      rw [e, gets_enc a _ _ (by omega), if_pos rfl, if_neg (by simp only []; omega)]
      simp only [Int.toNat_natCast]
      rw [e2, ih]
      simp only [told, List.length_append, Nat.add_assoc]
theorem put_len (l : List Int) : (put l).1.length ≤ 3 + 3 * l.length ∧ (put l).1.length ≤ 196611 := by
  unfold put
  by_cases hl : 65536 < l.length
  · rw [if_pos hl]; exact ⟨Nat.zero_le _, Nat.zero_le _⟩
  · rw [if_neg hl]
    cases hb : body 0 l with
    | none => exact ⟨Nat.zero_le _, Nat.zero_le _⟩
    | some d =>
      have h1 := body_len l 0 d (by omega) (by omega) hb
      have h2 := enc_three (n := l.length) (by omega)
      simp only [List.length_append]; omega
theorem put_bytes (l : List Int) : Bytes (put l).1 := by
  unfold put
  by_cases hl : 65536 < l.length
  · rw [if_pos hl]; intro x hx; cases hx
  · rw [if_neg hl]
    cases hb : body 0 l with
    | none => intro x hx; cases hx
    | some d => exact (bytes_enc _).append (body_bytes l 0 d hb)
theorem put_no (l : List Int) (h : (put l).2 ≠ 0) : (put l).1 = [] := by
  unfold put at h ⊢
  by_cases hl : 65536 < l.length
  · rw [if_pos hl]
  · rw [if_neg hl] at h ⊢
    cases hb : body 0 l with
    | none => rfl
    | some d => rw [hb] at h; exact absurd rfl h
end Go.Proofs.Ytcbcdjpnhmjkoaa.Pack
