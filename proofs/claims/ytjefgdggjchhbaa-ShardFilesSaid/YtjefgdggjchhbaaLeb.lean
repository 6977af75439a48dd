/- Numbers of unlike lengths: their bytes, how they are read, and that each undoes the other. Rows of bytes; no program. No condition. -/
import Derived.Test.YtjefgdggjchhbaaCrc
namespace Go.Proofs.Ytjefgdggjchhbaa.Leb
open Go Go.RowKit Go.Proofs.YtjefgdggjchhbaaVW.PrintWords Go.Proofs.Ytjefgdggjchhbaa.Crc

/-- A number's bytes. -/
def enc (n : Nat) : List Int := if n < 128 then [(n : Int)] else ((n % 128 + 128 : Nat) : Int) :: enc (n / 128)
termination_by n
decreasing_by omega
theorem enc_lt {n : Nat} (h : n < 128) : enc n = [(n : Int)] := by rw [enc, if_pos h]
theorem enc_ge {n : Nat} (h : 128 ≤ n) : enc n = ((n % 128 + 128 : Nat) : Int) :: enc (n / 128) := by rw [enc, if_neg (by omega)]
theorem enc_pos (n : Nat) : 1 ≤ (enc n).length := by
  rcases Nat.lt_or_ge n 128 with h | h
  · rw [enc_lt h]; simp
  · rw [enc_ge h]; simp
theorem enc_len (k : Nat) : ∀ n : Nat, (enc n).length ≤ k + 1 ↔ n < 128 ^ (k + 1) := by
  induction k with
  | zero =>
    intro n
    rcases Nat.lt_or_ge n 128 with h | h
    · rw [enc_lt h]; simp; omega
    · rw [enc_ge h]
      have := enc_pos (n / 128)
      simp only [List.length_cons]; omega
  | succ k ih =>
    intro n
    rcases Nat.lt_or_ge n 128 with h | h
    · rw [enc_lt h]
      have : 128 ^ 1 ≤ 128 ^ (k + 1 + 1) := Nat.pow_le_pow_right (by decide) (by omega)
      simp only [List.length_singleton]; omega
    · rw [enc_ge h]
      have := ih (n / 128)
      have e : n / 128 < 128 ^ (k + 1) ↔ n < 128 ^ (k + 1 + 1) := by
        rw [Nat.pow_succ 128 (k + 1)]
        omega
      simp only [List.length_cons]
      rw [← e, ← this]; omega
theorem enc_ten {n : Nat} (h : n < 18446744073709551616) : (enc n).length ≤ 10 := (enc_len 9 n).2 (Nat.lt_of_lt_of_le h (by decide))
/-- Bytes. -/
def Bytes (l : List Int) : Prop := ∀ x ∈ l, 0 ≤ x ∧ x < 256
theorem Bytes.of_wf {l : List Int} (h : ∀ x ∈ l, (Lit.int .u8 x).wf = true) : Bytes l := fun x hx => u8_wf (h x hx)
theorem Bytes.tail {x : Int} {l : List Int} (h : Bytes (x :: l)) : Bytes l := fun y hy => h y (List.mem_cons_of_mem _ hy)
theorem Bytes.head {x : Int} {l : List Int} (h : Bytes (x :: l)) : 0 ≤ x ∧ x < 256 := h x List.mem_cons_self
theorem Bytes.drop {l : List Int} (h : Bytes l) (n : Nat) : Bytes (l.drop n) := fun y hy => h y (List.mem_of_mem_drop hy)
theorem Bytes.take {l : List Int} (h : Bytes l) (n : Nat) : Bytes (l.take n) := fun y hy => h y (List.mem_of_mem_take hy)
theorem Bytes.append {l m : List Int} (h : Bytes l) (g : Bytes m) : Bytes (l ++ m) := fun y hy => (List.mem_append.1 hy).elim (h y) (g y)
theorem bytes_enc (n : Nat) : Bytes (enc n) := by
  induction n using Nat.strongRecOn with
  | _ n ih =>
    rcases Nat.lt_or_ge n 128 with h | h
    · rw [enc_lt h]
      intro x hx
      simp only [List.mem_singleton] at hx
      omega
    · rw [enc_ge h]
      intro x hx
      rcases List.mem_cons.1 hx with rfl | hx
      · omega
      · exact ih _ (by omega) x hx

/-- What a number reads as, from its first byte on: the number and how many bytes it has, or the error; of at most so many bytes. -/
def readN : Nat → Bool → List Int → Except Int (Nat × Nat)
  | 0, _, _ => .error 5
  | _ + 1, _, [] => .error 4
  | f + 1, first, c :: l =>
    if c < 128 then (if (f = 0 ∧ 1 < c) ∨ (first = false ∧ c = 0) then .error 5 else .ok (c.toNat, 1))
    else match readN f false l with
      | .ok (v, n) => .ok (128 * v + (c.toNat - 128), n + 1)
      | .error e => .error e
theorem read_enc (f : Nat) : ∀ (v : Nat) (first : Bool) (l : List Int), v < 2 * 128 ^ f → (first = true ∨ v ≠ 0) → readN (f + 1) first (enc v ++ l) = .ok (v, (enc v).length) := by
  induction f with
  | zero =>
    intro v first l hv hf
    rw [Nat.pow_zero] at hv
    rw [enc_lt (by omega)]
    show readN 1 first ((v : Int) :: l) = _
    unfold readN
    rw [if_pos (by omega), if_neg]
    · rfl
    · rintro (⟨_, h⟩ | ⟨h, h2⟩)
      · omega
      · rcases hf with h3 | h3
        · rw [h] at h3; cases h3
        · omega
  | succ f ih =>
    intro v first l hv hf
    rcases Nat.lt_or_ge v 128 with h | h
    · rw [enc_lt h]
      show readN (f + 1 + 1) first ((v : Int) :: l) = _
      unfold readN
      rw [if_pos (by omega), if_neg]
      · rfl
      · rintro (⟨h0, _⟩ | ⟨h1, h2⟩)
        · omega
        · rcases hf with h3 | h3
          · rw [h1] at h3; cases h3
          · omega
    · rw [enc_ge h, List.cons_append]
      unfold readN
      rw [if_neg (by omega), ih (v / 128) false l (by rw [Nat.pow_succ] at hv; omega) (Or.inr (by omega))]
      simp only [List.length_cons, Except.ok.injEq, Prod.mk.injEq, and_true]
      omega
theorem read_inv (f : Nat) : ∀ (first : Bool) (l : List Int) (v n : Nat), Bytes l → readN f first l = .ok (v, n) → enc v = l.take n ∧ n ≤ l.length ∧ 1 ≤ n ∧ n ≤ f ∧ v < 2 * 128 ^ (f - 1) ∧ (first = false → v ≠ 0) := by
  induction f with
  | zero => intro first l v n _ h; unfold readN at h; cases h
  | succ f ih =>
    intro first l v n hb h
    match l, hb with
    | [], _ => unfold readN at h; cases h
    | c :: l, hb =>
      unfold readN at h
      have hc := hb.head
      by_cases h1 : c < 128
      · rw [if_pos h1] at h
        split at h
        · cases h
        · rename_i h2
          simp only [Except.ok.injEq, Prod.mk.injEq] at h
          obtain ⟨rfl, rfl⟩ := h
          refine ⟨?_, by simp, by omega, by omega, ?_, ?_⟩
          · rw [enc_lt (by omega)]
            simp; omega
          · rcases Nat.eq_zero_or_pos f with rfl | hf
            · have : ¬ 1 < c := fun h3 => h2 (Or.inl ⟨rfl, h3⟩)
              simp; omega
            · have : 128 ^ 1 ≤ 128 ^ f := Nat.pow_le_pow_right (by decide) hf
              rw [Nat.add_sub_cancel]
              omega
          · intro hf h3
            exact h2 (Or.inr ⟨hf, by omega⟩)
      · rw [if_neg h1] at h
        cases hr : readN f false l with
        | error e => rw [hr] at h; cases h
        | ok p =>
          obtain ⟨u, m⟩ := p
          rw [hr] at h
          simp only [Except.ok.injEq, Prod.mk.injEq] at h
          obtain ⟨rfl, rfl⟩ := h
          obtain ⟨e1, e2, e3, e4, e5, e6⟩ := ih false l u m hb.tail hr
          have hu := e6 rfl
          refine ⟨?_, by simp only [List.length_cons]; omega, by omega, by omega, ?_, fun _ => by omega⟩
          · rw [enc_ge (by omega), List.take_succ_cons, show (128 * u + (c.toNat - 128)) / 128 = u by omega, e1]
            congr 1
            omega
          · obtain ⟨f, rfl⟩ : ∃ g, f = g + 1 := ⟨f - 1, by omega⟩
            rw [Nat.add_sub_cancel] at e5 ⊢
            rw [Nat.pow_succ]
            omega
/-- What is read at a place: the number, the place behind it, the error. -/
def gets (b : List Int) (a : Int) : Int × Int × Int :=
  if a < 0 ∨ (b.length : Int) < a then (0, 0, 2) else match readN 10 true (b.drop a.toNat) with
    | .ok (v, n) => ((v : Int), a + n, 0)
    | .error e => (0, 0, e)
theorem gets_cases (b : List Int) (a : Int) (hb : Bytes b) :
    (∃ e, e ≠ 0 ∧ gets b a = (0, 0, e)) ∨ ∃ v n m : Nat, a = (m : Int) ∧ gets b a = ((v : Int), ((m + n : Nat) : Int), 0) ∧ v < 18446744073709551616 ∧ enc v = (b.drop m).take n ∧ m + n ≤ b.length ∧ 1 ≤ n ∧ n ≤ 10 := by
  unfold gets
  by_cases h : a < 0 ∨ (b.length : Int) < a
  · rw [if_pos h]; exact Or.inl ⟨2, by decide, rfl⟩
  · rw [if_neg h]
    obtain ⟨m, rfl⟩ := Int.eq_ofNat_of_zero_le (a := a) (by omega)
    rw [Int.toNat_natCast]
    cases hr : readN 10 true (b.drop m) with
    | error e =>
      refine Or.inl ⟨e, ?_, rfl⟩
      have : ∀ (f : Nat) (first : Bool) (l : List Int) (e : Int), readN f first l = .error e → e ≠ 0 := by
        intro f
        induction f with
        | zero => intro first l e h; unfold readN at h; cases h; decide
        | succ f ih =>
          intro first l e h
          match l with
          | [] => unfold readN at h; cases h; decide
          | c :: l =>
            unfold readN at h
            split at h
            · split at h
              · cases h; decide
              · cases h
            · cases hq : readN f false l with
              | error e2 => rw [hq] at h; cases h; exact ih _ _ _ hq
              | ok p => rw [hq] at h; cases h
      exact this _ _ _ _ hr
    | ok p =>
      obtain ⟨v, n⟩ := p
      obtain ⟨e1, e2, e3, e4, e5, _⟩ := read_inv 10 true _ v n (hb.drop m) hr
      refine Or.inr ⟨v, n, m, rfl, by simp, ?_, e1, ?_, e3, e4⟩
      · exact Nat.lt_of_lt_of_le e5 (by decide)
      · rw [List.length_drop] at e2; omega
theorem gets_enc (a : List Int) (v : Nat) (c : List Int) (hv : v < 18446744073709551616) : gets (a ++ enc v ++ c) (a.length : Int) = ((v : Int), ((a.length + (enc v).length : Nat) : Int), 0) := by
  unfold gets
  rw [if_neg (by simp only [List.length_append]; omega), Int.toNat_natCast, List.append_assoc, List.drop_left, read_enc 9 v true c (Nat.lt_of_lt_of_le hv (by decide)) (Or.inl rfl)]
  simp
theorem pow7 (i : Nat) : (2 : Nat) ^ (7 * (i + 1)) = 128 * 2 ^ (7 * i) := by
  rw [Nat.mul_add, Nat.pow_add]; omega
theorem pow7_le {i : Nat} (h : i ≤ 9) : (2 : Nat) ^ (7 * i) ≤ 9223372036854775808 := Nat.le_trans (Nat.pow_le_pow_right (by decide) (show 7 * i ≤ 63 by omega)) (by decide)
/-- The low digits of bytes. -/
def low (l : List Int) : Nat → Nat
  | 0 => 0
  | i + 1 => low l i + (l.getD i 0).toNat % 128 * 2 ^ (7 * i)
theorem low_lt (l : List Int) : ∀ i, low l i < 2 ^ (7 * i)
  | 0 => by simp [low]
  | i + 1 => by
    have := low_lt l i
    have h : (l.getD i 0).toNat % 128 * 2 ^ (7 * i) ≤ 127 * 2 ^ (7 * i) := Nat.mul_le_mul_right _ (by omega)
    rw [low, pow7]
    omega
theorem or128 {x : Int} (h0 : 0 ≤ x) (h1 : x < 256) : bits .or .u8 x 128 = x % 128 + 128 := by
  have h : ∀ n : Fin 256, bits .or .u8 ((n.1 : Nat) : Int) 128 = ((n.1 : Nat) : Int) % 128 + 128 := by decide +kernel
  have := h ⟨x.toNat, by omega⟩
  rw [show ((x.toNat : Nat) : Int) = x by omega] at this
  exact this
theorem and127 {x : Int} (h0 : 0 ≤ x) (h1 : x < 256) : bits .and .u8 x 127 = x % 128 := by
  have h : ∀ n : Fin 256, bits .and .u8 ((n.1 : Nat) : Int) 127 = ((n.1 : Nat) : Int) % 128 := by decide +kernel
  have := h ⟨x.toNat, by omega⟩
  rw [show ((x.toNat : Nat) : Int) = x by omega] at this
  exact this
theorem ofInt64 (n : Nat) (h : n < 18446744073709551616) : (BitVec.ofInt 64 (n : Int)).toNat = n := by
  rw [BitVec.toNat_ofInt]
  omega
theorem or_u64 (a b : Nat) (n : Nat) (ha : a < 2 ^ n) (h : a + b * 2 ^ n < 18446744073709551616) : bits .or .u64 (a : Int) ((b * 2 ^ n : Nat) : Int) = ((a + b * 2 ^ n : Nat) : Int) := by
  show IntKind.u64.wrap (((BitVec.ofInt 64 (a : Int)) ||| (BitVec.ofInt 64 ((b * 2 ^ n : Nat) : Int))).toNat : Int) = _
  rw [BitVec.toNat_or, ofInt64 a (by omega), ofInt64 _ (by omega), Nat.or_comm, Nat.mul_comm b, ← Nat.two_pow_add_eq_or_of_lt ha, wrap_u64, Nat.mul_comm (2 ^ n) b]
  generalize b * 2 ^ n = z at h
  omega
theorem shl_u64 (x : Nat) (n : Nat) (h : x * 2 ^ n < 18446744073709551616) (hn : n < 64) : shl .u64 (x : Int) (n : Int) = ((x * 2 ^ n : Nat) : Int) := by
  unfold shl
  rw [Int.toNat_natCast]
  have e : min n IntKind.u64.bits = n := by
    show min n 64 = n
    omega
  rw [e, wrap_u64, show (x : Int) * 2 ^ n = ((x * 2 ^ n : Nat) : Int) by rw [Int.natCast_mul, Int.natCast_pow]; rfl]
  generalize x * 2 ^ n = z at h
  omega
end Go.Proofs.Ytjefgdggjchhbaa.Leb
