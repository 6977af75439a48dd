/- Numbers of 32 bits as bit vectors; a step of the sum, a byte taken in, rows of bytes: what they are, that they are linear and undone. No condition. -/
import Derived.Laws.BitsLemmas
import Derived.Test.YtjefgdggjchhbaaVWMost
namespace Go.Proofs.Ytjefgdggjchhbaa.Crc
open Go Go.RowKit Go.Proofs.YtjefgdggjchhbaaVW.PrintWords

theorem bnd {α β : Type} (a : α) (f : α → Option β) : (some a).bind f = f a := by
  have h : ∀ o : Option α, o = some a → o.bind f = f a := fun o e => by subst e; rfl
  exact h _ rfl
theorem u32_wf {a : Int} (h : (Lit.int .u32 a).wf = true) : 0 ≤ a ∧ a < 4294967296 := by
  simp only [Lit.wf, Bool.and_eq_true, decide_eq_true_eq] at h
  have h1 : IntKind.u32.min = 0 := by decide
  have h2 : IntKind.u32.max = 4294967295 := by decide
  omega
theorem u8_wf {a : Int} (h : (Lit.int .u8 a).wf = true) : 0 ≤ a ∧ a < 256 := by
  simp only [Lit.wf, Bool.and_eq_true, decide_eq_true_eq] at h
  have h1 : IntKind.u8.min = 0 := by decide
  have h2 : IntKind.u8.max = 255 := by decide
  omega
theorem u64_wf {a : Int} (h : (Lit.int .u64 a).wf = true) : 0 ≤ a ∧ a < 18446744073709551616 := by
  simp only [Lit.wf, Bool.and_eq_true, decide_eq_true_eq] at h
  have h1 : IntKind.u64.min = 0 := by decide
  have h2 : IntKind.u64.max = 18446744073709551615 := by decide
  omega
theorem i64_wf {a : Int} (h : (Lit.int .i64 a).wf = true) : -9223372036854775808 ≤ a ∧ a < 9223372036854775808 := by
  simp only [Lit.wf, Bool.and_eq_true, decide_eq_true_eq] at h
  have h1 : IntKind.i64.min = -9223372036854775808 := by decide
  have h2 : IntKind.i64.max = 9223372036854775807 := by decide
  omega
theorem w64 {i : Int} (h0 : -9223372036854775808 ≤ i) (h : i < 9223372036854775808) : wrap64 i = i := by unfold wrap64; omega
theorem wrap_u64 (n : Int) : IntKind.u64.wrap n = n % 18446744073709551616 := by
  simp [IntKind.wrap, IntKind.bits, IntKind.signed]
theorem wu64 {i : Int} (h0 : 0 ≤ i) (h : i < 18446744073709551616) : IntKind.u64.wrap i = i := by rw [wrap_u64]; omega
theorem bv32 {a : Int} (h0 : 0 ≤ a) (h1 : a < 4294967296) : ∃ x : BitVec 32, a = (x.toNat : Int) :=
  ⟨BitVec.ofNat 32 a.toNat, by rw [BitVec.toNat_ofNat, Nat.mod_eq_of_lt (by omega)]; omega⟩
theorem bv8 {a : Int} (h0 : 0 ≤ a) (h1 : a < 256) : ∃ x : BitVec 8, a = (x.toNat : Int) :=
  ⟨BitVec.ofNat 8 a.toNat, by rw [BitVec.toNat_ofNat, Nat.mod_eq_of_lt (by omega)]; omega⟩
theorem wrap_u32 (n : Int) : IntKind.u32.wrap n = n % 4294967296 := by
  simp [IntKind.wrap, IntKind.bits, IntKind.signed]
theorem ofInt32 (x : BitVec 32) : BitVec.ofInt 32 (x.toNat : Int) = x := by simp
theorem wrap32_b (x : BitVec 32) : IntKind.u32.wrap (x.toNat : Int) = (x.toNat : Int) := by
  rw [wrap_u32]; have := x.isLt; omega
theorem xor32 (x y : BitVec 32) : bits .xor .u32 (x.toNat : Int) (y.toNat : Int) = ((x ^^^ y).toNat : Int) := by
  show IntKind.u32.wrap (((BitVec.ofInt 32 (x.toNat : Int)) ^^^ (BitVec.ofInt 32 (y.toNat : Int))).toNat : Int) = _
  rw [ofInt32, ofInt32, wrap32_b]
theorem and32 (x y : BitVec 32) : bits .and .u32 (x.toNat : Int) (y.toNat : Int) = ((x &&& y).toNat : Int) := by
  show IntKind.u32.wrap (((BitVec.ofInt 32 (x.toNat : Int)) &&& (BitVec.ofInt 32 (y.toNat : Int))).toNat : Int) = _
  rw [ofInt32, ofInt32, wrap32_b]
theorem div32 (x : BitVec 32) (n : Nat) : (x.toNat : Int) / ((2 ^ n : Nat) : Int) = ((x >>> n).toNat : Int) := by
  rw [BitVec.toNat_ushiftRight, Nat.shiftRight_eq_div_pow]; rfl
theorem neg32 (x : BitVec 32) : (-(x.toNat : Int)) % 4294967296 = ((-x).toNat : Int) := by
  rw [BitVec.toNat_neg]; have := x.isLt; omega
theorem inj32 {x y : BitVec 32} : (x.toNat : Int) = (y.toNat : Int) ↔ x = y :=
  ⟨fun h => BitVec.eq_of_toNat_eq (by omega), fun h => by rw [h]⟩
theorem beq32 (x y : BitVec 32) : ((x.toNat : Int) == (y.toNat : Int)) = decide (x = y) := by
  by_cases h : x = y
  · subst h; simp
  · have h' : ¬ ((x.toNat : Int) = (y.toNat : Int)) := fun e => h (inj32.1 e)
    simp [h, h']
theorem not32 (x : BitVec 32) : bits .xor .u32 4294967295 (x.toNat : Int) = ((~~~x).toNat : Int) := by
  have h := xor32 (BitVec.allOnes 32) x
  rw [BitVec.allOnes_xor] at h
  exact h

def poly : BitVec 32 := (BitVec.ofNat 32 2197175160)
/-- One bit goes out. -/
def stepB (r : BitVec 32) : BitVec 32 := if r.getLsbD 0 then r >>> 1 ^^^ poly else r >>> 1
theorem and_one_cases (r : BitVec 32) : r &&& (BitVec.ofNat 32 1) = if r.getLsbD 0 then (BitVec.ofNat 32 1) else (BitVec.ofNat 32 0) := by
  apply BitVec.eq_of_getLsbD_eq
  intro i hi
  rw [BitVec.getLsbD_and, BitVec.getLsbD_one]
  rcases Nat.eq_zero_or_pos i with rfl | h
  · cases h : r.getLsbD 0 <;> simp
  · have h2 : i ≠ 0 := by omega
    cases h : r.getLsbD 0 <;> simp [h2]
theorem step_mask (r : BitVec 32) : r >>> 1 ^^^ (poly &&& -(r &&& (BitVec.ofNat 32 1))) = stepB r := by
  unfold stepB
  rw [and_one_cases]
  cases h : r.getLsbD 0
  · simp
  · have : -((BitVec.ofNat 32 1)) = BitVec.allOnes 32 := by decide
    simp only [if_true, this, BitVec.and_allOnes]
theorem xor_shift (a b : BitVec 32) (n : Nat) : (a ^^^ b) >>> n = a >>> n ^^^ b >>> n := BitVec.ushiftRight_xor_distrib a b n
theorem step_xor (a b : BitVec 32) : stepB (a ^^^ b) = stepB a ^^^ stepB b := by
  unfold stepB
  rw [BitVec.getLsbD_xor, xor_shift]
  cases a.getLsbD 0 <;> cases b.getLsbD 0
  · rfl
  · simp only [Bool.false_xor, if_true, Bool.false_eq_true, if_false]; rw [BitVec.xor_assoc]
  · simp only [Bool.xor_false, if_true, Bool.false_eq_true, if_false]; rw [BitVec.xor_assoc, BitVec.xor_assoc, BitVec.xor_comm poly]
  · simp only [Bool.xor_self, if_true, Bool.false_eq_true, if_false]
    apply BitVec.eq_of_getLsbD_eq
    intro i hi
    simp only [BitVec.getLsbD_xor]
    cases (a >>> 1).getLsbD i <;> cases (b >>> 1).getLsbD i <;> cases poly.getLsbD i <;> rfl
theorem step_zero : stepB (BitVec.ofNat 32 0) = (BitVec.ofNat 32 0) := by decide
theorem poly_top : poly.getLsbD 31 = true := by decide
theorem shift_top (r : BitVec 32) : (r >>> 1).getLsbD 31 = false := by
  rw [BitVec.getLsbD_ushiftRight]; exact BitVec.getLsbD_of_ge _ _ (by omega)
theorem step_bit (r : BitVec 32) : (stepB r).getLsbD 31 = r.getLsbD 0 := by
  unfold stepB
  cases h : r.getLsbD 0
  · simp only [Bool.false_eq_true, if_false]; exact shift_top r
  · simp only [if_true, BitVec.getLsbD_xor, shift_top, poly_top]; rfl
theorem step_inj0 {r : BitVec 32} (h : stepB r = (BitVec.ofNat 32 0)) : r = (BitVec.ofNat 32 0) := by
  have h0 : r.getLsbD 0 = false := by rw [← step_bit, h]; rfl
  have h1 : r >>> 1 = (BitVec.ofNat 32 0) := by
    unfold stepB at h
    rw [h0] at h
    simpa using h
  apply BitVec.eq_of_getLsbD_eq
  intro i hi
  rcases Nat.eq_zero_or_pos i with rfl | hp
  · rw [h0]; rfl
  · have := congrArg (fun z : BitVec 32 => z.getLsbD (i - 1)) h1
    simp only [BitVec.getLsbD_ushiftRight] at this
    rw [show 1 + (i - 1) = i by omega] at this
    rw [this]; simp
theorem xor_zero_iff {a b : BitVec 32} : a ^^^ b = (BitVec.ofNat 32 0) ↔ a = b := by
  constructor
  · intro h
    apply BitVec.eq_of_getLsbD_eq
    intro i hi
    have := congrArg (fun z : BitVec 32 => z.getLsbD i) h
    simp only [BitVec.getLsbD_xor, BitVec.getLsbD_zero] at this
    cases h1 : a.getLsbD i <;> cases h2 : b.getLsbD i <;> simp_all
  · rintro rfl; exact BitVec.xor_self
theorem step_inj {a b : BitVec 32} : stepB a = stepB b ↔ a = b :=
  ⟨fun h => xor_zero_iff.1 (step_inj0 (by rw [step_xor, h]; exact BitVec.xor_self)), fun h => by rw [h]⟩
/-- n steps. -/
def steps : Nat → BitVec 32 → BitVec 32
  | 0, r => r
  | n + 1, r => steps n (stepB r)
theorem steps_xor (n : Nat) : ∀ a b : BitVec 32, steps n (a ^^^ b) = steps n a ^^^ steps n b := by
  induction n with
  | zero => intro a b; rfl
  | succ n ih => intro a b; simp only [steps]; rw [step_xor, ih]
theorem steps_zero (n : Nat) : steps n (BitVec.ofNat 32 0) = (BitVec.ofNat 32 0) := by
  induction n with
  | zero => rfl
  | succ n ih => simp only [steps]; rw [step_zero, ih]
theorem steps_inj (n : Nat) : ∀ {a b : BitVec 32}, steps n a = steps n b ↔ a = b := by
  induction n with
  | zero => intro a b; exact Iff.rfl
  | succ n ih => intro a b; simp only [steps]; rw [ih, step_inj]
theorem steps_add (m n : Nat) : ∀ r, steps (m + n) r = steps n (steps m r) := by
  induction m with
  | zero => intro r; rw [Nat.zero_add]; rfl
  | succ m ih => intro r; rw [Nat.succ_add]; simp only [steps]; exact ih _
/-- A byte, as 32 bits. -/
def byte (c : BitVec 8) : BitVec 32 := c.setWidth 32
theorem byte_nat (c : BitVec 8) : (byte c).toNat = c.toNat := by
  unfold byte
  rw [BitVec.toNat_setWidth]
  exact Nat.mod_eq_of_lt (Nat.lt_of_lt_of_le c.isLt (by decide))
theorem byte_xor (a b : BitVec 8) : byte (a ^^^ b) = byte a ^^^ byte b := by
  unfold byte
  apply BitVec.eq_of_getLsbD_eq
  intro i hi
  simp [BitVec.getLsbD_setWidth]
theorem byte_zero_iff {a : BitVec 8} : byte a = (BitVec.ofNat 32 0) ↔ a = (BitVec.ofNat 8 0) := by
  constructor
  · intro h
    apply BitVec.eq_of_toNat_eq
    rw [← byte_nat, h]; rfl
  · rintro rfl; rfl
def take (r : BitVec 32) (c : BitVec 8) : BitVec 32 := steps 8 (r ^^^ byte c)
def more : BitVec 32 → List (BitVec 8) → BitVec 32
  | r, [] => r
  | r, c :: l => more (take r c) l
theorem more_append (l : List (BitVec 8)) : ∀ r m, more r (l ++ m) = more (more r l) m := by
  induction l with
  | nil => intro r m; rfl
  | cons c l ih => intro r m; exact ih _ _
/-- The sum, with bytes behind. -/
def sumMore (s : BitVec 32) (l : List (BitVec 8)) : BitVec 32 := ~~~ (more (~~~ s) l)
def sum (l : List (BitVec 8)) : BitVec 32 := sumMore (BitVec.ofNat 32 0) l
theorem take_inj {a b : BitVec 32} {c : BitVec 8} : take a c = take b c ↔ a = b := by
  unfold take
  rw [steps_inj]
  constructor
  · intro h
    have := congrArg (· ^^^ byte c) h
    simpa [BitVec.xor_assoc] using this
  · intro h; rw [h]
theorem more_inj (l : List (BitVec 8)) : ∀ {a b : BitVec 32}, more a l = more b l ↔ a = b := by
  induction l with
  | nil => intro a b; exact Iff.rfl
  | cons c l ih => intro a b; simp only [more]; rw [ih, take_inj]
theorem take3 (a b c : BitVec 32) (x y z : BitVec 8) : take (a ^^^ b ^^^ c) (x ^^^ y ^^^ z) = take a x ^^^ take b y ^^^ take c z := by
  unfold take
  rw [byte_xor, byte_xor, ← steps_xor, ← steps_xor]
  congr 1
  apply BitVec.eq_of_getLsbD_eq
  intro i hi
  simp only [BitVec.getLsbD_xor]
  cases a.getLsbD i <;> cases b.getLsbD i <;> cases c.getLsbD i <;> cases (byte x).getLsbD i <;> cases (byte y).getLsbD i <;> cases (byte z).getLsbD i <;> rfl
theorem take_xor (a b : BitVec 32) (x y : BitVec 8) : take (a ^^^ b) (x ^^^ y) = take a x ^^^ take b y := by
  unfold take
  rw [byte_xor, ← steps_xor]
  congr 1
  apply BitVec.eq_of_getLsbD_eq
  intro i hi
  simp only [BitVec.getLsbD_xor]
  cases a.getLsbD i <;> cases b.getLsbD i <;> cases (byte x).getLsbD i <;> cases (byte y).getLsbD i <;> rfl
/-- Two rows of one length: their sums part by what a row of their differences, from 0 on, comes to. -/
theorem more_xor : ∀ (l m : List (BitVec 8)) (a b : BitVec 32), l.length = m.length → more (a ^^^ b) (List.zipWith (· ^^^ ·) l m) = more a l ^^^ more b m
  | [], [], _, _, _ => rfl
  | x :: l, y :: m, a, b, h => by
    simp only [List.zipWith_cons_cons, more]
    rw [take_xor]
    exact more_xor l m _ _ (by simpa using h)
  | [], _ :: _, _, _, h => by simp at h
  | _ :: _, [], _, _, h => by simp at h
/-- What is shifted up by n goes down in n steps. -/
theorem step_even {r : BitVec 32} (h : r.getLsbD 0 = false) : stepB r = r >>> 1 := by unfold stepB; rw [h]; rfl
theorem steps_shift (n : Nat) : ∀ (r : BitVec 32), (∀ i, i < n → r.getLsbD i = false) → steps n r = r >>> n := by
  induction n with
  | zero => intro r _; simp [steps]
  | succ n ih =>
    intro r h
    simp only [steps]
    rw [step_even (h 0 (by omega)), ih _ (fun i hi => by rw [BitVec.getLsbD_ushiftRight]; exact h _ (by omega)), ← BitVec.shiftRight_add, Nat.add_comm]
theorem steps8_up (x : BitVec 32) (hx : x.toNat < 16777216) : steps 8 (x <<< 8) = x := by
  rw [steps_shift 8 _ (fun i hi => by rw [BitVec.getLsbD_shiftLeft]; simp [hi])]
  apply BitVec.eq_of_getLsbD_eq
  intro i hi
  rw [BitVec.getLsbD_ushiftRight, BitVec.getLsbD_shiftLeft]
  by_cases h : 8 + i < 32
  · have h2 : ¬ 8 + i < 8 := by omega
    simp [h, h2, show 8 + i - 8 = i by omega]
  · have h3 : x.getLsbD i = false := by
      rw [← BitVec.testBit_toNat]
      exact Nat.testBit_lt_two_pow (Nat.lt_of_lt_of_le hx (Nat.le_trans (by decide) (Nat.pow_le_pow_right (n := 2) (by decide) (show 24 ≤ i by omega))))
    rw [h3]; simp; omega
/-- Four bytes, as one number. -/
def word4 (a b c d : BitVec 8) : BitVec 32 := byte a ^^^ (byte b ^^^ (byte c ^^^ byte d <<< 8) <<< 8) <<< 8
theorem byte_lt (c : BitVec 8) : (byte c).toNat < 256 := by rw [byte_nat]; exact c.isLt
theorem shl8_nat (x : BitVec 32) (h : x.toNat < 16777216) : (x <<< 8).toNat = x.toNat * 256 := by
  rw [BitVec.toNat_shiftLeft, Nat.shiftLeft_eq]; omega
theorem xor_up (c : BitVec 8) (x : BitVec 32) (n : Nat) (hx : x.toNat < 2 ^ n) (hn : n ≤ 24) : (byte c ^^^ x <<< 8).toNat < 2 ^ (n + 8) ∧ (byte c ^^^ x <<< 8 = (BitVec.ofNat 32 0) ↔ c = (BitVec.ofNat 8 0) ∧ x = (BitVec.ofNat 32 0)) := by
  have hp : 2 ^ n ≤ 2 ^ 24 := Nat.pow_le_pow_right (by decide) hn
  have hx8 := shl8_nat x (by omega)
  have hb := byte_lt c
  constructor
  · rw [BitVec.toNat_xor]
    apply Nat.xor_lt_two_pow
    · exact Nat.lt_of_lt_of_le hb (by rw [show (256 : Nat) = 2 ^ 8 from rfl]; exact Nat.pow_le_pow_right (by decide) (by omega))
    · rw [hx8, Nat.pow_add]; omega
  · rw [xor_zero_iff]
    constructor
    · intro h
      have e := congrArg BitVec.toNat h
      rw [hx8] at e
      have hx0 : x.toNat = 0 := by omega
      refine ⟨byte_zero_iff.1 (BitVec.eq_of_toNat_eq (by rw [e, hx0]; rfl)), BitVec.eq_of_toNat_eq (by rw [hx0]; rfl)⟩
    · rintro ⟨rfl, rfl⟩; rfl
/-- Four bytes taken in from 0 on are 32 steps of their word. -/
theorem more4 (a b c d : BitVec 8) : more (BitVec.ofNat 32 0) [a, b, c, d] = steps 32 (word4 a b c d) := by
  have hd := byte_lt d
  have h1 := (xor_up c (byte d) 8 (by omega) (by omega)).1
  have h2 := (xor_up b (byte c ^^^ byte d <<< 8) 16 h1 (by omega)).1
  have e1 : steps 8 (word4 a b c d) = steps 8 ((BitVec.ofNat 32 0) ^^^ byte a) ^^^ (byte b ^^^ (byte c ^^^ byte d <<< 8) <<< 8) := by
    unfold word4
    rw [steps_xor, steps8_up _ (Nat.lt_of_lt_of_le h2 (by decide)), BitVec.zero_xor]
  have e2 : ∀ r : BitVec 32, steps 8 (r ^^^ (byte b ^^^ (byte c ^^^ byte d <<< 8) <<< 8)) = steps 8 (r ^^^ byte b) ^^^ (byte c ^^^ byte d <<< 8) := by
    intro r
    rw [← BitVec.xor_assoc, steps_xor 8 (r ^^^ byte b), steps8_up _ (Nat.lt_of_lt_of_le h1 (by decide))]
  have e3 : ∀ r : BitVec 32, steps 8 (r ^^^ (byte c ^^^ byte d <<< 8)) = steps 8 (r ^^^ byte c) ^^^ byte d := by
    intro r
    rw [← BitVec.xor_assoc, steps_xor 8 (r ^^^ byte c), steps8_up _ (Nat.lt_of_lt_of_le hd (by decide))]
  have e4 := steps_add 8 24 (word4 a b c d)
  have e5 := steps_add 8 16 (steps 8 (word4 a b c d))
  have e6 := steps_add 8 8 (steps 8 (steps 8 (word4 a b c d)))
  simp only [more, take]
  refine Eq.symm (e4.trans (e5.trans (e6.trans ?_)))
  rw [e1, e2, e3]
theorem word4_zero (a b c d : BitVec 8) : word4 a b c d = (BitVec.ofNat 32 0) ↔ a = (BitVec.ofNat 8 0) ∧ b = (BitVec.ofNat 8 0) ∧ c = (BitVec.ofNat 8 0) ∧ d = (BitVec.ofNat 8 0) := by
  have hd := byte_lt d
  have h1 := xor_up c (byte d) 8 (by omega) (by omega)
  have h2 := xor_up b (byte c ^^^ byte d <<< 8) 16 h1.1 (by omega)
  have h3 := xor_up a (byte b ^^^ (byte c ^^^ byte d <<< 8) <<< 8) 24 h2.1 (by omega)
  unfold word4
  rw [h3.2, h2.2, h1.2, byte_zero_iff]
theorem more4_zero (a b c d : BitVec 8) : more (BitVec.ofNat 32 0) [a, b, c, d] = (BitVec.ofNat 32 0) ↔ a = (BitVec.ofNat 8 0) ∧ b = (BitVec.ofNat 8 0) ∧ c = (BitVec.ofNat 8 0) ∧ d = (BitVec.ofNat 8 0) := by
  rw [more4, ← word4_zero]
  have h := steps_inj 32 (a := word4 a b c d) (b := (BitVec.ofNat 32 0))
  rw [steps_zero] at h
  exact h
theorem more_zero (n : Nat) : more (BitVec.ofNat 32 0) (List.replicate n (BitVec.ofNat 8 0)) = (BitVec.ofNat 32 0) := by
  induction n with
  | zero => rfl
  | succ n ih =>
    rw [List.replicate_succ]
    simp only [more]
    rw [show take (BitVec.ofNat 32 0) (BitVec.ofNat 8 0) = (BitVec.ofNat 32 0) by decide]
    exact ih

/-- Bytes, as whole numbers. -/
def nat8 (l : List (BitVec 8)) : List Int := l.map fun c => (c.toNat : Int)
theorem nat8_len (l : List (BitVec 8)) : (nat8 l).length = l.length := by simp [nat8]
theorem of_bytes (l : List Int) (h : ∀ x ∈ l, (Lit.int .u8 x).wf = true) : ∃ m, l = nat8 m := by
  induction l with
  | nil => exact ⟨[], rfl⟩
  | cons x l ih =>
    obtain ⟨m, rfl⟩ := ih (fun y hy => h y (List.mem_cons_of_mem _ hy))
    obtain ⟨c, rfl⟩ := bv8 (u8_wf (h x List.mem_cons_self)).1 (u8_wf (h x List.mem_cons_self)).2
    exact ⟨c :: m, rfl⟩
theorem rd_nat8 (l : List (BitVec 8)) (i : Nat) (h : i < l.length) : rd (nat8 l) (i : Int) = ((l[i]'h).toNat : Int) := by
  unfold rd nat8
  rw [Int.toNat_natCast, List.getD_eq_getElem?_getD, List.getElem?_map, List.getElem?_eq_getElem h]
  rfl
theorem nat8_append (l m : List (BitVec 8)) : nat8 (l ++ m) = nat8 l ++ nat8 m := by simp [nat8]
theorem nat8_take (l : List (BitVec 8)) (n : Nat) : (nat8 l).take n = nat8 (l.take n) := by simp [nat8]
theorem nat8_drop (l : List (BitVec 8)) (n : Nat) : (nat8 l).drop n = nat8 (l.drop n) := by simp [nat8]
theorem ofInt8 (x : BitVec 8) : BitVec.ofInt 8 (x.toNat : Int) = x := by simp
theorem wrap_u8 (n : Int) : IntKind.u8.wrap n = n % 256 := by
  simp [IntKind.wrap, IntKind.bits, IntKind.signed]
theorem xor8 (x y : BitVec 8) : bits .xor .u8 (x.toNat : Int) (y.toNat : Int) = ((x ^^^ y).toNat : Int) := by
  show IntKind.u8.wrap (((BitVec.ofInt 8 (x.toNat : Int)) ^^^ (BitVec.ofInt 8 (y.toNat : Int))).toNat : Int) = _
  rw [ofInt8, ofInt8, wrap_u8]
  have := (x ^^^ y).isLt; omega
theorem nat8_set (l : List (BitVec 8)) (i : Nat) (x : BitVec 8) : (nat8 l).set i (x.toNat : Int) = nat8 (l.set i x) := by simp [nat8, List.map_set]
theorem nat8_one (x : BitVec 8) : [(x.toNat : Int)] = nat8 [x] := rfl
/-- Up to four bytes, from 0 on, come to 0 just where all are 0. -/
theorem more_zeros_iff (n : Nat) {r : BitVec 32} : more r (List.replicate n (BitVec.ofNat 8 0)) = (BitVec.ofNat 32 0) ↔ r = (BitVec.ofNat 32 0) := by
  have h := more_inj (List.replicate n (BitVec.ofNat 8 0)) (a := r) (b := (BitVec.ofNat 32 0))
  rw [more_zero] at h
  exact h
theorem more_zero_iff (xs : List (BitVec 8)) (h : xs.length ≤ 4) : more (BitVec.ofNat 32 0) xs = (BitVec.ofNat 32 0) ↔ ∀ x ∈ xs, x = (BitVec.ofNat 8 0) := by
  rw [← more_zeros_iff (4 - xs.length), ← more_append]
  match xs, h with
  | [], _ => simp [more4_zero]
  | [a], _ => simp [more4_zero, List.replicate]
  | [a, b], _ => simp [more4_zero, List.replicate]
  | [a, b, c], _ => simp [more4_zero]
  | [a, b, c, d], _ => simp [more4_zero]
  | _ :: _ :: _ :: _ :: _ :: _, h => simp at h
/-- Bytes of which up to four that stand side by side are changed have another sum, behind whatever sum. -/
theorem burst (s : BitVec 32) (b c xs : List (BitVec 8)) (n r : Nat) (hl : b.length = c.length) (hD : List.zipWith (· ^^^ ·) b c = List.replicate n (BitVec.ofNat 8 0) ++ xs ++ List.replicate r (BitVec.ofNat 8 0)) (hx : xs.length ≤ 4) :
    sumMore s b = sumMore s c ↔ ∀ x ∈ xs, x = (BitVec.ofNat 8 0) := by
  unfold sumMore
  rw [BitVec.not_inj, ← xor_zero_iff, ← more_xor b c _ _ hl, hD, BitVec.xor_self, more_append, more_append, more_zeros_iff, more_zero, more_zero_iff xs hx]
/-- Bytes with some of them changed. -/
def chg (b : List (BitVec 8)) (n : Nat) (x : Nat → BitVec 8) (i : Nat) : List (BitVec 8) := b.mapIdx fun j v => if n ≤ j ∧ j < n + i then v ^^^ x (j - n) else v
theorem chg_len (b : List (BitVec 8)) (n : Nat) (x : Nat → BitVec 8) (i : Nat) : (chg b n x i).length = b.length := by simp [chg]
theorem chg_zero (b : List (BitVec 8)) (n : Nat) (x : Nat → BitVec 8) : chg b n x 0 = b := by
  apply List.ext_getElem (chg_len _ _ _ _)
  intro j h1 h2
  simp only [chg, List.getElem_mapIdx]
  rw [if_neg (by omega)]
theorem chg_at (b : List (BitVec 8)) (n : Nat) (x : Nat → BitVec 8) (i : Nat) (h : n + i < b.length) : (chg b n x i)[n + i]'(by rw [chg_len]; exact h) = b[n + i] := by
  simp only [chg, List.getElem_mapIdx]
  rw [if_neg (by omega)]
theorem chg_succ (b : List (BitVec 8)) (n : Nat) (x : Nat → BitVec 8) (i : Nat) (h : n + i < b.length) : (chg b n x i).set (n + i) (b[n + i] ^^^ x i) = chg b n x (i + 1) := by
  apply List.ext_getElem (by simp [chg])
  intro j h1 h2
  rw [List.getElem_set]
  by_cases hj : n + i = j
  · subst hj
    rw [if_pos rfl]
    simp only [chg, List.getElem_mapIdx]
    rw [if_pos (by omega), show n + i - n = i by omega]
  · rw [if_neg hj]
    simp only [chg, List.getElem_mapIdx]
    by_cases h3 : n ≤ j ∧ j < n + i
    · rw [if_pos h3, if_pos (by omega)]
    · rw [if_neg h3, if_neg (by omega)]
theorem chg_diff (b : List (BitVec 8)) (n : Nat) (x : Nat → BitVec 8) (i : Nat) (h : n + i ≤ b.length) :
    List.zipWith (· ^^^ ·) b (chg b n x i) = List.replicate n (BitVec.ofNat 8 0) ++ (List.range i).map x ++ List.replicate (b.length - n - i) (BitVec.ofNat 8 0) := by
  apply List.ext_getElem
  · simp [chg]; omega
  intro j h1 h2
  simp only [List.getElem_zipWith, chg, List.getElem_mapIdx]
  by_cases h3 : j < n
  · rw [if_neg (by omega), BitVec.xor_self, List.getElem_append_left (by simp; omega), List.getElem_append_left (by simpa using h3), List.getElem_replicate]
  · by_cases h4 : j < n + i
    · rw [if_pos (by omega), ← BitVec.xor_assoc, BitVec.xor_self, BitVec.zero_xor, List.getElem_append_left (by simp; omega), List.getElem_append_right (by simp; omega)]
      simp
    · rw [if_neg (by omega), BitVec.xor_self, List.getElem_append_right (by simp; omega), List.getElem_replicate]
theorem chg_sum (s : BitVec 32) (b : List (BitVec 8)) (n : Nat) (x : Nat → BitVec 8) (i : Nat) (h : n + i ≤ b.length) (hi : i ≤ 4) : sumMore s b = sumMore s (chg b n x i) ↔ ∀ j, j < i → x j = (BitVec.ofNat 8 0) := by
  rw [burst s b (chg b n x i) ((List.range i).map x) n _ (chg_len _ _ _ _).symm (chg_diff b n x i h) (by simpa using hi)]
  simp
/-- One of a number's four bytes. -/
def part4 (y : BitVec 32) (i : Nat) : BitVec 8 := (y >>> (8 * i)).setWidth 8
theorem part4_nat (y : BitVec 32) (i : Nat) (h : i < 4) : (shr .u32 (y.toNat : Int) (IntKind.u64.wrap (wrap64 (8 * (i : Int))))) % 256 = ((part4 y i).toNat : Int) := by
  rw [w64 (by omega) (by omega), wu64 (by omega) (by omega)]
  unfold shr part4
  have e : min (8 * (i : Int)).toNat IntKind.u32.bits = 8 * i := by
    show min (8 * (i : Int)).toNat 32 = 8 * i
    omega
  rw [e, BitVec.toNat_setWidth, BitVec.toNat_ushiftRight, Nat.shiftRight_eq_div_pow]
  rfl
theorem sum_xor3 (a b c : List (BitVec 8)) (h1 : a.length = b.length) (h2 : b.length = c.length) : sum (List.zipWith (· ^^^ ·) (List.zipWith (· ^^^ ·) a b) c) = sum a ^^^ sum b ^^^ sum c := by
  unfold sum sumMore
  have e : ~~~ ((BitVec.ofNat 32 0)) = ~~~ ((BitVec.ofNat 32 0)) ^^^ ~~~ ((BitVec.ofNat 32 0)) ^^^ ~~~ ((BitVec.ofNat 32 0)) := by decide
  have h := more_xor (List.zipWith (· ^^^ ·) a b) c (~~~ ((BitVec.ofNat 32 0)) ^^^ ~~~ ((BitVec.ofNat 32 0))) (~~~ ((BitVec.ofNat 32 0))) (by simp; omega)
  rw [← e] at h
  rw [h, more_xor a b _ _ h1]
  apply BitVec.eq_of_getLsbD_eq
  intro i hi
  simp only [BitVec.getLsbD_xor, BitVec.getLsbD_not, hi, decide_true, Bool.true_and]
  cases (more (~~~(BitVec.ofNat 32 0)) a).getLsbD i <;> cases (more (~~~(BitVec.ofNat 32 0)) b).getLsbD i <;> cases (more (~~~(BitVec.ofNat 32 0)) c).getLsbD i <;> rfl
end Go.Proofs.Ytjefgdggjchhbaa.Crc
