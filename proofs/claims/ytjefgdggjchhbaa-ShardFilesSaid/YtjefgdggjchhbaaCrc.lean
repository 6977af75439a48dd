/- Numbers of 32 bits as bit vectors; a step of the sum, a byte taken in, rows of bytes: what they are, that they are linear and undone. No condition. -/
import Derived.Laws.BitsLemmas
import Derived.Test.YtjefgdggjchhbaaVWMost
namespace Go.Proofs.Ytjefgdggjchhbaa.Crc
open Go Go.RowKit Go.Proofs.YtjefgdggjchhbaaVW.PrintWords

theorem bnd {α β : Type} (a : α) (f : α → Option β) : (some a).bind f = f a := by
  have h : ∀ o : Option α, o = some a → o.bind f = f a := fun o e => by subst e; rfl
  exact h _ rfl
theorem u8_wf {a : Int} (h : (Lit.int .u8 a).wf = true) : 0 ≤ a ∧ a < 256 := by
  simp only [Lit.wf, Bool.and_eq_true, decide_eq_true_eq] at h
  have h1 : IntKind.u8.min = 0 := by decide
  have h2 : IntKind.u8.max = 255 := by decide
  omega
theorem w64 {i : Int} (h0 : -9223372036854775808 ≤ i) (h : i < 9223372036854775808) : wrap64 i = i := by unfold wrap64; omega
theorem wrap_u64 (n : Int) : IntKind.u64.wrap n = n % 18446744073709551616 := by
  simp [IntKind.wrap, IntKind.bits, IntKind.signed]
theorem wu64 {i : Int} (h0 : 0 ≤ i) (h : i < 18446744073709551616) : IntKind.u64.wrap i = i := by rw [wrap_u64]; omega
theorem wrap_u32 (n : Int) : IntKind.u32.wrap n = n % 4294967296 := by
  simp [IntKind.wrap, IntKind.bits, IntKind.signed]
theorem ofInt32 (x : BitVec 32) : BitVec.ofInt 32 (x.toNat : Int) = x := by simp
theorem wrap32_b (x : BitVec 32) : IntKind.u32.wrap (x.toNat : Int) = (x.toNat : Int) := by
  rw [wrap_u32]; have := x.isLt; omega
theorem xor32 (x y : BitVec 32) : bits .xor .u32 (x.toNat : Int) (y.toNat : Int) = ((x ^^^ y).toNat : Int) := by
  show IntKind.u32.wrap (((BitVec.ofInt 32 (x.toNat : Int)) ^^^ (BitVec.ofInt 32 (y.toNat : Int))).toNat : Int) = _
  rw [ofInt32, ofInt32, wrap32_b]
theorem and32 (x y : BitVec 32) : bits .and .u32 (x.toNat : Int) (y.toNat : Int) = ((x &&& y).toNat : Int) := by
  show IntKind.u32.wrap (((BitVec.ofInt 32 (x.toNat : Int)) &&& (BitVec.ofInt 32 (y.toNat : Int))).toNat : Int) = _
  rw [ofInt32, ofInt32, wrap32_b]
theorem div32 (x : BitVec 32) (n : Nat) : (x.toNat : Int) / ((2 ^ n : Nat) : Int) = ((x >>> n).toNat : Int) := by
  rw [BitVec.toNat_ushiftRight, Nat.shiftRight_eq_div_pow]; rfl
theorem neg32 (x : BitVec 32) : (-(x.toNat : Int)) % 4294967296 = ((-x).toNat : Int) := by
  rw [BitVec.toNat_neg]; have := x.isLt; omega
theorem not32 (x : BitVec 32) : bits .xor .u32 4294967295 (x.toNat : Int) = ((~~~x).toNat : Int) := by
  have h := xor32 (BitVec.allOnes 32) x
  rw [BitVec.allOnes_xor] at h
  exact h

def poly : BitVec 32 := (BitVec.ofNat 32 2197175160)
/-- One bit goes out. -/
def stepB (r : BitVec 32) : BitVec 32 := if r.getLsbD 0 then r >>> 1 ^^^ poly else r >>> 1
theorem and_one_cases (r : BitVec 32) : r &&& (BitVec.ofNat 32 1) = if r.getLsbD 0 then (BitVec.ofNat 32 1) else (BitVec.ofNat 32 0) := by
  apply BitVec.eq_of_getLsbD_eq
  intro i hi
  rw [BitVec.getLsbD_and, BitVec.getLsbD_one]
  rcases Nat.eq_zero_or_pos i with rfl | h
  · cases h : r.getLsbD 0 <;> simp
  · have h2 : i ≠ 0 := by omega
    cases h : r.getLsbD 0 <;> simp [h2]
theorem step_mask (r : BitVec 32) : r >>> 1 ^^^ (poly &&& -(r &&& (BitVec.ofNat 32 1))) = stepB r := by
  unfold stepB
  rw [and_one_cases]
  cases h : r.getLsbD 0
  · simp
  · have : -((BitVec.ofNat 32 1)) = BitVec.allOnes 32 := by decide
    simp only [if_true, this, BitVec.and_allOnes]
/-- n steps. -/
def steps : Nat → BitVec 32 → BitVec 32
  | 0, r => r
  | n + 1, r => steps n (stepB r)
/-- A byte, as 32 bits. -/
def byte (c : BitVec 8) : BitVec 32 := c.setWidth 32
theorem byte_nat (c : BitVec 8) : (byte c).toNat = c.toNat := by
  unfold byte
  rw [BitVec.toNat_setWidth]
  exact Nat.mod_eq_of_lt (Nat.lt_of_lt_of_le c.isLt (by decide))
def take (r : BitVec 32) (c : BitVec 8) : BitVec 32 := steps 8 (r ^^^ byte c)
def more : BitVec 32 → List (BitVec 8) → BitVec 32
  | r, [] => r
  | r, c :: l => more (take r c) l
/-- The sum, with bytes behind. -/
def sumMore (s : BitVec 32) (l : List (BitVec 8)) : BitVec 32 := ~~~ (more (~~~ s) l)
def sum (l : List (BitVec 8)) : BitVec 32 := sumMore (BitVec.ofNat 32 0) l
/-- Bytes, as whole numbers. -/
def nat8 (l : List (BitVec 8)) : List Int := l.map fun c => (c.toNat : Int)
theorem nat8_len (l : List (BitVec 8)) : (nat8 l).length = l.length := by simp [nat8]
theorem rd_nat8 (l : List (BitVec 8)) (i : Nat) (h : i < l.length) : rd (nat8 l) (i : Int) = ((l[i]'h).toNat : Int) := by
  unfold rd nat8
  rw [Int.toNat_natCast, List.getD_eq_getElem?_getD, List.getElem?_map, List.getElem?_eq_getElem h]
  rfl
theorem wrap_u8 (n : Int) : IntKind.u8.wrap n = n % 256 := by
  simp [IntKind.wrap, IntKind.bits, IntKind.signed]
end Go.Proofs.Ytjefgdggjchhbaa.Crc
