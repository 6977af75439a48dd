/- A row of 32 numbers, where each bit goes to, makes of a number what the steps make of it. No program. No condition. -/
import Derived.Test.YtdcggaaaknafmaaTimes
import Derived.Test.YtdcggaaaknafmaaCrc
set_option linter.unusedVariables false
set_option linter.unusedSimpArgs false
namespace Go.Proofs.Ytdcggaaaknafmaa.Crc
open Go Go.RowKit Go.Proofs.Ytdcggaaaknafmaa.PAll Go.Proofs.YtdcggaaaknafmaaVW.PrintWords

theorem bit_lt (j i : Nat) (hi : i < 32) (hj : j < 32) : ((BitVec.ofNat 32 1) <<< j).getLsbD i = decide (i = j) := by
  rw [BitVec.getLsbD_shiftLeft]
  have h1 : (BitVec.ofNat 32 1).getLsbD (i - j) = decide (i - j = 0) := by
    rw [BitVec.getLsbD_ofNat]
    cases h : i - j with
    | zero => simp
    | succ k => simp [Nat.testBit_succ]
  rw [h1]
  by_cases e : i = j
  · subst e; simp [hi]
  · by_cases c : i < j
    · simp [e, c]
    · have : ¬ (i - j = 0) := by omega
      simp [e, this]
/-- The lowest bits of a number. -/
def low (r : BitVec 32) (j : Nat) : BitVec 32 := BitVec.ofNat 32 (r.toNat % 2 ^ j)
theorem low_bit (r : BitVec 32) (j i : Nat) (hi : i < 32) : (low r j).getLsbD i = (decide (i < j) && r.getLsbD i) := by
  unfold low
  rw [BitVec.getLsbD_ofNat, Nat.testBit_mod_two_pow, BitVec.testBit_toNat]
  simp [hi]
theorem low_zero (r : BitVec 32) : low r 0 = BitVec.ofNat 32 0 := by
  unfold low
  rw [Nat.pow_zero, Nat.mod_one]
theorem low_all (r : BitVec 32) : low r 32 = r := by
  apply BitVec.eq_of_getLsbD_eq
  intro i hi
  rw [low_bit r 32 i hi]
  simp [hi]
theorem low_succ (r : BitVec 32) (j : Nat) (hj : j < 32) : low r (j + 1) = low r j ^^^ (if r.getLsbD j then (BitVec.ofNat 32 1) <<< j else BitVec.ofNat 32 0) := by
  apply BitVec.eq_of_getLsbD_eq
  intro i hi
  rw [BitVec.getLsbD_xor, low_bit r (j + 1) i hi, low_bit r j i hi]
  by_cases hb : r.getLsbD j = true
  · rw [if_pos hb, bit_lt j i hi hj]
    by_cases e : i = j
    · subst e; simp [hb]
    · have : decide (i < j + 1) = decide (i < j) := by rw [decide_eq_decide]; omega
      rw [this]; simp [e]
  · rw [if_neg hb]
    have hb2 : r.getLsbD j = false := by simpa using hb
    by_cases e : i = j
    · subst e; simp [hb2]
    · have : decide (i < j + 1) = decide (i < j) := by rw [decide_eq_decide]; omega
      rw [this]; simp
theorem masked (m r : BitVec 32) (j : Nat) : m &&& -((r >>> j) &&& (BitVec.ofNat 32 1)) = if r.getLsbD j then m else BitVec.ofNat 32 0 := by
  rw [and_one_cases, BitVec.getLsbD_ushiftRight, Nat.add_zero]
  by_cases hb : r.getLsbD j = true
  · rw [if_pos hb, if_pos hb]
    have : -(BitVec.ofNat 32 1) = BitVec.allOnes 32 := by decide
    rw [this, BitVec.and_allOnes]
  · rw [if_neg hb, if_neg hb]
    have : -(BitVec.ofNat 32 0) = BitVec.ofNat 32 0 := by decide
    rw [this]
    simp
def tmB (m : Nat → BitVec 32) (r : BitVec 32) : Nat → BitVec 32
  | 0 => BitVec.ofNat 32 0
  | j + 1 => tmB m r j ^^^ (m j &&& -((r >>> j) &&& (BitVec.ofNat 32 1)))
theorem tmB_low (n : Nat) (r : BitVec 32) (j : Nat) (hj : j ≤ 32) : tmB (fun i => steps n ((BitVec.ofNat 32 1) <<< i)) r j = steps n (low r j) := by
  induction j with
  | zero => rw [low_zero, steps_zero]; rfl
  | succ j ih =>
    show tmB _ r j ^^^ (steps n ((BitVec.ofNat 32 1) <<< j) &&& -((r >>> j) &&& (BitVec.ofNat 32 1))) = _
    rw [ih (by omega), masked, low_succ r j (by omega), steps_xor]
    by_cases hb : r.getLsbD j = true
    · rw [if_pos hb, if_pos hb]
    · rw [if_neg hb, if_neg hb, steps_zero]
/-- Where each bit goes to. -/
def cols (n : Nat) : List Int := (List.range 32).map (fun i => ((steps n ((BitVec.ofNat 32 1) <<< i)).toNat : Int))
theorem cols_len (n : Nat) : (cols n).length = 32 := by simp [cols]
theorem rd_cols (n i : Nat) (h : i < 32) : rd (cols n) (i : Int) = ((steps n ((BitVec.ofNat 32 1) <<< i)).toNat : Int) := by
  unfold rd cols
  rw [Int.toNat_natCast]
  simp [h]
theorem tm_b (n : Nat) (r : BitVec 32) (j : Nat) (hj : j ≤ 32) : tm (cols n) (r.toNat : Int) j = ((tmB (fun i => steps n ((BitVec.ofNat 32 1) <<< i)) r j).toNat : Int) := by
  induction j with
  | zero => rfl
  | succ j ih =>
    show bits .xor .u32 (tm (cols n) (r.toNat : Int) j) (bits .and .u32 (rd (cols n) (j : Int)) (-bits .and .u32 ((r.toNat : Int) / 2 ^ j) 1 % 4294967296)) = _
    have e1 : ((r.toNat : Int) / 2 ^ j) = ((r >>> j).toNat : Int) := by
      rw [← div32 r j]
      push_cast
      rfl
    have e2 : (1 : Int) = (((BitVec.ofNat 32 1)).toNat : Int) := rfl
    rw [ih (by omega), rd_cols n j (by omega), e1]
    conv => lhs; rw [e2, and32, neg32, and32, xor32]
    rfl
/-- What the row makes of a number. -/
theorem tm_steps (n : Nat) (r : BitVec 32) : tm (cols n) (r.toNat : Int) 32 = ((steps n r).toNat : Int) := by
  rw [tm_b n r 32 (Nat.le_refl _), tmB_low n r 32 (Nat.le_refl _), low_all]
theorem byte_none : byte (BitVec.ofNat 8 0) = BitVec.ofNat 32 0 := by decide
theorem take_none (r : BitVec 32) : take r (BitVec.ofNat 8 0) = steps 8 r := by
  unfold take
  rw [byte_none]
  simp
theorem steps_two (n : Nat) (r : BitVec 32) : steps n (steps n r) = steps (n + n) r := (steps_add n n r).symm
theorem pow_b (j : Nat) (hj : j < 32) : (2 : Int) ^ j % 4294967296 = ((((BitVec.ofNat 32 1) <<< j).toNat : Nat) : Int) := by
  have h1 : ((BitVec.ofNat 32 1) <<< j).toNat = 2 ^ j % 2 ^ 32 := by
    rw [BitVec.toNat_shiftLeft, Nat.shiftLeft_eq]
    have : (BitVec.ofNat 32 1).toNat = 1 := rfl
    rw [this, Nat.one_mul]
  rw [h1, show (2 : Nat) ^ 32 = 4294967296 from rfl]
  exact (by rw [Int.natCast_emod, Int.natCast_pow]; rfl : (2 : Int) ^ j % 4294967296 = ((2 ^ j % 4294967296 : Nat) : Int))
/-- The row, as far as it is laid. -/
def laidc (n j : Nat) : List Int := (List.range 32).map (fun i => if i < j then ((steps n ((BitVec.ofNat 32 1) <<< i)).toNat : Int) else 0)
theorem laidc_len (n j : Nat) : (laidc n j).length = 32 := by simp [laidc]
theorem laidc_zero (n : Nat) : laidc n 0 = List.replicate 32 0 := by
  unfold laidc
  apply List.ext_getElem?
  intro i
  rw [List.getElem?_replicate]
  by_cases h : i < 32
  · rw [if_pos h]
    simp [h]
  · rw [if_neg h]
    simp [h]
theorem laidc_all (n : Nat) : laidc n 32 = cols n := by
  unfold laidc cols
  refine List.map_congr_left (fun i hi => ?_)
  rw [if_pos (List.mem_range.1 hi)]
theorem laidc_set (n j : Nat) (hj : j < 32) : (laidc n j).set j ((steps n ((BitVec.ofNat 32 1) <<< j)).toNat : Int) = laidc n (j + 1) := by
  apply List.ext_getElem?
  intro i
  rw [List.getElem?_set]
  by_cases e : j = i
  · subst e
    rw [if_pos rfl, if_pos (by rw [laidc_len]; exact hj)]
    simp [laidc, hj]
  · rw [if_neg e]
    by_cases h : i < 32
    · by_cases c : i < j
      · simp [laidc, h, c, show i < j + 1 by omega]
      · simp [laidc, h, c, show ¬ i < j + 1 by omega]
    · simp [laidc, h]
end Go.Proofs.Ytdcggaaaknafmaa.Crc
