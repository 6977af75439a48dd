/- Words of 64 and 32 bits: what the printed functions say of whole numbers, said of bit vectors. No condition. -/
import Derived.Laws.BitsLemmas
import Derived.Test.YtemmjinfeaafdaaVWMore
set_option linter.unusedVariables false
set_option linter.unusedSimpArgs false
namespace Go.Proofs.Ytemmjinfeaafdaa.Bits
open Go Go.Proofs.YtemmjinfeaafdaaVW.PrintWords

theorem bnd {α β : Type} (a : α) (f : α → Option β) : (some a).bind f = f a := by
  have h : ∀ o : Option α, o = some a → o.bind f = f a := fun o e => by subst e; rfl
  exact h _ rfl

theorem u64_wf {a : Int} (h : (Lit.int .u64 a).wf = true) : 0 ≤ a ∧ a < 18446744073709551616 := by
  simp only [Lit.wf, Bool.and_eq_true, decide_eq_true_eq] at h
  have h1 : IntKind.u64.min = 0 := by decide
  have h2 : IntKind.u64.max = 18446744073709551615 := by decide
  omega

theorem bv64 {a : Int} (h0 : 0 ≤ a) (h1 : a < 18446744073709551616) : ∃ x : BitVec 64, a = (x.toNat : Int) :=
  ⟨BitVec.ofNat 64 a.toNat, by rw [BitVec.toNat_ofNat, Nat.mod_eq_of_lt (by omega)]; omega⟩

theorem wrap64_ofInt (n : Int) : IntKind.u64.wrap n = ((BitVec.ofInt 64 n).toNat : Int) := by
  simp only [IntKind.wrap, IntKind.bits, IntKind.signed, Bool.false_and, Bool.false_eq_true, if_false, BitVec.toNat_ofInt]
  omega

theorem wrap_u64 (n : Int) : IntKind.u64.wrap n = n % 18446744073709551616 := by
  simp [IntKind.wrap, IntKind.bits, IntKind.signed]

theorem ofInt_nat (x : BitVec 64) : BitVec.ofInt 64 (x.toNat : Int) = x := by simp

theorem wrap_nat (x : BitVec 64) : IntKind.u64.wrap (x.toNat : Int) = (x.toNat : Int) := by rw [wrap64_ofInt, ofInt_nat]

theorem xor_b (x y : BitVec 64) : bits .xor .u64 (x.toNat : Int) (y.toNat : Int) = ((x ^^^ y).toNat : Int) := by
  show IntKind.u64.wrap (((BitVec.ofInt 64 (x.toNat : Int)) ^^^ (BitVec.ofInt 64 (y.toNat : Int))).toNat : Int) = _
  rw [ofInt_nat, ofInt_nat, wrap_nat]

theorem and_b (x y : BitVec 64) : bits .and .u64 (x.toNat : Int) (y.toNat : Int) = ((x &&& y).toNat : Int) := by
  show IntKind.u64.wrap (((BitVec.ofInt 64 (x.toNat : Int)) &&& (BitVec.ofInt 64 (y.toNat : Int))).toNat : Int) = _
  rw [ofInt_nat, ofInt_nat, wrap_nat]

theorem or_b (x y : BitVec 64) : bits .or .u64 (x.toNat : Int) (y.toNat : Int) = ((x ||| y).toNat : Int) := by
  show IntKind.u64.wrap (((BitVec.ofInt 64 (x.toNat : Int)) ||| (BitVec.ofInt 64 (y.toNat : Int))).toNat : Int) = _
  rw [ofInt_nat, ofInt_nat, wrap_nat]

theorem div_b (x : BitVec 64) (n : Nat) : (x.toNat : Int) / ((2 ^ n : Nat) : Int) = ((x >>> n).toNat : Int) := by
  rw [BitVec.toNat_ushiftRight, Nat.shiftRight_eq_div_pow]; rfl

theorem mul_b (x y : BitVec 64) : IntKind.u64.wrap ((x.toNat : Int) * (y.toNat : Int)) = ((x * y).toNat : Int) := by
  rw [wrap64_ofInt, BitVec.ofInt_mul, ofInt_nat, ofInt_nat]

theorem add_b (x y : BitVec 64) : IntKind.u64.wrap ((x.toNat : Int) + (y.toNat : Int)) = ((x + y).toNat : Int) := by
  rw [wrap64_ofInt, BitVec.ofInt_add, ofInt_nat, ofInt_nat]

theorem sub_b (x y : BitVec 64) : IntKind.u64.wrap ((x.toNat : Int) - (y.toNat : Int)) = ((x - y).toNat : Int) := by
  rw [wrap64_ofInt, Int.sub_eq_add_neg, BitVec.ofInt_add, BitVec.ofInt_neg, ofInt_nat, ofInt_nat, BitVec.sub_eq_add_neg]

theorem neg_b (x : BitVec 64) : IntKind.u64.wrap (-(x.toNat : Int)) = ((-x).toNat : Int) := by
  rw [wrap64_ofInt, BitVec.ofInt_neg, ofInt_nat]

theorem shr_b (x : BitVec 64) (n : Nat) (h : n ≤ 64) : shr .u64 (x.toNat : Int) (n : Int) = ((x >>> n).toNat : Int) := by
  unfold shr
  have e : min (n : Int).toNat IntKind.u64.bits = n := by
    show min (n : Int).toNat 64 = n
    omega
  rw [e, ← div_b]; simp

theorem shl_b (x : BitVec 64) (n : Nat) (h : n ≤ 64) : shl .u64 (x.toNat : Int) (n : Int) = ((x <<< n).toNat : Int) := by
  unfold shl
  have e : min (n : Int).toNat IntKind.u64.bits = n := by
    show min (n : Int).toNat 64 = n
    omega
  rw [e, wrap_u64, BitVec.toNat_shiftLeft, Nat.shiftLeft_eq, Int.natCast_emod, Int.natCast_mul, Int.natCast_pow]
  rfl

theorem toNat_inj {x y : BitVec 64} : (x.toNat : Int) = (y.toNat : Int) ↔ x = y := by
  constructor
  · intro h; exact BitVec.eq_of_toNat_eq (by omega)
  · rintro rfl; rfl

theorem beq_b (x y : BitVec 64) : ((x.toNat : Int) == (y.toNat : Int)) = decide (x = y) := by
  by_cases h : x = y
  · subst h; simp
  · have h' : ¬ ((x.toNat : Int) = (y.toNat : Int)) := fun e => h (toNat_inj.1 e)
    simp [h, h']

/-- What is taken against itself shifted down. -/
def sx (n : Nat) (z : BitVec 64) : BitVec 64 := z ^^^ z >>> n
/-- Brought back, where three times n is 64 at least. -/
def us (n : Nat) (w : BitVec 64) : BitVec 64 := w ^^^ w >>> n ^^^ w >>> (n + n)

theorem shr_big (z : BitVec 64) (n : Nat) (h : 64 ≤ n) : z >>> n = (BitVec.ofNat 64 0) := by
  apply BitVec.eq_of_getLsbD_eq
  intro i hi
  rw [BitVec.getLsbD_ushiftRight, BitVec.getLsbD_of_ge _ _ (by omega)]
  simp

theorem us_sx (n : Nat) (h : 64 ≤ n + n + n) (z : BitVec 64) : us n (sx n z) = z := by
  unfold us sx
  rw [BitVec.ushiftRight_xor_distrib, BitVec.ushiftRight_xor_distrib, ← BitVec.shiftRight_add, ← BitVec.shiftRight_add,
    show n + (n + n) = n + n + n by omega, shr_big z _ h]
  apply BitVec.eq_of_getLsbD_eq
  intro i hi
  simp only [BitVec.getLsbD_xor, BitVec.getLsbD_zero]
  cases z.getLsbD i <;> cases (z >>> n).getLsbD i <;> cases (z >>> (n + n)).getLsbD i <;> rfl

theorem sx_us (n : Nat) (h : 64 ≤ n + n + n) (w : BitVec 64) : sx n (us n w) = w := by
  unfold us sx
  rw [BitVec.ushiftRight_xor_distrib, BitVec.ushiftRight_xor_distrib, ← BitVec.shiftRight_add, ← BitVec.shiftRight_add,
    shr_big w (n + n + n) h]
  apply BitVec.eq_of_getLsbD_eq
  intro i hi
  simp only [BitVec.getLsbD_xor, BitVec.getLsbD_zero]
  cases w.getLsbD i <;> cases (w >>> n).getLsbD i <;> cases (w >>> (n + n)).getLsbD i <;> rfl

theorem us_bit (n : Nat) (h : 64 ≤ n + n + n) (w : BitVec 64) (i : Nat) : (us n w).getLsbD i = (w.getLsbD i ^^ (us n w).getLsbD (i + n)) := by
  have e := congrArg (fun z : BitVec 64 => z.getLsbD i) (sx_us n h w)
  unfold sx at e
  simp only [BitVec.getLsbD_xor, BitVec.getLsbD_ushiftRight] at e
  rw [← e, Nat.add_comm n i]
  cases (us n w).getLsbD i <;> cases (us n w).getLsbD (i + n) <;> rfl

def one : BitVec 64 := (BitVec.ofNat 64 13787848793156543929)
def two : BitVec 64 := (BitVec.ofNat 64 10723151780598845931)
def unOne : BitVec 64 := (BitVec.ofNat 64 10871156337175269513)
def unTwo : BitVec 64 := (BitVec.ofNat 64 3573116690164977347)
def gold : BitVec 64 := (BitVec.ofNat 64 11400714819323198485)
theorem one_un : one * unOne = (BitVec.ofNat 64 1) := by decide
theorem two_un : two * unTwo = (BitVec.ofNat 64 1) := by decide

def mix (z : BitVec 64) : BitVec 64 := sx 31 (sx 27 (sx 30 z * one) * two)
def unmix (w : BitVec 64) : BitVec 64 := us 30 (us 27 (us 31 w * unTwo) * unOne)
theorem unmix_mix (z : BitVec 64) : unmix (mix z) = z := by
  unfold unmix mix
  rw [us_sx 31 (by omega), BitVec.mul_assoc, two_un, BitVec.mul_one, us_sx 27 (by omega), BitVec.mul_assoc, one_un, BitVec.mul_one, us_sx 30 (by omega)]
theorem mix_unmix (w : BitVec 64) : mix (unmix w) = w := by
  unfold unmix mix
  rw [sx_us 30 (by omega), BitVec.mul_assoc, BitVec.mul_comm unOne, one_un, BitVec.mul_one, sx_us 27 (by omega), BitVec.mul_assoc, BitVec.mul_comm unTwo, two_un, BitVec.mul_one, sx_us 31 (by omega)]
theorem mix_inj {a b : BitVec 64} : mix a = mix b ↔ a = b :=
  ⟨fun h => by rw [← unmix_mix a, h, unmix_mix], fun h => by rw [h]⟩

theorem g1 : (mix ((BitVec.ofNat 64 0) + gold)).toNat = 16294208416658607535 := by decide
theorem g2 : ((BitVec.ofNat 64 0) + gold).toNat = 11400714819323198485 := by decide
section
variable (x : BitVec 64)
theorem e30 : (x.toNat : Int) / (1073741824 : Int) = ((x >>> 30).toNat : Int) := div_b x 30
theorem e27 : (x.toNat : Int) / (134217728 : Int) = ((x >>> 27).toNat : Int) := div_b x 27
theorem e31 : (x.toNat : Int) / (2147483648 : Int) = ((x >>> 31).toNat : Int) := div_b x 31
theorem e60 : (x.toNat : Int) / (1152921504606846976 : Int) = ((x >>> 60).toNat : Int) := div_b x 60
theorem e54 : (x.toNat : Int) / (18014398509481984 : Int) = ((x >>> 54).toNat : Int) := div_b x 54
theorem e62 : (x.toNat : Int) / (4611686018427387904 : Int) = ((x >>> 62).toNat : Int) := div_b x 62
theorem m1 : IntKind.u64.wrap ((x.toNat : Int) * 13787848793156543929) = ((x * one).toNat : Int) := mul_b x one
theorem m2 : IntKind.u64.wrap ((x.toNat : Int) * 10723151780598845931) = ((x * two).toNat : Int) := mul_b x two
theorem m3 : IntKind.u64.wrap ((x.toNat : Int) * 3573116690164977347) = ((x * unTwo).toNat : Int) := mul_b x unTwo
theorem m4 : IntKind.u64.wrap ((x.toNat : Int) * 10871156337175269513) = ((x * unOne).toNat : Int) := mul_b x unOne
theorem aGold : IntKind.u64.wrap ((x.toNat : Int) + 11400714819323198485) = ((x + gold).toNat : Int) := add_b x gold
theorem aOne : IntKind.u64.wrap ((x.toNat : Int) + 1) = ((x + (BitVec.ofNat 64 1)).toNat : Int) := add_b x (BitVec.ofNat 64 1)
theorem sOne : IntKind.u64.wrap ((x.toNat : Int) - 1) = ((x - (BitVec.ofNat 64 1)).toNat : Int) := sub_b x (BitVec.ofNat 64 1)
theorem mGold : IntKind.u64.wrap (11400714819323198485 * (x.toNat : Int)) = ((gold * x).toNat : Int) := mul_b gold x
theorem mGold' : IntKind.u64.wrap ((x.toNat : Int) * 11400714819323198485) = ((x * gold).toNat : Int) := mul_b x gold
end

end Go.Proofs.Ytemmjinfeaafdaa.Bits
