/- What the printed functions of crc and of its reference come to, for every number and every row of bytes: the words of Crc. No condition. -/
import Derived.Test.YtjefgdggjchhbaaCrc
import Derived.Test.YtjefgdggjchhbaaPAllx2
import Derived.Test.YtjefgdggjchhbaaPAllx3
namespace Go.Proofs.Ytjefgdggjchhbaa.Pure
open Go Go.RowKit Go.Proofs.Ytjefgdggjchhbaa.PAll Go.Proofs.Ytjefgdggjchhbaa.Crc Go.Proofs.YtjefgdggjchhbaaVW.PrintWords Go.Proofs.YtjefgdggjchhbaaVW.PrintLast

theorem step_f (r : BitVec 32) : crc_Step.f (r.toNat : Int) = some ((stepB r).toNat : Int) := by
  unfold crc_Step.f
  have h2 : (r.toNat : Int) / (2 : Int) = ((r >>> 1).toNat : Int) := div32 r 1
  have h1 : bits .and .u32 (r.toNat : Int) 1 = ((r &&& (BitVec.ofNat 32 1)).toNat : Int) := and32 r (BitVec.ofNat 32 1)
  have hp : bits .and .u32 2197175160 ((-(r &&& (BitVec.ofNat 32 1))).toNat : Int) = ((poly &&& -(r &&& (BitVec.ofNat 32 1))).toNat : Int) := and32 poly _
  rw [h2, h1, neg32, hp, xor32, step_mask]
theorem bit0 (r : BitVec 32) : r.getLsbD 0 = decide (r.toNat % 2 = 1) := by
  rw [← BitVec.testBit_toNat, Nat.testBit_zero]
theorem refstep_f (r : BitVec 32) : stookref02_Step.f (r.toNat : Int) = some ((stepB r).toNat : Int) := by
  unfold stookref02_Step.f
  have hd : Int.tdiv (r.toNat : Int) 2 % (4294967296 : Int) = ((r >>> 1).toNat : Int) := by
    rw [← div32 r 1, Int.tdiv_eq_ediv_of_nonneg (by omega)]
    have := r.isLt
    show (r.toNat : Int) / 2 % (4294967296 : Int) = (r.toNat : Int) / 2
    omega
  have hm : Int.tmod (r.toNat : Int) 2 = ((r.toNat % 2 : Nat) : Int) := rfl
  rw [hd, hm]
  by_cases h : r.toNat % 2 = 1
  · rw [if_neg (by omega)]
    have hp : bits .xor .u32 ((r >>> 1).toNat : Int) 2197175160 = ((r >>> 1 ^^^ poly).toNat : Int) := xor32 _ poly
    rw [hp]
    unfold stepB
    rw [bit0, decide_eq_true h]
    rfl
  · rw [if_pos (by omega)]
    unfold stepB
    rw [bit0, decide_eq_false h]
    rfl
theorem take_l (d : Nat) : ∀ (k i : Nat) (r : BitVec 32), i + d = 8 → d < k → crc_Take.l0 k (r.toNat : Int) (i : Int) = some ((steps d r).toNat : Int) := by
  induction d with
  | zero =>
    intro k i r hi hk
    obtain ⟨k, rfl⟩ : ∃ m, k = m + 1 := ⟨k - 1, by omega⟩
    simp only [crc_Take.l0]
    rw [if_neg (by omega)]
    rfl
  | succ d ih =>
    intro k i r hi hk
    obtain ⟨k, rfl⟩ : ∃ m, k = m + 1 := ⟨k - 1, by omega⟩
    simp only [crc_Take.l0]
    rw [if_pos (by omega), step_f, bnd, w64 (by omega) (by omega), show (i : Int) + 1 = ((i + 1 : Nat) : Int) by omega]
    exact ih k (i + 1) (stepB r) (by omega) (by omega)
theorem reftake_l (d : Nat) : ∀ (k i : Nat) (r : BitVec 32), i + d = 8 → d < k → stookref02_Take.l0 k (r.toNat : Int) (i : Int) = some ((steps d r).toNat : Int) := by
  induction d with
  | zero =>
    intro k i r hi hk
    obtain ⟨k, rfl⟩ : ∃ m, k = m + 1 := ⟨k - 1, by omega⟩
    simp only [stookref02_Take.l0]
    rw [if_neg (by omega)]
    rfl
  | succ d ih =>
    intro k i r hi hk
    obtain ⟨k, rfl⟩ : ∃ m, k = m + 1 := ⟨k - 1, by omega⟩
    simp only [stookref02_Take.l0]
    rw [if_pos (by omega), refstep_f, bnd, w64 (by omega) (by omega), show (i : Int) + 1 = ((i + 1 : Nat) : Int) by omega]
    exact ih k (i + 1) (stepB r) (by omega) (by omega)
theorem byte_in (c : BitVec 8) : (c.toNat : Int) % (4294967296 : Int) = ((byte c).toNat : Int) := by
  rw [byte_nat]; have := c.isLt; omega
theorem take_f (k : Nat) (hk : 8 < k) (r : BitVec 32) (c : BitVec 8) : crc_Take.f k (r.toNat : Int) (c.toNat : Int) = some ((take r c).toNat : Int) := by
  unfold crc_Take.f
  rw [byte_in, xor32]
  exact take_l 8 k 0 _ (by omega) hk
theorem reftake_f (k : Nat) (hk : 8 < k) (r : BitVec 32) (c : BitVec 8) : stookref02_Take.f k (r.toNat : Int) (c.toNat : Int) = some ((take r c).toNat : Int) := by
  unfold stookref02_Take.f
  rw [byte_in, xor32]
  exact reftake_l 8 k 0 _ (by omega) hk
theorem more_l (l : List (BitVec 8)) (hl : l.length ≤ 140737488355328) (d : Nat) : ∀ (k i : Nat) (r : BitVec 32), i + d = l.length → d + 8 < k →
    crc_More.l0 k (r.toNat : Int) (nat8 l) (l.length : Int) (i : Int) = some ((~~~ (more r (l.drop i))).toNat : Int) := by
  induction d with
  | zero =>
    intro k i r hi hk
    obtain ⟨k, rfl⟩ : ∃ m, k = m + 1 := ⟨k - 1, by omega⟩
    simp only [crc_More.l0]
    rw [if_neg (by omega), not32, List.drop_eq_nil_of_le (by omega)]
    rfl
  | succ d ih =>
    intro k i r hi hk
    obtain ⟨k, rfl⟩ : ∃ m, k = m + 1 := ⟨k - 1, by omega⟩
    simp only [crc_More.l0]
    rw [if_pos (by omega), if_pos (by omega), if_pos (by rw [nat8_len]; omega), rd_nat8 l i (by omega), take_f k (by omega), bnd, w64 (by omega) (by omega), show (i : Int) + 1 = ((i + 1 : Nat) : Int) by omega,
      ih k (i + 1) _ (by omega) (by omega), List.drop_eq_getElem_cons (show i < l.length by omega)]
    rfl
theorem refmore_l (l : List (BitVec 8)) (hl : l.length ≤ 140737488355328) (d : Nat) : ∀ (k i : Nat) (r : BitVec 32), i + d = l.length → d + 8 < k →
    stookref02_More.l0 k (nat8 l) (r.toNat : Int) (i : Int) = some ((~~~ (more r (l.drop i))).toNat : Int) := by
  induction d with
  | zero =>
    intro k i r hi hk
    obtain ⟨k, rfl⟩ : ∃ m, k = m + 1 := ⟨k - 1, by omega⟩
    simp only [stookref02_More.l0]
    rw [if_neg (by rw [nat8_len]; omega), not32, List.drop_eq_nil_of_le (by omega)]
    rfl
  | succ d ih =>
    intro k i r hi hk
    obtain ⟨k, rfl⟩ : ∃ m, k = m + 1 := ⟨k - 1, by omega⟩
    simp only [stookref02_More.l0]
    rw [if_pos (by rw [nat8_len]; omega), if_pos (by omega), rd_nat8 l i (by omega), reftake_f k (by omega), bnd, w64 (by omega) (by omega), show (i : Int) + 1 = ((i + 1 : Nat) : Int) by omega,
      ih k (i + 1) _ (by omega) (by omega), List.drop_eq_getElem_cons (show i < l.length by omega)]
    rfl
theorem more_f (k : Nat) (s : BitVec 32) (l : List (BitVec 8)) (hl : l.length ≤ 140737488355328) (hk : l.length + 8 < k) : crc_More.f k (s.toNat : Int) (nat8 l) = some ((sumMore s l).toNat : Int) := by
  unfold crc_More.f sumMore
  rw [not32, nat8_len]
  exact more_l l hl l.length k 0 _ (by omega) hk
theorem refmore_f (k : Nat) (s : BitVec 32) (l : List (BitVec 8)) (hl : l.length ≤ 140737488355328) (hk : l.length + 8 < k) : stookref02_More.f k (s.toNat : Int) (nat8 l) = some ((sumMore s l).toNat : Int) := by
  unfold stookref02_More.f sumMore
  rw [not32]
  exact refmore_l l hl l.length k 0 _ (by omega) hk
theorem of_f (k : Nat) (l : List (BitVec 8)) (hl : l.length ≤ 140737488355328) (hk : l.length + 8 < k) : crc_Of.f k (nat8 l) = some ((sum l).toNat : Int) := by
  unfold crc_Of.f sum
  have h := more_f k (BitVec.ofNat 32 0) l hl hk
  rw [show (((BitVec.ofNat 32 0)).toNat : Int) = 0 from rfl] at h
  rw [h, bnd]
theorem refof_f (k : Nat) (l : List (BitVec 8)) (hl : l.length ≤ 140737488355328) (hk : l.length + 8 < k) : stookref02_Of.f k (nat8 l) = some ((sum l).toNat : Int) := by
  unfold stookref02_Of.f sum
  have h := refmore_f k (BitVec.ofNat 32 0) l hl hk
  rw [show (((BitVec.ofNat 32 0)).toNat : Int) = 0 from rfl] at h
  rw [h, bnd]
end Go.Proofs.Ytjefgdggjchhbaa.Pure
