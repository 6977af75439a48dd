/- Two sums joined: what crc.Join and the reference come to. No condition. -/
import Derived.Test.YtdcggaaaknafmaaPAllx15
import Derived.Test.YtdcggaaaknafmaaPAllx2
import Derived.Test.YtdcggaaaknafmaaPCrc
set_option linter.unusedVariables false
set_option linter.unusedSimpArgs false
namespace Go.Proofs.Ytdcggaaaknafmaa.Crc
theorem more_steps (n : Nat) : ∀ r : BitVec 32, more r (List.replicate n (BitVec.ofNat 8 0)) = steps (8 * n) r := by
  induction n with
  | zero => intro r; rfl
  | succ n ih =>
    intro r
    rw [List.replicate_succ]
    show more (take r (BitVec.ofNat 8 0)) _ = _
    rw [ih, take_none, ← steps_add, show 8 + 8 * n = 8 * (n + 1) by omega]
theorem zip_zero : ∀ l : List (BitVec 8), List.zipWith (· ^^^ ·) (List.replicate l.length (BitVec.ofNat 8 0)) l = l
  | [] => rfl
  | c :: l => by
    rw [List.length_cons, List.replicate_succ, List.zipWith_cons_cons, zip_zero l]
    congr 1
    simp
theorem more_split (x y : BitVec 32) (l : List (BitVec 8)) : more (x ^^^ y) l = steps (8 * l.length) x ^^^ more y l := by
  have h := more_xor (List.replicate l.length (BitVec.ofNat 8 0)) l x y (by simp)
  rw [zip_zero, more_steps] at h
  exact h
theorem not_xor (x : BitVec 32) : ~~~ x = x ^^^ ~~~ (BitVec.ofNat 32 0) := by
  apply BitVec.eq_of_getLsbD_eq
  intro i hi
  have h0 : (BitVec.ofNat 32 0).getLsbD i = false := by rw [BitVec.getLsbD_ofNat]; simp
  rw [BitVec.getLsbD_not, BitVec.getLsbD_xor, BitVec.getLsbD_not, h0]
  cases x.getLsbD i <;> simp [hi]
theorem not_xor_not (x y : BitVec 32) : ~~~ (x ^^^ ~~~ y) = x ^^^ y := by
  apply BitVec.eq_of_getLsbD_eq
  intro i hi
  simp [hi]
theorem not_not (x : BitVec 32) : ~~~ (~~~ x) = x := by
  apply BitVec.eq_of_getLsbD_eq
  intro i hi
  simp [hi]
/-- The sum of two pieces is both sums joined. -/
theorem sum_join (a b : List (BitVec 8)) : sum (a ++ b) = steps (8 * b.length) (sum a) ^^^ sum b := by
  have e1 : ∀ l, more (~~~ (BitVec.ofNat 32 0)) l = ~~~ (sum l) := fun l => by
    unfold sum sumMore
    rw [not_not]
  have e2 : sum (a ++ b) = ~~~ (more (~~~ (BitVec.ofNat 32 0)) (a ++ b)) := rfl
  rw [e2, more_append, e1 a, not_xor (sum a), more_split, e1 b, not_xor_not]
theorem sum_more (a b : List (BitVec 8)) : sum (a ++ b) = sumMore (sum a) b := by
  unfold sum sumMore
  rw [more_append, not_not]
end Go.Proofs.Ytdcggaaaknafmaa.Crc
namespace Go.Proofs.Ytdcggaaaknafmaa.Pure
open Go Go.RowKit Go.Proofs.Ytdcggaaaknafmaa.PAll Go.Proofs.Ytdcggaaaknafmaa.Crc Go.Proofs.YtdcggaaaknafmaaVW.PrintWords Go.Proofs.YtdcggaaaknafmaaVW.PrintLast
theorem join_f (k : Nat) (A B : BitVec 32) (n : Nat) (hn : n ≤ 1048576) : crc_Join.f k (A.toNat : Int) (B.toNat : Int) (n : Int) = some (((steps (8 * n) A ^^^ B).toNat : Int), 0) := by
  have ha := A.isLt
  have hb := B.isLt
  unfold crc_Join.f
  rw [if_pos (by omega), if_neg (by omega), ofInt32, ofInt32, Int.toNat_natCast]
theorem join_no (k : Nat) (A B : BitVec 32) (n : Int) (hn : n < 0 ∨ 1048576 < n) : crc_Join.f k (A.toNat : Int) (B.toNat : Int) n = some (0, 2) := by
  have ha := A.isLt
  have hb := B.isLt
  unfold crc_Join.f
  rw [if_pos (by omega), if_pos hn]
theorem refjoin_l (B : BitVec 32) (n : Nat) (hn : n ≤ 1048576) (d : Nat) : ∀ (k i : Nat) (A : BitVec 32), i + d = n → d + 9 < k → stookref02_Join.l0 k (A.toNat : Int) (B.toNat : Int) (n : Int) (i : Int) = some (((steps (8 * d) A ^^^ B).toNat : Int), 0) := by
  induction d with
  | zero =>
    intro k i A hi hk
    obtain ⟨k, rfl⟩ : ∃ m, k = m + 1 := ⟨k - 1, by omega⟩
    simp only [stookref02_Join.l0]
    rw [if_neg (by omega), xor32]
    rfl
  | succ d ih =>
    intro k i A hi hk
    obtain ⟨k, rfl⟩ : ∃ m, k = m + 1 := ⟨k - 1, by omega⟩
    have ht := reftake_f k (by omega) A (BitVec.ofNat 8 0)
    rw [take_none] at ht
    have ht2 : stookref02_Take.f k (A.toNat : Int) 0 = some ((steps 8 A).toNat : Int) := ht
    simp only [stookref02_Join.l0]
    rw [if_pos (by omega), ht2, bnd, w64 (by omega) (by omega), show (i : Int) + 1 = ((i + 1 : Nat) : Int) by omega, ih k (i + 1) _ (by omega) (by omega), ← steps_add, show 8 + 8 * d = 8 * (d + 1) by omega]
theorem refjoin_f (k : Nat) (A B : BitVec 32) (n : Nat) (hn : n ≤ 1048576) (hk : n + 11 < k) : stookref02_Join.f k (A.toNat : Int) (B.toNat : Int) (n : Int) = some (((steps (8 * n) A ^^^ B).toNat : Int), 0) := by
  obtain ⟨k, rfl⟩ : ∃ m, k = m + 1 := ⟨k - 1, by omega⟩
  unfold stookref02_Join.f
  rw [if_neg (by omega), decide_eq_false (by omega)]
  simp only [stookref02_Join.j0]
  rw [if_neg (by decide)]
  exact refjoin_l B n hn n k 0 A (by omega) (by omega)
theorem refjoin_no (k : Nat) (A B : BitVec 32) (n : Int) (hn : n < 0 ∨ 1048576 < n) (hk : 0 < k) : stookref02_Join.f k (A.toNat : Int) (B.toNat : Int) n = some (0, 2) := by
  obtain ⟨k, rfl⟩ : ∃ m, k = m + 1 := ⟨k - 1, by omega⟩
  unfold stookref02_Join.f
  by_cases h0 : n < 0
  · rw [if_pos h0]
    simp only [stookref02_Join.j0]
    rw [if_pos trivial]
  · rw [if_neg h0, decide_eq_true (by omega)]
    simp only [stookref02_Join.j0]
    rw [if_pos trivial]
end Go.Proofs.Ytdcggaaaknafmaa.Pure
