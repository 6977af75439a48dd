/- What the printed functions of leb and of its reference come to: the words of Leb. No condition. -/
import Derived.Test.YtibkaeaddpbnbaaLeb
import Derived.Test.YtibkaeaddpbnbaaPAllx2
namespace Go.Proofs.Ytibkaeaddpbnbaa.Pure
open Go Go.RowKit Go.Proofs.Ytibkaeaddpbnbaa.PAll Go.Proofs.Ytibkaeaddpbnbaa.Crc Go.Proofs.Ytibkaeaddpbnbaa.Leb Go.Proofs.YtibkaeaddpbnbaaVW.PrintWords Go.Proofs.YtibkaeaddpbnbaaVW.PrintLast

theorem same_l (l m : List Int) (h : l.length = m.length) (hl : l.length ≤ 281474976710656) (d : Nat) : ∀ (k i : Nat), i + d = l.length → d < k →
    stookref00_Same.l0 k l m (i : Int) = some (decide (l.drop i = m.drop i)) := by
  induction d with
  | zero =>
    intro k i hi hk
    obtain ⟨k, rfl⟩ : ∃ m, k = m + 1 := ⟨k - 1, by omega⟩
    simp only [stookref00_Same.l0]
    rw [if_neg (by omega), List.drop_eq_nil_of_le (by omega), List.drop_eq_nil_of_le (by omega)]
    rfl
  | succ d ih =>
    intro k i hi hk
    obtain ⟨k, rfl⟩ : ∃ m, k = m + 1 := ⟨k - 1, by omega⟩
    simp only [stookref00_Same.l0]
    have e1 : rd l (i : Int) = l[i]'(by omega) := by unfold rd; rw [Int.toNat_natCast, List.getD_eq_getElem?_getD, List.getElem?_eq_getElem (by omega)]; rfl
    have e2 : rd m (i : Int) = m[i]'(by omega) := by unfold rd; rw [Int.toNat_natCast, List.getD_eq_getElem?_getD, List.getElem?_eq_getElem (by omega)]; rfl
    rw [if_pos (by omega), if_pos (by omega), if_pos (by omega), w64 (by omega) (by omega), show (i : Int) + 1 = ((i + 1 : Nat) : Int) by omega, ih k (i + 1) (by omega) (by omega), e1, e2,
      List.drop_eq_getElem_cons (show i < l.length by omega), List.drop_eq_getElem_cons (show i < m.length by omega)]
    by_cases hx : l[i]'(by omega) = m[i]'(by omega)
    · rw [if_pos hx, hx]
      refine congrArg some ?_
      rw [decide_eq_decide]
      exact ⟨fun q => by rw [q], fun q => (List.cons.inj q).2⟩
    · rw [if_neg hx]
      exact congrArg some (decide_eq_false (fun q => hx (List.cons.inj q).1)).symm
theorem same_f (k : Nat) (l m : List Int) (hl : l.length ≤ 281474976710656) (hk : l.length < k) : stookref00_Same.f k l m = some (decide (l = m)) := by
  unfold stookref00_Same.f
  by_cases h : l.length = m.length
  · rw [if_pos (by omega)]
    exact same_l l m h hl l.length k 0 (by omega) hk
  · rw [if_neg (by omega), decide_eq_false (fun e => h (by rw [e]))]
theorem same_self (k : Nat) (l : List Int) (hl : l.length ≤ 281474976710656) (hk : l.length < k) : stookref00_Same.f k l l = some true := by
  rw [same_f k l l hl hk, decide_eq_true rfl]
/-- All the bytes of numbers. -/
def encs (l : List Nat) : List Int := l.flatMap enc
def ints (l : List Nat) : List Int := l.map Int.ofNat
theorem ints_len (l : List Nat) : (ints l).length = l.length := by simp [ints]
theorem rd_ints (l : List Nat) (i : Nat) (h : i < l.length) : rd (ints l) (i : Int) = ((l[i]'h : Nat) : Int) := by
  unfold rd ints
  rw [Int.toNat_natCast, List.getD_eq_getElem?_getD, List.getElem?_map, List.getElem?_eq_getElem h]
  rfl
theorem encs_one (n : Nat) : encs [n] = enc n := by simp [encs]
theorem bytes_rd {l : List Int} (h : Bytes l) (i : Nat) (hi : i < l.length) : rd l (i : Int) = l[i]'hi ∧ 0 ≤ l[i]'hi ∧ l[i]'hi < 256 := by
  refine ⟨?_, h _ (List.getElem_mem _)⟩
  unfold rd; rw [Int.toNat_natCast, List.getD_eq_getElem?_getD, List.getElem?_eq_getElem hi]; rfl
/-- Where reading stands behind i bytes. -/
def out (acc at_ i : Nat) : Except Int (Nat × Nat) → Int × Int × Int
  | .ok (v, n) => (((acc + v * 2 ^ (7 * i) : Nat) : Int), ((at_ + i + n : Nat) : Int), 0)
  | .error e => (0, 0, e)
theorem low_at (b : List Int) (m c : Nat) (h : m + c < b.length) : low (b.drop m) (c + 1) = low (b.drop m) c + (b[m + c]'h).toNat % 128 * 2 ^ (7 * c) := by
  rw [low, List.getD_eq_getElem?_getD, List.getElem?_drop, List.getElem?_eq_getElem h]; rfl
end Go.Proofs.Ytibkaeaddpbnbaa.Pure
