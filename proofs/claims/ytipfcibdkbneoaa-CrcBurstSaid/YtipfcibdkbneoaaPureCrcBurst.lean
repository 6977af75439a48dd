/- Bytes of which up to four that stand side by side are changed have another sum: the printed statement of CrcBurst. No condition. -/
import Derived.Test.YtipfcibdkbneoaaPCrc
import Derived.Test.YtipfcibdkbneoaaPAllx3
namespace Go.Proofs.Ytipfcibdkbneoaa.Pure
open Go Go.RowKit Go.Proofs.Ytipfcibdkbneoaa.PAll Go.Proofs.Ytipfcibdkbneoaa.Crc Go.Proofs.YtipfcibdkbneoaaVW.PrintWords Go.Proofs.YtipfcibdkbneoaaVW.PrintLast
theorem burst_end (b : List (BitVec 8)) (hb : b.length ≤ 140737488355000) (n : Nat) (y : BitVec 32) (i : Nat) (h : n + i ≤ b.length) (hi : i ≤ 4) (k : Nat) (hk : b.length + 21 < k) (same : Bool) (hs : same = decide (∀ j, j < i → part4 y j = (BitVec.ofNat 8 0))) :
    ((crc_Of.f k (nat8 b)).bind fun t134 => ((crc_Of.f k (nat8 (chg b n (part4 y) i))).bind fun t135 => (if ((t134 == t135) == same) = true then ((stooklaw02_works.f k).bind fun t136 => (some t136)) else (some false)))) = some true := by
  rw [of_f k b (by omega) (by omega), bnd, of_f k _ (by rw [chg_len]; omega) (by rw [chg_len]; omega), bnd, beq32, crcworks_f k (by omega), bnd]
  have e : decide (sum b = sum (chg b n (part4 y) i)) = same := by
    rw [hs, decide_eq_decide]
    exact chg_sum (BitVec.ofNat 32 0) b n (part4 y) i h hi
  rw [e, beq_self_eq_true, if_pos rfl]
theorem burst_l (b : List (BitVec 8)) (hb : b.length ≤ 140737488355000) (n : Nat) (hn : n < b.length) (y : BitVec 32) (d : Nat) : ∀ (k i : Nat) (same : Bool), i + d = 4 → n + i ≤ b.length → b.length + 22 + d < k → same = decide (∀ j, j < i → part4 y j = (BitVec.ofNat 8 0)) →
    stooklaw02_CrcBurst.l0 k (nat8 b) (n : Int) (y.toNat : Int) (nat8 (chg b n (part4 y) i)) same (i : Int) = some true := by
  induction d with
  | zero =>
    intro k i same hi hni hk hs
    obtain ⟨k, rfl⟩ : ∃ m, k = m + 1 := ⟨k - 1, by omega⟩
    simp only [stooklaw02_CrcBurst.l0]
    rw [if_neg (by omega)]
    exact burst_end b hb n y i hni (by omega) k (by omega) same hs
  | succ d ih =>
    intro k i same hi hni hk hs
    obtain ⟨k, rfl⟩ : ∃ m, k = m + 1 := ⟨k - 1, by omega⟩
    simp only [stooklaw02_CrcBurst.l0]
    rw [if_pos (by omega), w64 (i := (n : Int) + i) (by omega) (by omega), part4_nat y i (by omega), nat8_len, chg_len]
    by_cases h : n + i < b.length
    · rw [if_pos (by omega), wu64 (by rw [w64 (by omega) (by omega)]; omega) (by rw [w64 (by omega) (by omega)]; omega), if_pos (by rw [w64 (by omega) (by omega)]; omega), if_pos (by omega), show (n : Int) + (i : Int) = ((n + i : Nat) : Int) by omega,
        rd_nat8 _ (n + i) (by rw [chg_len]; exact h), chg_at b n (part4 y) i h, xor8, Int.toNat_natCast, nat8_set, chg_succ b n (part4 y) i h, bnd, w64 (i := (i : Int) + 1) (by omega) (by omega), show (i : Int) + 1 = ((i + 1 : Nat) : Int) by omega]
      have hz : (((part4 y i).toNat : Int) == 0) = decide (part4 y i = (BitVec.ofNat 8 0)) := by
        by_cases hp : part4 y i = (BitVec.ofNat 8 0)
        · rw [hp]; rfl
        · have : ¬ ((part4 y i).toNat : Int) = 0 := fun e => hp (BitVec.eq_of_toNat_eq (by rw [show ((BitVec.ofNat 8 0)).toNat = 0 from rfl]; omega))
          rw [decide_eq_false hp]; exact beq_eq_false_iff_ne.2 this
      have hall : ∀ q : Bool, q = decide (∀ j, j < i → part4 y j = (BitVec.ofNat 8 0)) → (if q = true then decide (part4 y i = (BitVec.ofNat 8 0)) else false) = decide (∀ j, j < i + 1 → part4 y j = (BitVec.ofNat 8 0)) := by
        intro q hq
        by_cases ha : ∀ j, j < i → part4 y j = (BitVec.ofNat 8 0)
        · rw [hq, decide_eq_true ha, if_pos rfl, decide_eq_decide]
          constructor
          · intro h0 j hj
            rcases Nat.lt_or_ge j i with hlt | hge
            · exact ha j hlt
            · rw [show j = i by omega]; exact h0
          · intro h0; exact h0 i (by omega)
        · rw [hq, decide_eq_false ha, if_neg (by decide)]
          exact (decide_eq_false (fun h0 => ha (fun j hj => h0 j (by omega)))).symm
      by_cases hq : same = true
      · rw [if_pos hq, hz]
        have e := hall same hs
        rw [if_pos hq] at e
        exact ih k (i + 1) _ (by omega) (by omega) (by omega) e
      · rw [if_neg hq]
        have e := hall same hs
        rw [if_neg hq] at e
        exact ih k (i + 1) _ (by omega) (by omega) (by omega) e
    · rw [if_neg (by omega)]
      exact burst_end b hb n y i hni (by omega) k (by omega) same hs
theorem CrcBurst : stooklaw02_CrcBurst.Pure := by
  intro l a y _ hl hw ha hy
  obtain ⟨b, rfl⟩ := of_bytes l hw
  obtain ⟨y, rfl⟩ := bv32 (u32_wf hy).1 (u32_wf hy).2
  rw [nat8_len] at hl
  refine ⟨b.length + 40, ?_⟩
  unfold stooklaw02_CrcBurst.f
  rw [nat8_len]
  have out : stooklaw02_CrcBurst.j0 (b.length + 40) (nat8 b) a (y.toNat : Int) true = some true := by
    simp only [stooklaw02_CrcBurst.j0, if_true]
    rw [crcworks_f _ (by omega), bnd]
  by_cases h0 : a < 0
  · rw [if_pos h0]; exact out
  · rw [if_neg h0]
    by_cases h1 : a ≥ (b.length : Int)
    · rw [decide_eq_true h1]; exact out
    · rw [decide_eq_false h1]
      obtain ⟨n, rfl⟩ := Int.eq_ofNat_of_zero_le (a := a) (by omega)
      have e : ∀ m, stooklaw02_CrcBurst.j0 (m + 1) (nat8 b) (n : Int) (y.toNat : Int) false = (if ([] : List Int).length + (nat8 b).length < 140737488355328 then (stooklaw02_CrcBurst.l0 m (nat8 b) (n : Int) (y.toNat : Int) (([] : List Int) ++ nat8 b) true 0) else none) := fun m => by
        simp only [stooklaw02_CrcBurst.j0, Bool.false_eq_true, if_false]
      rw [show b.length + 40 = (b.length + 39) + 1 from rfl, e, if_pos (by rw [nat8_len]; simp; omega), List.nil_append]
      have h := burst_l b (by omega) n (by omega) y 4 (b.length + 39) 0 true (by omega) (by omega) (by omega) (by simp)
      rw [chg_zero] at h
      exact h
end Go.Proofs.Ytipfcibdkbneoaa.Pure
