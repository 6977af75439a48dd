/- PageBack: what its walk asks, out of the plain law of a burst in a page. -/
import Derived.Test.YtkecgmoaojklbaaBackWalk
import Derived.Test.YtkecgmoaojklbaaPPageBack
set_option linter.unusedVariables false
set_option linter.unusedSimpArgs false
namespace Go.Proofs.Ytkecgmoaojklbaa.Pure
open Go Go.RowKit Go.Proofs.Ytkecgmoaojklbaa.PAll Go.Proofs.Ytkecgmoaojklbaa.Crc Go.Proofs.Ytkecgmoaojklbaa.Leb Go.Proofs.YtkecgmoaojklbaaVW.PrintWords Go.Proofs.YtkecgmoaojklbaaVW.PrintLast
set_option maxRecDepth 100000
theorem bs_chg (x : Nat → BitVec 8) (by_ : Nat → Int) (hx : ∀ j, by_ j = ((x j).toNat : Int)) (m : Nat) (B : List (BitVec 8)) : ∀ j, m + j ≤ B.length → bs by_ m (nat8 B) j = nat8 (chg B m x j)
  | 0, _ => by rw [chg_zero]; rfl
  | j + 1, h => by
    rw [bs, bs_chg x by_ hx m B j (by omega), rd_nat8 _ _ (by rw [chg_len]; omega), hx, chg_at _ _ _ _ (by omega), xor8, nat8_set, chg_succ _ _ _ _ (by omega)]
theorem by4_x {b0 b1 b2 b3 : Int} (h0 : 0 ≤ b0 ∧ b0 < 256) (h1 : 0 ≤ b1 ∧ b1 < 256) (h2 : 0 ≤ b2 ∧ b2 < 256) (h3 : 0 ≤ b3 ∧ b3 < 256) : ∃ x : Nat → BitVec 8, (∀ j, by4 b0 b1 b2 b3 j = ((x j).toNat : Int)) ∧ ((∀ j, j < 4 → x j = BitVec.ofNat 8 0) ↔ [b0, b1, b2, b3] = [0, 0, 0, 0]) := by
  have hn : ∀ z : Int, 0 ≤ z ∧ z < 256 → z = ((BitVec.ofInt 8 z).toNat : Int) := by
    intro z hz
    rw [BitVec.toNat_ofInt]
    omega
  refine ⟨fun j => BitVec.ofInt 8 (by4 b0 b1 b2 b3 j), ?_, ?_⟩
  · intro j
    match j with
    | 0 => exact hn _ h0
    | 1 => exact hn _ h1
    | 2 => exact hn _ h2
    | _ + 3 => exact hn _ h3
  · have hz : ∀ z : Int, 0 ≤ z ∧ z < 256 → (BitVec.ofInt 8 z = BitVec.ofNat 8 0 ↔ z = 0) := by
      intro z hz
      constructor
      · intro h
        rw [hn z hz, h]
        rfl
      · intro h
        rw [h]
        rfl
    constructor
    · intro h
      have e0 := (hz _ h0).1 (h 0 (by decide))
      have e1 := (hz _ h1).1 (h 1 (by decide))
      have e2 := (hz _ h2).1 (h 2 (by decide))
      have e3 := (hz _ h3).1 (h 3 (by decide))
      rw [e0, e1, e2, e3]
    · intro h j hj
      simp only [List.cons.injEq, and_true] at h
      obtain ⟨rfl, rfl, rfl, rfl⟩ := h
      match j, hj with
      | 0, _ => rfl
      | 1, _ => rfl
      | 2, _ => rfl
      | 3, _ => rfl
theorem pageback (k : Nat) (n kind : Int) (A2 : Option Addr) (c2 : Nat) (l2 : List Int) (at_ b0 b1 b2 b3 : Int) (w : World) (hr2 : Kd.C (Kd.int .u8) w A2 l2.length l2) (hc2 : l2.length ≤ c2) (hl2 : l2.length ≤ 140737488351232) (hk : l2.length + 3000 ≤ k)
    (hb : Bytes l2) (hkd : 0 ≤ kind ∧ kind < 256) (ha0 : -9223372036854775808 ≤ at_) (h0 : 0 ≤ b0 ∧ b0 < 256) (h1 : 0 ≤ b1 ∧ b1 < 256) (h2 : 0 ≤ b2 ∧ b2 < 256) (h3 : 0 ≤ b3 ∧ b3 < 256) :
    Calls Try.prog 3 #[.int .i64 n, .int .u8 kind, .slice A2 l2.length c2, .int .i64 at_, .agg #[.int .u8 b0, .int .u8 b1, .int .u8 b2, .int .u8 b3]] w fun e w' => e = .returned (.bool true) ∧ Below w.heap.size w w' := by
  have hPP := pageput_f k n kind l2 (by omega) hkd hb
  have hLv := living k (by omega)
  by_cases herr : n < 0 ∨ n ≥ 65536 ∨ l2.length > 496
  · have hp : ∃ pe : Int, pput n kind l2 = ([], pe) ∧ pe ≠ 0 := by
      unfold pput
      by_cases c1 : n < 0 ∨ n ≥ 65536
      · rw [if_pos c1]
        exact ⟨2, rfl, by decide⟩
      · rw [if_neg c1, if_pos (by omega)]
        exact ⟨3, rfl, by decide⟩
    obtain ⟨pe, hp, hpe⟩ := hp
    rw [hp] at hPP
    exact back_err k n kind A2 c2 l2 at_ b0 b1 b2 b3 pe w hr2 hc2 hPP hpe herr hLv
  · have hpp : pput n kind l2 = ((pput n kind l2).1, 0) := by unfold pput; rw [if_neg (by omega), if_neg (by omega)]
    have hml := mid_len n kind l2 (by omega)
    have hlen : (pput n kind l2).1.length = 512 := by
      have : (pput n kind l2).1 = four (crcs (mid n kind l2)) ++ mid n kind l2 := by unfold pput; rw [if_neg (by omega), if_neg (by omega)]
      rw [this, List.length_append, four_len, hml]
    have hpb : Bytes (pput n kind l2).1 := by
      have : (pput n kind l2).1 = four (crcs (mid n kind l2)) ++ mid n kind l2 := by unfold pput; rw [if_neg (by omega), if_neg (by omega)]
      rw [this]
      exact Bytes.append (four_bytes _) (mid_bytes hkd hb (by omega))
    have hold := pget_pput (n := n) (kind := kind) (l := l2) (by omega) (by omega) hkd hb (by omega)
    obtain ⟨B, hB⟩ : ∃ B, (pput n kind l2).1 = nat8 B := ⟨_, (bytes_nat8 hpb).symm⟩
    have hBl : B.length = 512 := by rw [← nat8_len, ← hB, hlen]
    obtain ⟨x, hx, hx0⟩ := by4_x h0 h1 h2 h3
    have hPG := pageget_f k n (pput n kind l2).1 (by omega) hpb
    rw [hold] at hPG
    rw [hpp] at hPP
    have hz := zeros_none n
    have hPG3 := pageget_f k n (List.replicate 512 0) (by omega) (fun y hy => by rw [List.eq_of_mem_replicate hy]; decide)
    have hSl := same_self k l2 (by omega) (by omega)
    have hSp := same_self k (pput n kind l2).1 (by omega) (by omega)
    have key : ∀ m : Nat, m ≤ 508 → page_Get.f k n (bs (by4 b0 b1 b2 b3) m (pput n kind l2).1 4) = some (pget n (nat8 (chg B m x 4))) ∧ (((pget n (nat8 (chg B m x 4))).2.2 == 0) = decide ([b0, b1, b2, b3] = [0, 0, 0, 0])) := by
      intro m hm
      refine ⟨?_, ?_⟩
      · rw [hB, bs_chg x _ hx m B 4 (by omega)]
        exact pageget_f k n _ (by omega) (nat8_bytes _)
      · have hbu := (page_burst (n := n) (kind := kind) (l := l2) (by omega) (by omega) hkd hb (by omega) B hB m (by omega) x).trans hx0
        by_cases he : (pget n (nat8 (chg B m x 4))).2.2 = 0
        · rw [he, decide_eq_true (hbu.1 he)]
          rfl
        · rw [decide_eq_false (fun q => he (hbu.2 q))]
          exact beq_eq_false_iff_ne.mpr he
    by_cases hat : 0 ≤ at_
    · obtain ⟨m, hm⟩ : ∃ m : Nat, at_ % 509 = (m : Int) := ⟨(at_ % 509).toNat, by omega⟩
      obtain ⟨k1, k2⟩ := key m (by omega)
      exact back_walk k n kind A2 c2 l2 at_ b0 b1 b2 b3 m _ _ _ _ _ _ _ w hr2 hc2 hPP hPG hlen hSl hSp hat hm hLv k1 hPG3 hz k2
    · have hmod : ∃ m : Nat, -(at_ + 1).tmod 509 = (m : Int) ∧ m ≤ 508 := by
        obtain ⟨q, hq⟩ : ∃ q : Nat, at_ + 1 = -(q : Int) := ⟨(-(at_ + 1)).toNat, by omega⟩
        refine ⟨q % 509, ?_, by omega⟩
        rw [hq, Int.neg_tmod, Int.neg_neg, Int.tmod_eq_emod_of_nonneg (by omega)]
        omega
      obtain ⟨m, hm, hm4⟩ := hmod
      obtain ⟨k1, k2⟩ := key m hm4
      exact back_walk_neg k n kind A2 c2 l2 at_ b0 b1 b2 b3 m _ _ _ _ _ _ _ w hr2 hc2 hPP hPG hlen hSl hSp (by omega) ha0 hm hm4 hLv k1 hPG3 hz k2
end Go.Proofs.Ytkecgmoaojklbaa.Pure
