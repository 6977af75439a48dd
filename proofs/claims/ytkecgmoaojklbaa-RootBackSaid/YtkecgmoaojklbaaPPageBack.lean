/- A page that is put is got; noughts are no page. -/
import Derived.Test.YtkecgmoaojklbaaPPage
set_option linter.unusedVariables false
set_option linter.unusedSimpArgs false
namespace Go.Proofs.Ytkecgmoaojklbaa.Pure
open Go Go.RowKit Go.Proofs.Ytkecgmoaojklbaa.PAll Go.Proofs.Ytkecgmoaojklbaa.Crc Go.Proofs.Ytkecgmoaojklbaa.Leb Go.Proofs.YtkecgmoaojklbaaVW.PrintWords Go.Proofs.YtkecgmoaojklbaaVW.PrintLast
set_option maxRecDepth 100000
theorem pget_pput {n kind : Int} {l : List Int} (h0 : 0 ≤ n) (h1 : n < 65536) (hk : 0 ≤ kind ∧ kind < 256) (hb : Bytes l) (hl : l.length ≤ 496) : pget n (pput n kind l).1 = (kind, l, 0) := by
  have hpp : pput n kind l = (four (crcs (mid n kind l)) ++ mid n kind l, 0) := by unfold pput; rw [if_neg (by omega), if_neg (by omega)]
  have hml := mid_len n kind l hl
  obtain ⟨c, hc⟩ : ∃ c, c = crcs (mid n kind l) := ⟨_, rfl⟩
  rw [← hc] at hpp
  obtain ⟨pb, hpb⟩ : ∃ pb, pb = four c ++ mid n kind l := ⟨_, rfl⟩
  rw [← hpb] at hpp
  have hlen : pb.length = 512 := by rw [hpb, List.length_append, four_len, hml]
  obtain ⟨R, hR⟩ : ∃ R, R = l ++ List.replicate (500 - l.length) (0 : Int) := ⟨_, rfl⟩
  have hform : pb = c % 256 :: c / 256 % 256 :: c / 65536 % 256 :: c / 16777216 % 256 :: n % 256 :: n / 256 % 256 :: n / 65536 % 256 :: n / 16777216 % 256 :: kind :: 0 :: (l.length : Int) % 256 :: (l.length : Int) / 256 :: R := by rw [hpb]; unfold mid; rw [← hR]; rfl
  have h8 : rd pb 8 = kind := by rw [hform]; rfl
  have h10 : rd pb 10 = (l.length : Int) % 256 := by rw [hform]; rfl
  have h11 : rd pb 11 = (l.length : Int) / 256 := by rw [hform]; rfl
  have ht : pb.take 4 = four c := by rw [hpb]; exact List.take_left' (four_len c)
  have hd : pb.drop 4 = mid n kind l := by rw [hpb]; exact List.drop_left' (four_len c)
  have hs : (l.length : Int) % 256 + (l.length : Int) / 256 * 256 = (l.length : Int) := by omega
  have hbody : (pb.drop 12).take l.length = l := by
    have e : pb.drop 12 = R := by rw [hform]; rfl
    rw [e, hR]
    exact List.take_left' rfl
  rw [hpp]
  show pget n pb = _
  unfold pget
  rw [if_neg (by omega), if_neg (by omega), if_neg (by omega), if_pos (by rw [ht, hd, ← hc]), h10, h11, h8, hs, Int.toNat_natCast, if_neg (by omega), hbody, hpp, if_pos rfl]
/-- What is read is in its one form: the bytes are those that are put of what they tell. -/
theorem pget_form {n : Int} {b : List Int} (h : (pget n b).2.2 = 0) : 0 ≤ n ∧ n < 65536 ∧ b.length = 512 ∧ ∃ kind l, l.length ≤ 496 ∧ b = (pput n kind l).1 ∧ b.take 4 = four (crcs (b.drop 4)) := by
  unfold pget at h
  by_cases c1 : n < 0 ∨ n ≥ 65536
  · rw [if_pos c1] at h
    exact absurd h (by decide)
  · rw [if_neg c1] at h
    by_cases c2 : b.length < 512
    · rw [if_pos c2] at h
      exact absurd h (by decide)
    · rw [if_neg c2] at h
      by_cases c3 : b.length > 512
      · rw [if_pos c3] at h
        exact absurd h (by decide)
      · rw [if_neg c3] at h
        by_cases c4 : b.take 4 = four (crcs (b.drop 4))
        · rw [if_pos c4] at h
          by_cases c5 : rd b 10 + rd b 11 * 256 > 496
          · rw [if_pos c5] at h
            exact absurd h (by decide)
          · rw [if_neg c5] at h
            by_cases c6 : (pput n (rd b 8) ((b.drop 12).take (rd b 10 + rd b 11 * 256).toNat)).1 = b
            · exact ⟨by omega, by omega, by omega, _, _, by rw [List.length_take]; omega, c6.symm, c4⟩
            · rw [if_neg c6] at h
              exact absurd h (by decide)
        · rw [if_neg c4] at h
          exact absurd h (by decide)
theorem crc_zeros : crcs (List.replicate 508 0) ≠ 0 := by
  have h : (Crc.sum (List.replicate 508 (BitVec.ofNat 8 0)) == BitVec.ofNat 32 0) = false := by decide +kernel
  unfold crcs
  rw [List.map_replicate]
  intro e
  have e2 : Crc.sum (List.replicate 508 (BitVec.ofInt 8 0)) = BitVec.ofNat 32 0 := by
    apply BitVec.eq_of_toNat_eq
    rw [show (BitVec.ofNat 32 0).toNat = 0 from rfl]
    omega
  have e3 : (BitVec.ofInt 8 0) = BitVec.ofNat 8 0 := rfl
  rw [e3] at e2
  rw [e2] at h
  exact absurd h (by decide)
theorem zeros_none (n : Int) : (pget n (List.replicate 512 0)).2.2 ≠ 0 := by
  intro h
  obtain ⟨_, _, _, _, _, _, _, h4⟩ := pget_form h
  have ht : (List.replicate 512 (0 : Int)).take 4 = [0, 0, 0, 0] := rfl
  have hd : (List.replicate 512 (0 : Int)).drop 4 = List.replicate 508 0 := by rw [List.drop_replicate]
  rw [ht, hd] at h4
  obtain ⟨c, hc⟩ : ∃ c, c = crcs (List.replicate 508 0) := ⟨_, rfl⟩
  have hr := crcs_range (List.replicate 508 0)
  have hz := crc_zeros
  rw [← hc] at h4 hr hz
  have h5 : [(0 : Int), 0, 0, 0] = [c % 256, c / 256 % 256, c / 65536 % 256, c / 16777216 % 256] := h4
  simp only [List.cons.injEq, and_true] at h5
  omega
theorem chg_get (b : List (BitVec 8)) (n : Nat) (x : Nat → BitVec 8) (i j : Nat) : (chg b n x i)[j]? = b[j]?.map (fun v => if n ≤ j ∧ j < n + i then v ^^^ x (j - n) else v) := by
  unfold chg
  rw [List.getElem?_mapIdx]
theorem chg_keep (b : List (BitVec 8)) (n : Nat) (x : Nat → BitVec 8) (i j : Nat) (h : ¬ (n ≤ j ∧ j < n + i)) : (chg b n x i)[j]? = b[j]? := by
  rw [chg_get]
  cases b[j]? with
  | none => rfl
  | some v => rw [Option.map_some, if_neg h]
theorem chg_drop4 (b : List (BitVec 8)) (n : Nat) (x : Nat → BitVec 8) (i : Nat) (h : 4 ≤ n) : (chg b n x i).drop 4 = chg (b.drop 4) (n - 4) x i := by
  apply List.ext_getElem?
  intro j
  rw [List.getElem?_drop, chg_get, chg_get, List.getElem?_drop]
  cases b[4 + j]? with
  | none => rfl
  | some v =>
    rw [Option.map_some, Option.map_some]
    by_cases hc : n ≤ 4 + j ∧ 4 + j < n + i
    · rw [if_pos hc, if_pos (by omega), show 4 + j - n = j - (n - 4) by omega]
    · rw [if_neg hc, if_neg (by omega)]
theorem chg_same {b : List (BitVec 8)} {n : Nat} {x : Nat → BitVec 8} {i : Nat} (hn : n + i ≤ b.length) (h : chg b n x i = b) : ∀ j, j < i → x j = BitVec.ofNat 8 0 := by
  intro j hj
  have h1 := chg_get b n x i (n + j)
  rw [h, List.getElem?_eq_getElem (show n + j < b.length by omega), Option.map_some, if_pos (by omega), Nat.add_sub_cancel_left] at h1
  have h2 := Option.some.inj h1
  have h3 : b[n + j] ^^^ (b[n + j] ^^^ x j) = b[n + j] ^^^ b[n + j] := by rw [← h2]
  rw [← BitVec.xor_assoc, BitVec.xor_self, BitVec.zero_xor] at h3
  exact h3
theorem four_crcs {l m : List Int} (h : four (crcs l) = four (crcs m)) : crcs l = crcs m := by
  have h1 := crcs_range l
  have h2 := crcs_range m
  generalize crcs l = p at h h1
  generalize crcs m = q at h h2
  have h3 : [p % 256, p / 256 % 256, p / 65536 % 256, p / 16777216 % 256] = [q % 256, q / 256 % 256, q / 65536 % 256, q / 16777216 % 256] := h
  simp only [List.cons.injEq, and_true] at h3
  omega
theorem head_of {n kind : Int} {l : List Int} {kind' : Int} {l' : List Int} {b c : List Int} (hb : b = (pput n kind l).1) (hc : c = (pput n kind' l').1) (h0 : 0 ≤ n) (h1 : n < 65536) (hl : l.length ≤ 496) (hl' : l'.length ≤ 496) : (c.drop 4).take 4 = (b.drop 4).take 4 := by
  have e1 : (pput n kind l).1 = four (crcs (mid n kind l)) ++ mid n kind l := by unfold pput; rw [if_neg (by omega), if_neg (by omega)]
  have e2 : (pput n kind' l').1 = four (crcs (mid n kind' l')) ++ mid n kind' l' := by unfold pput; rw [if_neg (by omega), if_neg (by omega)]
  rw [hb, hc, e1, e2, List.drop_left' (four_len _), List.drop_left' (four_len _)]
  rfl
/-- A page of which up to four bytes that stand side by side are changed is none. -/
theorem page_burst {n kind : Int} {l : List Int} (h0 : 0 ≤ n) (h1 : n < 65536) (hk : 0 ≤ kind ∧ kind < 256) (hb : Bytes l) (hl : l.length ≤ 496) (B : List (BitVec 8)) (hB : (pput n kind l).1 = nat8 B) (at_ : Nat) (hat : at_ + 4 ≤ 512) (x : Nat → BitVec 8) :
    (pget n (nat8 (chg B at_ x 4))).2.2 = 0 ↔ ∀ j, j < 4 → x j = BitVec.ofNat 8 0 := by
  have hpp : (pput n kind l).1 = four (crcs (mid n kind l)) ++ mid n kind l := by unfold pput; rw [if_neg (by omega), if_neg (by omega)]
  have hlen : B.length = 512 := by
    have := congrArg List.length hB
    rw [nat8_len, hpp, List.length_append, four_len, mid_len _ _ _ hl] at this
    omega
  have hold := pget_pput h0 h1 hk hb hl
  rw [hB] at hold
  obtain ⟨_, _, _, _, _, _, _, ho4⟩ := pget_form (n := n) (b := nat8 B) (by rw [hold])
  constructor
  · intro h
    obtain ⟨_, _, _, kind', l', hl', hf, h4⟩ := pget_form h
    by_cases hc : 4 ≤ at_
    · have ht : (nat8 (chg B at_ x 4)).take 4 = (nat8 B).take 4 := by
        rw [nat8_take, nat8_take]
        congr 1
        apply List.ext_getElem?
        intro j
        rw [List.getElem?_take, List.getElem?_take]
        by_cases hj : j < 4
        · rw [if_pos hj, if_pos hj, chg_keep _ _ _ _ _ (by omega)]
        · rw [if_neg hj, if_neg hj]
      rw [ht, ho4] at h4
      have h5 := four_crcs h4
      rw [nat8_drop, nat8_drop, crcs_nat8, crcs_nat8, chg_drop4 B at_ x 4 hc] at h5
      have h6 : Crc.sum (B.drop 4) = Crc.sum (chg (B.drop 4) (at_ - 4) x 4) := BitVec.eq_of_toNat_eq (by omega)
      exact (chg_sum (BitVec.ofNat 32 0) (B.drop 4) (at_ - 4) x 4 (by rw [List.length_drop]; omega) (Nat.le_refl _)).1 h6
    · have hh := head_of hB.symm hf h0 h1 hl hl'
      have hd : (nat8 (chg B at_ x 4)).drop 4 = (nat8 B).drop 4 := by
        rw [nat8_drop, nat8_drop, nat8_take, nat8_take] at hh
        have hh2 := congrArg (List.map (BitVec.ofInt 8)) hh
        rw [bits_nat8, bits_nat8] at hh2
        rw [nat8_drop, nat8_drop]
        congr 1
        apply List.ext_getElem?
        intro j
        by_cases hj : j < 4
        · have := congrArg (fun z => z[j]?) hh2
          rw [List.getElem?_take, List.getElem?_take, if_pos hj, if_pos hj] at this
          exact this
        · rw [List.getElem?_drop, List.getElem?_drop, chg_keep _ _ _ _ _ (by omega)]
      rw [hd, ← ho4] at h4
      have he : nat8 (chg B at_ x 4) = nat8 B := by
        rw [← List.take_append_drop 4 (nat8 (chg B at_ x 4)), h4, hd, List.take_append_drop]
      have he2 := congrArg (List.map (BitVec.ofInt 8)) he
      rw [bits_nat8, bits_nat8] at he2
      exact chg_same (by omega) he2
  · intro h
    have he : chg B at_ x 4 = B := by
      apply List.ext_getElem?
      intro j
      rw [chg_get]
      cases B[j]? with
      | none => rfl
      | some v =>
        rw [Option.map_some]
        by_cases hc : at_ ≤ j ∧ j < at_ + 4
        · rw [if_pos hc, h _ (by omega)]
          congr 1
          exact BitVec.xor_zero
        · rw [if_neg hc]
    rw [he, hold]
end Go.Proofs.Ytkecgmoaojklbaa.Pure
