/- A frame in which up to four bytes that stand side by side, behind its first number, are changed is refused by its sum: the printed statement of FrameBurst. No condition. -/
import Derived.Test.YtdcggaaaknafmaaPFrame
import Derived.Test.YtdcggaaaknafmaaPAllx16
namespace Go.Proofs.Ytdcggaaaknafmaa.Pure
open Go Go.RowKit Go.Proofs.Ytdcggaaaknafmaa.PAll Go.Proofs.Ytdcggaaaknafmaa.Crc Go.Proofs.Ytdcggaaaknafmaa.Leb Go.Proofs.YtdcggaaaknafmaaVW.PrintWords Go.Proofs.YtdcggaaaknafmaaVW.PrintLast
theorem xor_or (c : BitVec 8) (x : BitVec 32) : byte c ^^^ x <<< 8 = byte c ||| x <<< 8 := by
  apply BitVec.eq_of_getLsbD_eq
  intro i hi
  rw [BitVec.getLsbD_xor, BitVec.getLsbD_or, BitVec.getLsbD_shiftLeft]
  by_cases h : i < 8
  · simp [h]
  · have : (byte c).getLsbD i = false := by
      unfold byte
      rw [BitVec.getLsbD_setWidth, BitVec.getLsbD_of_ge _ _ (by omega)]; simp
    rw [this]; simp
theorem xor_nat (c : BitVec 8) (x : BitVec 32) (h : x.toNat < 16777216) : (byte c ^^^ x <<< 8).toNat = c.toNat + x.toNat * 256 := by
  have hc := c.isLt
  rw [xor_or, BitVec.toNat_or, shl8_nat x h, byte_nat, Nat.or_comm, Nat.mul_comm, show (256 : Nat) = 2 ^ 8 from rfl, ← Nat.two_pow_add_eq_or_of_lt hc]
  omega
theorem word4_nat (a b c d : BitVec 8) : (word4 a b c d).toNat = a.toNat + b.toNat * 256 + c.toNat * 65536 + d.toNat * 16777216 := by
  have ha := a.isLt
  have hb := b.isLt
  have hc := c.isLt
  have hd := d.isLt
  have e3 := xor_nat c (byte d) (by rw [byte_nat]; omega)
  rw [byte_nat] at e3
  have e2 := xor_nat b (byte c ^^^ byte d <<< 8) (by omega)
  have e1 := xor_nat a (byte b ^^^ (byte c ^^^ byte d <<< 8) <<< 8) (by omega)
  unfold word4
  omega
theorem more_word (r : BitVec 32) (a b c d : BitVec 8) : more r [a, b, c, d] = steps 32 (r ^^^ word4 a b c d) := by
  have h := more_xor [(BitVec.ofNat 8 0), (BitVec.ofNat 8 0), (BitVec.ofNat 8 0), (BitVec.ofNat 8 0)] [a, b, c, d] r (BitVec.ofNat 32 0) rfl
  have e : more r [(BitVec.ofNat 8 0), (BitVec.ofNat 8 0), (BitVec.ofNat 8 0), (BitVec.ofNat 8 0)] = steps 32 r := by
    have z : ∀ q : BitVec 32, take q (BitVec.ofNat 8 0) = steps 8 q := fun q => by unfold take; rw [show byte (BitVec.ofNat 8 0) = (BitVec.ofNat 32 0) from rfl, BitVec.xor_zero]
    simp only [more, z]
    show _ = steps (8 + (8 + (8 + 8))) r
    rw [steps_add, steps_add, steps_add]
  rw [BitVec.xor_zero, e, more4, ← steps_xor] at h
  rw [← h]
  simp only [List.zipWith_cons_cons, List.zipWith_nil_left, BitVec.zero_xor]
/-- Bytes with four behind them are whole where their sum is the one that all whole ones have. -/
theorem whole_iff (m : List (BitVec 8)) (a b c d : BitVec 8) : nat8 [a, b, c, d] = four ((Crc.sum m).toNat : Int) ↔ Crc.sum (m ++ [a, b, c, d]) = ~~~ steps 32 (BitVec.allOnes 32) := by
  have ha := a.isLt
  have hb := b.isLt
  have hc := c.isLt
  have hd := d.isLt
  have hs := (Crc.sum m).isLt
  have h1 : nat8 [a, b, c, d] = four ((Crc.sum m).toNat : Int) ↔ word4 a b c d = Crc.sum m := by
    rw [← inj32, word4_nat]
    have := four_eq (a := (a.toNat : Int)) (b := (b.toNat : Int)) (c := (c.toNat : Int)) (d := (d.toNat : Int)) (t := ((Crc.sum m).toNat : Int)) ⟨by omega, by omega⟩ ⟨by omega, by omega⟩ ⟨by omega, by omega⟩ ⟨by omega, by omega⟩ ⟨by omega, by omega⟩
    show [(a.toNat : Int), (b.toNat : Int), (c.toNat : Int), (d.toNat : Int)] = _ ↔ _
    rw [← this]
    omega
  rw [h1]
  unfold Crc.sum sumMore
  rw [more_append, more_word, BitVec.not_inj, steps_inj]
  generalize more (~~~ (BitVec.ofNat 32 0)) m = r
  generalize word4 a b c d = w
  constructor
  · rintro rfl
    apply BitVec.eq_of_getLsbD_eq
    intro i hi
    simp only [BitVec.getLsbD_xor, BitVec.getLsbD_not, BitVec.getLsbD_allOnes, hi, decide_true, Bool.true_and]
    cases r.getLsbD i <;> rfl
  · intro h
    apply BitVec.eq_of_getLsbD_eq
    intro i hi
    have e := congrArg (fun z : BitVec 32 => z.getLsbD i) h
    simp only [BitVec.getLsbD_xor, BitVec.getLsbD_allOnes, hi, decide_true] at e
    simp only [BitVec.getLsbD_not, hi, decide_true, Bool.true_and]
    cases h1 : r.getLsbD i <;> cases h2 : w.getLsbD i <;> simp_all
theorem chg_same (b : List (BitVec 8)) (n : Nat) (x : Nat → BitVec 8) (i : Nat) (h : ∀ j, j < i → x j = (BitVec.ofNat 8 0)) : chg b n x i = b := by
  apply List.ext_getElem (chg_len _ _ _ _)
  intro j h1 h2
  simp only [chg, List.getElem_mapIdx]
  by_cases hj : n ≤ j ∧ j < n + i
  · rw [if_pos hj, h (j - n) (by omega), BitVec.xor_zero]
  · rw [if_neg hj]
theorem chg_take (b : List (BitVec 8)) (n : Nat) (x : Nat → BitVec 8) (i m : Nat) (h : m ≤ n) : (chg b n x i).take m = b.take m := by
  apply List.ext_getElem (by simp [chg])
  intro j h1 h2
  have hj : j < m := by rw [List.length_take] at h1; omega
  rw [List.getElem_take, List.getElem_take]
  simp only [chg, List.getElem_mapIdx]
  rw [if_neg (by omega)]
/-- What a changed frame reads as. -/
theorem burst_get (p : List Int) (B : List (BitVec 8)) (hB : fput p = (nat8 B, 0)) (n : Nat) (hn : (enc p.length).length ≤ n) (x : Nat → BitVec 8) (i : Nat) (hi : i ≤ 4) (hni : n + i ≤ B.length) (hx : ¬ ∀ j, j < i → x j = (BitVec.ofNat 8 0)) :
    fget (nat8 (chg B n x i)) 0 = ([], 0, 6) := by
  unfold fput at hB
  by_cases hl : 65536 < p.length
  · rw [if_pos hl] at hB; exact absurd (show (3 : Int) = 0 from congrArg Prod.snd hB) (by decide)
  rw [if_neg hl] at hB
  simp only [Prod.mk.injEq, and_true] at hB
  have hBl : B.length = (enc p.length).length + p.length + 4 := by
    have := congrArg List.length hB
    simp only [List.length_append, four_len, nat8_len] at this
    omega
  obtain ⟨e, he⟩ : ∃ e, e = (enc p.length).length := ⟨_, rfl⟩
  rw [← he] at hBl hn
  -- the frame, in its parts
  have split : ∀ C : List (BitVec 8), C.length = B.length → ∃ a b c d, C.drop (e + p.length) = [a, b, c, d] := by
    intro C hC
    have h4 : (C.drop (e + p.length)).length = 4 := by rw [List.length_drop]; omega
    match hq : C.drop (e + p.length), h4 with
    | [a, b, c, d], _ => exact ⟨a, b, c, d, rfl⟩
  have hBt : nat8 (B.take (e + p.length)) = enc p.length ++ p := by
    rw [← nat8_take, ← hB]
    exact List.take_left' (by rw [List.length_append, ← he])
  have hBd : nat8 (B.drop (e + p.length)) = four (crcs (enc p.length ++ p)) := by
    rw [← nat8_drop, ← hB]
    exact List.drop_left' (by rw [List.length_append, ← he])
  have hBs : Crc.sum B = ~~~ steps 32 (BitVec.allOnes 32) := by
    obtain ⟨a, b, c, d, h⟩ := split B rfl
    rw [h, ← hBt, crcs_nat8] at hBd
    have := (whole_iff _ a b c d).1 hBd
    rw [← h, List.take_append_drop] at this
    exact this
  obtain ⟨C, hC⟩ : ∃ C, C = chg B n x i := ⟨_, rfl⟩
  have hCl : C.length = B.length := by rw [hC, chg_len]
  have hne : ¬ Crc.sum C = ~~~ steps 32 (BitVec.allOnes 32) := by
    intro h
    rw [← hBs] at h
    exact hx ((chg_sum (BitVec.ofNat 32 0) B n x i hni hi).1 (by rw [← hC]; exact h.symm))
  rw [← hC]
  have hCe : nat8 (C.take e) = enc p.length := by
    rw [hC, chg_take B n x i e hn]
    have h1 : (B.take (e + p.length)).take e = B.take e := by rw [List.take_take, Nat.min_eq_left (by omega)]
    rw [← h1, ← nat8_take, hBt, List.take_left' he.symm]
  obtain ⟨q, hq⟩ : ∃ q, q = nat8 ((C.drop e).take p.length) := ⟨_, rfl⟩
  have hql : q.length = p.length := by rw [hq, nat8_len, List.length_take, List.length_drop]; omega
  obtain ⟨a, b, c, d, h4⟩ := split C hCl
  have hCC : nat8 C = [] ++ (enc q.length ++ q) ++ nat8 [a, b, c, d] := by
    rw [hql, ← hCe, hq, List.nil_append, ← nat8_append, ← nat8_append, ← h4]
    congr 1
    rw [← List.take_add, List.take_append_drop]
  have hr := rows_enc [] q (nat8 [a, b, c, d]) 65536 (by omega) (by decide)
  have hrow : enc q.length ++ q = nat8 (C.take (e + p.length)) := by
    rw [hql, ← hCe, hq, ← nat8_append, ← List.take_add]
  unfold fget
  rw [show ((([] : List Int).length : Nat) : Int) = 0 from rfl] at hr
  rw [hCC, hr, if_pos rfl]
  have hlen : ([] ++ (enc q.length ++ q)).length = ([] : List Int).length + (enc q.length ++ q).length := List.length_append
  simp only [Int.toNat_natCast, Int.toNat_zero, List.drop_zero]
  rw [if_neg (by rw [List.length_append, hlen, nat8_len]; simp only [List.length_cons, List.length_nil]; omega), List.drop_left' hlen, List.take_left' hlen, List.nil_append, List.take_of_length_le (by rw [nat8_len]; simp), hrow, crcs_nat8, if_neg]
  intro h
  have h5 := (whole_iff _ a b c d).1 h
  rw [← h4, List.take_append_drop] at h5
  exact hne h5
theorem fburst_end (p : List Int) (B : List (BitVec 8)) (hB : fput p = (nat8 B, 0)) (hpl : p.length ≤ 65536) (n : Nat) (hn : (enc p.length).length ≤ n) (y : BitVec 32) (i : Nat) (hi : i ≤ 4) (hni : n + i ≤ B.length) (hBl : B.length ≤ 70000) (k : Nat) (hk : 80000 < k) (same : Bool) (hs : same = decide (∀ j, j < i → part4 y j = (BitVec.ofNat 8 0))) :
    stooklaw03_FrameBurst.j2 (k + 1) p (nat8 (chg B n (part4 y) i)) same = some true := by
  simp only [stooklaw03_FrameBurst.j2]
  have w := frameworks_f k hk
  rw [frameget_f k _ _ (nat8_bytes _) (by rw [nat8_len, chg_len]; omega) (by omega), bnd]
  by_cases hx : ∀ j, j < i → part4 y j = (BitVec.ofNat 8 0)
  · have hg := fput_get p (nat8 B) [] [] hB
    rw [List.append_nil, List.nil_append, show ((([] : List Int).length : Nat) : Int) = 0 from rfl] at hg
    rw [hs, decide_eq_true hx, if_pos rfl, chg_same _ _ _ _ hx, hg, if_pos rfl, same_self k p (by omega) (by omega), bnd, if_pos rfl, w, bnd]
  · rw [hs, decide_eq_false hx, if_neg (by decide), burst_get p B hB n hn (part4 y) i hi hni hx, if_pos rfl, if_pos (by simp), w, bnd]
theorem fburst_l (p : List Int) (B : List (BitVec 8)) (hB : fput p = (nat8 B, 0)) (hpl : p.length ≤ 65536) (n : Nat) (hn : (enc p.length).length ≤ n) (y : BitVec 32) (hBl : B.length ≤ 70000) (d : Nat) : ∀ (k i : Nat) (same : Bool), i + d = 4 → n + i ≤ B.length → 80001 + d < k → same = decide (∀ j, j < i → part4 y j = (BitVec.ofNat 8 0)) →
    stooklaw03_FrameBurst.l0 (k + 1) p (n : Int) (y.toNat : Int) (nat8 (chg B n (part4 y) i)) same (i : Int) = some true := by
  induction d with
  | zero =>
    intro k i same hi hni hk hs
    obtain ⟨k, rfl⟩ : ∃ m, k = m + 1 := ⟨k - 1, by omega⟩
    simp only [stooklaw03_FrameBurst.l0]
    rw [if_neg (by omega)]
    exact fburst_end p B hB hpl n hn y i (by omega) hni hBl k (by omega) same hs
  | succ d ih =>
    intro k i same hi hni hk hs
    obtain ⟨k, rfl⟩ : ∃ m, k = m + 1 := ⟨k - 1, by omega⟩
    simp only [stooklaw03_FrameBurst.l0]
    rw [if_pos (by omega), w64 (i := (n : Int) + i) (by omega) (by omega), part4_nat y i (by omega), nat8_len, chg_len]
    by_cases h : n + i < B.length
    · rw [if_pos (by omega), wu64 (by rw [w64 (by omega) (by omega)]; omega) (by rw [w64 (by omega) (by omega)]; omega), if_pos (by rw [w64 (by omega) (by omega)]; omega), if_pos (by omega), show (n : Int) + (i : Int) = ((n + i : Nat) : Int) by omega,
        rd_nat8 _ (n + i) (by rw [chg_len]; exact h), chg_at B n (part4 y) i h, xor8, Int.toNat_natCast, nat8_set, chg_succ B n (part4 y) i h, bnd, w64 (i := (i : Int) + 1) (by omega) (by omega), show (i : Int) + 1 = ((i + 1 : Nat) : Int) by omega]
      have hz : (((part4 y i).toNat : Int) == 0) = decide (part4 y i = (BitVec.ofNat 8 0)) := by
        by_cases hq : part4 y i = (BitVec.ofNat 8 0)
        · rw [hq]; rfl
        · have : ¬ ((part4 y i).toNat : Int) = 0 := fun e => hq (BitVec.eq_of_toNat_eq (by rw [show ((BitVec.ofNat 8 0)).toNat = 0 from rfl]; omega))
          rw [decide_eq_false hq]; exact beq_eq_false_iff_ne.2 this
      have hall : ∀ q : Bool, q = decide (∀ j, j < i → part4 y j = (BitVec.ofNat 8 0)) → (if q = true then decide (part4 y i = (BitVec.ofNat 8 0)) else false) = decide (∀ j, j < i + 1 → part4 y j = (BitVec.ofNat 8 0)) := by
        intro q hq
        by_cases ha : ∀ j, j < i → part4 y j = (BitVec.ofNat 8 0)
        · rw [hq, decide_eq_true ha, if_pos rfl, decide_eq_decide]
          constructor
          · intro h0 j hj
            rcases Nat.lt_or_ge j i with hlt | hge
            · exact ha j hlt
            · rw [show j = i by omega]; exact h0
          · intro h0; exact h0 i (by omega)
        · rw [hq, decide_eq_false ha, if_neg (by decide)]
          exact (decide_eq_false (fun h0 => ha (fun j hj => h0 j (by omega)))).symm
      by_cases hq : same = true
      · rw [if_pos hq, hz]
        have e := hall same hs
        rw [if_pos hq] at e
        exact ih k (i + 1) _ (by omega) (by omega) (by omega) e
      · rw [if_neg hq]
        have e := hall same hs
        rw [if_neg hq] at e
        exact ih k (i + 1) _ (by omega) (by omega) (by omega) e
    · rw [if_neg (by omega)]
      exact fburst_end p B hB hpl n hn y i (by omega) hni hBl k (by omega) same hs
theorem FrameBurst : stooklaw03_FrameBurst.Pure := by
  intro p a y _ hl hw ha hy
  have hp := Bytes.of_wf hw
  obtain ⟨y, rfl⟩ := bv32 (u32_wf hy).1 (u32_wf hy).2
  have w := frameworks_f 90000 (by omega)
  refine ⟨90001, ?_⟩
  unfold stooklaw03_FrameBurst.f
  rw [frameput_f _ p hp (by omega), bnd]
  by_cases hpl : 65536 < p.length
  · have h : fput p = ([], 3) := by unfold fput; rw [if_pos hpl]
    have w1 := frameworks_f 90001 (by omega)
    rw [h, if_neg (by decide), if_pos (by omega), w1, bnd]
  · have h : fput p = ((enc p.length ++ p) ++ four (crcs (enc p.length ++ p)), 0) := by unfold fput; rw [if_neg hpl]
    have h10 := enc_ten (n := p.length) (by omega)
    have hbb : Bytes ((enc p.length ++ p) ++ four (crcs (enc p.length ++ p))) := ((bytes_enc _).append hp).append (four_bytes _)
    obtain ⟨B, hB⟩ : ∃ B : List (BitVec 8), (enc p.length ++ p) ++ four (crcs (enc p.length ++ p)) = nat8 B := ⟨_, (bytes_nat8 hbb).symm⟩
    have hBl : B.length = (enc p.length).length + p.length + 4 := by
      have := congrArg List.length hB
      simp only [List.length_append, four_len, nat8_len] at this
      omega
    rw [hB] at h
    rw [h, if_pos rfl, wu64 (by omega) (by omega), refput_f _ p.length (by omega) (by omega), bnd]
    have out : stooklaw03_FrameBurst.j0 90001 p a (y.toNat : Int) (nat8 B) true = some true := by
      simp only [stooklaw03_FrameBurst.j0, if_true]
      rw [w, bnd]
    by_cases h1 : a < ((enc p.length).length : Int)
    · rw [if_pos h1]; exact out
    · rw [if_neg h1]
      by_cases h2 : a ≥ ((nat8 B).length : Int)
      · rw [decide_eq_true h2]; exact out
      · rw [decide_eq_false h2]
        rw [nat8_len] at h2
        obtain ⟨n, rfl⟩ := Int.eq_ofNat_of_zero_le (a := a) (by omega)
        simp only [stooklaw03_FrameBurst.j0, Bool.false_eq_true, if_false]
        have e := fburst_l p B h (by omega) n (by omega) y (by omega) 4 89999 0 true (by omega) (by omega) (by omega) (by simp)
        rw [chg_zero] at e
        exact e
end Go.Proofs.Ytdcggaaaknafmaa.Pure
