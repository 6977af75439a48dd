/- What the printed functions of frame and of its reference come to: the words of Frame. No condition. -/
import Derived.Test.YtjefgdggjchhbaaFrame
import Derived.Test.YtjefgdggjchhbaaPAllx1
import Derived.Test.YtjefgdggjchhbaaPAllx2
import Derived.Test.YtjefgdggjchhbaaPAllx3
import Derived.Test.YtjefgdggjchhbaaPAllx13
import Derived.Test.YtjefgdggjchhbaaPAllx6
import Derived.Test.YtjefgdggjchhbaaPAllx11
namespace Go.Proofs.Ytjefgdggjchhbaa.Pure
open Go Go.RowKit Go.Proofs.Ytjefgdggjchhbaa.PAll Go.Proofs.Ytjefgdggjchhbaa.Crc Go.Proofs.Ytjefgdggjchhbaa.Leb Go.Proofs.YtjefgdggjchhbaaVW.PrintWords Go.Proofs.YtjefgdggjchhbaaVW.PrintLast

theorem fsize_f (k : Nat) (n : Int) (hk : 10 < k) : frame_Size.f k n = some (fsize n) := by
  unfold frame_Size.f fsize
  by_cases h0 : n < 0
  · rw [if_pos h0, if_pos (Or.inl h0)]
  · rw [if_neg h0]
    by_cases h1 : n > 65536
    · rw [if_pos h1, if_pos (Or.inr h1)]
    · rw [if_neg h1, if_neg (by omega)]
      obtain ⟨m, rfl⟩ := Int.eq_ofNat_of_zero_le (a := n) (by omega)
      have h10 := enc_ten (n := m) (by omega)
      rw [wu64 (by omega) (by omega), len_f k m (by omega) hk, bnd, Int.toNat_natCast, w64 (i := ((enc m).length : Int) + (m : Int)) (by omega) (by omega), w64 (by omega) (by omega)]
theorem frameput_f (k : Nat) (p : List Int) (hp : Bytes p) (hk : 66000 < k) : frame_Put.f k p = some (fput p) := by
  unfold frame_Put.f fput
  by_cases h : 65536 < p.length
  · rw [if_pos (by omega), if_pos h]
  · have h10 := enc_ten (n := p.length) (by omega)
    have hl : (enc p.length ++ p).length = (enc p.length).length + p.length := List.length_append
    have hs : fsize (p.length : Int) = ((enc p.length).length : Int) + (p.length : Int) + 4 := by unfold fsize; rw [if_neg (by omega), Int.toNat_natCast]
    have e0 : (List.replicate 0 (0 : Int) ++ (enc p.length ++ p)) = enc p.length ++ p := rfl
    have hb : Bytes (enc p.length ++ p) := (bytes_enc _).append hp
    rw [if_neg (by omega), if_neg h, fsize_f k _ (by omega), bnd, hs, if_pos (by omega), if_pos (by omega), bnd, putrow_f k p (by omega) (by omega), bnd, if_pos (by rw [List.length_replicate]; omega), bnd, e0, crc_f k _ hb (by omega) (by omega), bnd, bnd, if_pos (by simp only [List.length_cons, List.length_nil]; omega)]
    rfl
theorem reffour_f (t : Int) : stookref02_Four.f t = some (four t) := rfl
theorem refframeput_f (k : Nat) (p : List Int) (hp : Bytes p) (hk : 66000 < k) : stookref03_Put.f k p = some (fput p) := by
  unfold stookref03_Put.f fput
  by_cases h : 65536 < p.length
  · rw [if_pos (by omega), if_pos h]
  · have h10 := enc_ten (n := p.length) (by omega)
    have hl : (enc p.length ++ p).length = (enc p.length).length + p.length := List.length_append
    have hb : Bytes (enc p.length ++ p) := (bytes_enc _).append hp
    rw [if_neg (by omega), if_neg h, refputrow_f k p (by omega) (by omega), bnd, refcrc_f k _ hb (by omega) (by omega), bnd, reffour_f, bnd, if_pos (by rw [four_len]; omega)]
theorem copied (p : List Int) : p.take (min p.length (List.replicate p.length (0 : Int)).length) ++ (List.replicate p.length (0 : Int)).drop (min p.length (List.replicate p.length (0 : Int)).length) = p := by
  rw [List.length_replicate, Nat.min_self, List.take_length, List.drop_eq_nil_of_le (by simp), List.append_nil]
theorem fget_parts {b : List Int} (hb : Bytes b) {q : Nat} (hq : q + 4 ≤ b.length) : ∃ s0 s1 s2 s3 : Int, (b.drop q).take 4 = [s0, s1, s2, s3] ∧ (0 ≤ s0 ∧ s0 < 256) ∧ (0 ≤ s1 ∧ s1 < 256) ∧ (0 ≤ s2 ∧ s2 < 256) ∧ (0 ≤ s3 ∧ s3 < 256) := by
  have hl : ((b.drop q).take 4).length = 4 := by rw [List.length_take, List.length_drop]; omega
  have hbb : Bytes ((b.drop q).take 4) := (hb.drop q).take 4
  match hx : (b.drop q).take 4, hl with
  | [s0, s1, s2, s3], _ =>
    rw [hx] at hbb
    exact ⟨s0, s1, s2, s3, rfl, hbb s0 (by simp), hbb s1 (by simp), hbb s2 (by simp), hbb s3 (by simp)⟩
theorem frameget_f (k : Nat) (b : List Int) (a : Int) (hb : Bytes b) (hl : b.length ≤ 140737488355327) (hk : 70000 < k) : frame_Get.f k b a = some (fget b a) := by
  unfold frame_Get.f fget
  rw [getrow_f k b a 65536 hb hl (by decide) (by omega), bnd]
  rcases rows_cases b a 65536 hb (by decide) with ⟨e, he, h⟩ | ⟨p, m, n, rfl, h, hp, hrow, hn, hmn, _⟩
  · rw [h, if_neg he, if_neg he]
  · have h10 := enc_ten (n := p.length) (by omega)
    rw [h, if_pos rfl, if_pos rfl]
    simp only []
    rw [w64 (i := (b.length : Int) - ((m + n : Nat) : Int)) (by omega) (by omega)]
    by_cases h4 : (b.length : Int) - ((m + n : Nat) : Int) < 4
    · rw [if_pos h4, if_pos h4]
    · rw [if_neg h4, if_neg h4, w64 (i := ((m + n : Nat) : Int) + 4) (by omega) (by omega), if_pos (by omega), if_pos (by omega), if_pos (by omega), if_pos (by omega), if_pos (by omega), if_pos (by omega), Int.toNat_natCast, Int.toNat_natCast,
        show (((m + n : Nat) : Int) + 4).toNat = m + n + 4 by omega, List.drop_take, List.drop_take, show m + n + 4 - (m + n) = 4 by omega, show m + n - m = n by omega]
      obtain ⟨s0, s1, s2, s3, hs, r0, r1, r2, r3⟩ := fget_parts hb (q := m + n) (by omega)
      have hc := crcs_range ((b.drop m).take n)
      rw [crc_f k _ ((hb.drop m).take n) (by rw [List.length_take]; omega) (by rw [List.length_take]; omega), bnd, hs, if_pos (by simp), if_pos (by simp), if_pos (by simp), if_pos (by simp),
        show rd [s0, s1, s2, s3] 0 = s0 from rfl, show rd [s0, s1, s2, s3] 1 = s1 from rfl, show rd [s0, s1, s2, s3] 2 = s2 from rfl, show rd [s0, s1, s2, s3] 3 = s3 from rfl, word_or r0 r1 r2 r3]
      by_cases ht : [s0, s1, s2, s3] = four (crcs ((b.drop m).take n))
      · rw [if_pos ((four_eq r0 r1 r2 r3 hc).2 ht), if_pos ht, if_pos (by omega), if_pos (by omega), bnd, Int.toNat_natCast, copied]
      · rw [if_neg (fun q => ht ((four_eq r0 r1 r2 r3 hc).1 q)), if_neg ht]
theorem refget_l (k : Nat) (b p : List Int) (q : Nat) (hq : q + 4 ≤ b.length) (hl : b.length ≤ 140737488355327) (t : List Int) (ht : t.length = 4) (hk : 5 < k) (d : Nat) : ∀ i : Nat, i + d = 4 → d < k → ∀ j, j = k - i →
    stookref03_Get.l0 j b p (q : Int) t (i : Int) = some (if ((b.drop q).take 4).drop i = t.drop i then (p, (q : Int) + 4, 0) else ([], 0, 6)) := by
  have hlen : ((b.drop q).take 4).length = 4 := by rw [List.length_take, List.length_drop]; omega
  induction d with
  | zero =>
    intro i hi _ j hj
    obtain ⟨j, rfl⟩ : ∃ m, j = m + 1 := ⟨j - 1, by omega⟩
    simp only [stookref03_Get.l0]
    rw [if_neg (by omega), List.drop_eq_nil_of_le (by omega), List.drop_eq_nil_of_le (by omega), if_pos rfl, w64 (by omega) (by omega)]
  | succ d ih =>
    intro i hi hd j hj
    obtain ⟨j, rfl⟩ : ∃ m, j = m + 1 := ⟨j - 1, by omega⟩
    simp only [stookref03_Get.l0]
    have e1 : rd b (((q + i : Nat) : Int)) = ((b.drop q).take 4)[i]'(by omega) := by
      unfold rd
      rw [Int.toNat_natCast, List.getD_eq_getElem?_getD, List.getElem?_eq_getElem (by omega), List.getElem_take, List.getElem_drop]; rfl
    have e2 : rd t (i : Int) = t[i]'(by omega) := by unfold rd; rw [Int.toNat_natCast, List.getD_eq_getElem?_getD, List.getElem?_eq_getElem (by omega)]; rfl
    rw [if_pos (by omega), w64 (i := (q : Int) + i) (by omega) (by omega), if_pos (by omega), if_pos (by omega), if_pos (by omega), if_pos (by omega), show (q : Int) + i = ((q + i : Nat) : Int) by omega, e1, e2, w64 (by omega) (by omega), show (i : Int) + 1 = ((i + 1 : Nat) : Int) by omega,
      ih (i + 1) (by omega) (by omega) j (by omega), List.drop_eq_getElem_cons (show i < ((b.drop q).take 4).length by omega), List.drop_eq_getElem_cons (show i < t.length by omega)]
    by_cases hx : ((b.drop q).take 4)[i]'(by omega) = t[i]'(by omega)
    · rw [if_pos hx, hx]
      refine congrArg some ?_
      by_cases hy : ((b.drop q).take 4).drop (i + 1) = t.drop (i + 1)
      · rw [if_pos hy, if_pos (by rw [hy])]
      · rw [if_neg hy, if_neg (fun z => hy (List.cons.inj z).2)]
    · rw [if_neg hx, if_neg (fun z => hx (List.cons.inj z).1)]
theorem refframeget_f (k : Nat) (b : List Int) (a : Int) (hb : Bytes b) (hl : b.length ≤ 140737488355327) (hk : 70000 < k) : stookref03_Get.f k b a = some (fget b a) := by
  unfold stookref03_Get.f fget
  rw [refgetrow_f k b a 65536 hb hl (by decide) (by omega), bnd]
  rcases rows_cases b a 65536 hb (by decide) with ⟨e, he, h⟩ | ⟨p, m, n, rfl, h, hp, hrow, hn, hmn, _⟩
  · rw [h, if_neg he, if_neg he]
  · have h10 := enc_ten (n := p.length) (by omega)
    rw [h, if_pos rfl, if_pos rfl]
    simp only []
    rw [w64 (i := (b.length : Int) - ((m + n : Nat) : Int)) (by omega) (by omega)]
    by_cases h4 : (b.length : Int) - ((m + n : Nat) : Int) < 4
    · rw [if_pos h4, if_pos h4]
    · rw [if_neg h4, if_neg h4, if_pos (by omega), if_pos (by omega), if_pos (by omega), Int.toNat_natCast, Int.toNat_natCast, List.drop_take, show m + n - m = n by omega,
        refcrc_f k _ ((hb.drop m).take n) (by rw [List.length_take]; omega) (by rw [List.length_take]; omega), bnd, reffour_f, bnd]
      have e := refget_l k b p (m + n) (by omega) hl (four (crcs ((b.drop m).take n))) rfl (by omega) 4 0 (by omega) (by omega) k (by omega)
      rw [List.drop_zero, List.drop_zero] at e
      exact e
end Go.Proofs.Ytjefgdggjchhbaa.Pure
