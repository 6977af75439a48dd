/- A row has no more than three bytes for each token, and three: the printed statement of PackSmall. No condition. -/
import Derived.Test.YtipfcibdkbneoaaPPack
import Derived.Test.YtipfcibdkbneoaaPAllx36
namespace Go.Proofs.Ytipfcibdkbneoaa.Pure
open Go Go.RowKit Go.Proofs.Ytipfcibdkbneoaa.PAll Go.Proofs.Ytipfcibdkbneoaa.Crc Go.Proofs.Ytipfcibdkbneoaa.Leb Go.Proofs.Ytipfcibdkbneoaa.Pack Go.Proofs.YtipfcibdkbneoaaVW.PrintWords Go.Proofs.YtipfcibdkbneoaaVW.PrintLast
theorem u16_wf {a : Int} (h : (Lit.int .u16 a).wf = true) : 0 ≤ a ∧ a < 65536 := by
  simp only [Lit.wf, Bool.and_eq_true, decide_eq_true_eq] at h
  have h1 : IntKind.u16.min = 0 := by decide
  have h2 : IntKind.u16.max = 65535 := by decide
  omega
theorem body_same (x : Int) (h0 : 0 ≤ x) (h1 : x ≤ 1048575) : ∀ n : Nat, body x (List.replicate n x) = some (List.replicate n 0)
  | 0 => rfl
  | n + 1 => by
    have e : fold (x - x) = 0 := by rw [Int.sub_self]; rfl
    rw [List.replicate_succ, body, if_neg (by omega), body_same x h0 h1 n, e, enc_lt (by decide)]
    rfl
theorem put_same (x : Int) (h0 : 0 ≤ x) (h1 : x ≤ 1048575) (n : Nat) (hn : n < 65536) : put (List.replicate (n + 1) x) = (enc (n + 1) ++ (enc (fold (x - 0)) ++ List.replicate n 0), 0) := by
  unfold put
  rw [List.length_replicate, if_neg (by omega), List.replicate_succ, body, if_neg (by omega), body_same x h0 h1 n]
  rfl
theorem small_end (x : Int) (h0 : 0 ≤ x) (h1 : x ≤ 65535) (n : Nat) (hn : n < 500) (k : Nat) (hk : 200000 < k) (m : Int) (hm : ¬ ((n + 1 : Nat) : Int) ≤ wrap64 (Int.tmod m 500)) :
    stooklaw12_PackSmall.l0 (k + 1) x m (List.replicate (n + 1) x) ((n + 1 : Nat) : Int) = some true := by
  simp only [stooklaw12_PackSmall.l0]
  have w := packworks_f k hk
  have s1 := size_f k (List.replicate (0 + 1) x) hk
  have s2 := size_f k (List.replicate (n + 1) x) hk
  rw [put_same x h0 (by omega) 0 (by omega)] at s1
  rw [put_same x h0 (by omega) n (by omega)] at s2
  have h3 := (fold_three (x := x) (was := 0) (by omega) (by omega) (by omega) (by omega)).1
  have hl1 : (enc (0 + 1)).length = 1 := by rw [enc_lt (by decide)]; rfl
  rw [if_neg hm, List.length_replicate, if_pos (by omega), List.take_replicate, show min 1 (n + 1) = 0 + 1 by omega, s1, bnd, s2, bnd]
  simp only [List.length_append, List.length_replicate, hl1]
  by_cases hg : ((n + 1 : Nat) : Int) > 127
  · have hl2 : (enc (n + 1)).length = 2 := by
      rw [enc_ge (by omega), enc_lt (by omega)]; rfl
    rw [if_pos hg, if_pos True.intro, if_pos True.intro, hl2, w64 (i := ((n + 1 : Nat) : Int) - 1) (by omega) (by omega), w64 (i := ((n + 1 : Nat) : Int) - 1 + 1) (by omega) (by omega), w64 (by omega) (by omega), if_pos (by omega), w, bnd]
  · have hl2 : (enc (n + 1)).length = 1 := by rw [enc_lt (by omega)]; rfl
    rw [if_neg hg, if_pos True.intro, if_pos True.intro, hl2, w64 (i := ((n + 1 : Nat) : Int) - 1) (by omega) (by omega), w64 (by omega) (by omega), if_pos (by omega), w, bnd]
theorem small_l (x : Int) (h0 : 0 ≤ x) (h1 : x ≤ 65535) (m : Nat) (d : Nat) : ∀ (k i : Nat), i + d = m % 500 + 1 → 200000 + d < k →
    stooklaw12_PackSmall.l0 (k + 1) x (m : Int) (List.replicate i x) (i : Int) = some true := by
  have hm : wrap64 (Int.tmod (m : Int) 500) = ((m % 500 : Nat) : Int) := by
    have : Int.tmod (m : Int) 500 = ((m % 500 : Nat) : Int) := rfl
    rw [this, w64 (by omega) (by omega)]
  induction d with
  | zero =>
    intro k i hi hk
    obtain rfl : i = m % 500 + 1 := by omega
    exact small_end x h0 h1 (m % 500) (by omega) k (by omega) m (by rw [hm]; omega)
  | succ d ih =>
    intro k i hi hk
    simp only [stooklaw12_PackSmall.l0]
    obtain ⟨k, rfl⟩ : ∃ q, k = q + 1 := ⟨k - 1, by omega⟩
    rw [hm, if_pos (by omega), if_pos (by rw [List.length_replicate]; omega), w64 (i := x) (by omega) (by omega), w64 (by omega) (by omega), show (i : Int) + 1 = ((i + 1 : Nat) : Int) by omega, ← List.replicate_succ']
    exact ih k (i + 1) (by omega) (by omega)
theorem PackSmall : stooklaw12_PackSmall.Pure := by
  intro l x m _ hl _ hx hm
  have hx2 := u16_wf hx
  have hm2 := u16_wf hm
  obtain ⟨m, rfl⟩ := Int.eq_ofNat_of_zero_le hm2.1
  have hp := put_len l
  refine ⟨201003, ?_⟩
  have fin : stooklaw12_PackSmall.j0 201003 x (m : Int) false = some true := by
    simp only [stooklaw12_PackSmall.j0, Bool.false_eq_true, if_false]
    exact small_l x (by omega) (by omega) m (m % 500 + 1) 201001 0 (by omega) (by omega)
  unfold stooklaw12_PackSmall.f
  rw [packput_f _ l (by omega), bnd]
  by_cases h : (put l).2 = 0
  · rw [if_pos h, w64 (i := 3 * (l.length : Int)) (by omega) (by omega), w64 (by omega) (by omega), decide_eq_false (by omega)]
    exact fin
  · rw [if_neg h]; exact fin
end Go.Proofs.Ytipfcibdkbneoaa.Pure
