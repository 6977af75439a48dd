/- Shards: Scan of the reference, Foot of both sides, what lives asks. -/
import Derived.Test.YtjefgdggjchhbaaPShard
import Derived.Test.YtjefgdggjchhbaaShardLives
set_option linter.unusedVariables false
set_option linter.unusedSimpArgs false
namespace Go.Proofs.Ytjefgdggjchhbaa.Pure
open Go Go.RowKit Go.Proofs.Ytjefgdggjchhbaa.PAll Go.Proofs.Ytjefgdggjchhbaa.Crc Go.Proofs.Ytjefgdggjchhbaa.Leb Go.Proofs.YtjefgdggjchhbaaVW.PrintWords Go.Proofs.YtjefgdggjchhbaaVW.PrintLast
set_option maxRecDepth 100000
theorem refscan_f (k : Nat) (b : List Int) (hb : Bytes b) (hl : b.length ≤ 5864062014804) (hk : 4 * b.length + 90000 < k) : stookref21_Scan.f k b = some (sscan b) := by
  obtain ⟨k, rfl⟩ : ∃ m, k = m + 2 := ⟨k - 2, by omega⟩
  have key : ∀ x : Bool, (x = true ↔ ((fget b 0).2.2 ≠ 0 ∨ (fget b 0).1 = [] ∨ rd (fget b 0).1 0 ≠ 104)) → stookref21_Scan.j0 (k + 2) b (fget b 0).1 (fget b 0).2.1 x = some (sscan b) := by
    intro x hx
    rw [show k + 2 = (k + 1) + 1 from rfl]
    simp only [stookref21_Scan.j0]
    unfold sscan
    by_cases c : x = true
    · rw [if_pos c, if_pos (hx.1 c)]
    · rw [if_neg c, if_neg (fun h => c (hx.2 h))]
      have hnot : ¬ ((fget b 0).2.2 ≠ 0 ∨ (fget b 0).1 = [] ∨ rd (fget b 0).1 0 ≠ 104) := fun h => c (hx.2 h)
      obtain ⟨m, hm, hmb, hpl, hbp⟩ := scan_head b hb (by omega)
      have hgr : 0 ≤ (gets (fget b 0).1 1).1 ∧ (gets (fget b 0).1 1).1 < 18446744073709551616 := by
        rcases gets_cases (fget b 0).1 1 hbp with ⟨e, _, h⟩ | ⟨v, n, q, _, h, hv, _⟩
        · rw [h]; exact ⟨Int.le_refl 0, show (0 : Int) < 18446744073709551616 by decide⟩
        · rw [h]; exact ⟨by show (0 : Int) ≤ (v : Int); omega, by show (v : Int) < 18446744073709551616; omega⟩
      have j1 : ∀ y : Bool, (y = true ↔ ((gets (fget b 0).1 1).2.2 ≠ 0 ∨ (gets (fget b 0).1 1).2.1 ≠ ((fget b 0).1.length : Int) ∨ (gets (fget b 0).1 1).1 > 2147483647)) → stookref21_Scan.j1 (k + 1) b (fget b 0).2.1 (gets (fget b 0).1 1).1 y = some (if (gets (fget b 0).1 1).2.2 ≠ 0 ∨ (gets (fget b 0).1 1).2.1 ≠ ((fget b 0).1.length : Int) ∨ (gets (fget b 0).1 1).1 > 2147483647 then (0, [], false, 0, 5) else sl b (b.length + 1) (gets (fget b 0).1 1).1 [] (fget b 0).2.1) := by
        intro y hy
        simp only [stookref21_Scan.j1]
        by_cases c1 : y = true
        · rw [if_pos c1, if_pos (hy.1 c1)]
        · rw [if_neg c1, if_neg (fun h => c1 (hy.2 h))]
          have hny : ¬ ((gets (fget b 0).1 1).2.2 ≠ 0 ∨ (gets (fget b 0).1 1).2.1 ≠ ((fget b 0).1.length : Int) ∨ (gets (fget b 0).1 1).1 > 2147483647) := fun h => c1 (hy.2 h)
          have hw : wrap64 (gets (fget b 0).1 1).1 = (gets (fget b 0).1 1).1 := by unfold wrap64; omega
          rw [hw, hm]
          exact refscan_l b hb hl _ (b.length - m) k (b.length + 1) m [] (by omega) (Nat.zero_le _) (by omega) (by omega)
      rw [refget_f (k + 1) (fget b 0).1 1 hbp (by omega) (by omega)]
      simp only [Option.bind_some]
      by_cases c2 : (gets (fget b 0).1 1).2.2 = 0
      · rw [if_pos c2]
        by_cases c3 : (gets (fget b 0).1 1).2.1 = ((fget b 0).1.length : Int)
        · rw [if_pos c3]
          exact j1 _ ⟨fun h => Or.inr (Or.inr (of_decide_eq_true h)), fun h => decide_eq_true (by omega)⟩
        · rw [if_neg c3]
          exact j1 true ⟨fun _ => Or.inr (Or.inl c3), fun _ => rfl⟩
      · rw [if_neg c2]
        exact j1 true ⟨fun _ => Or.inl c2, fun _ => rfl⟩
  unfold stookref21_Scan.f
  rw [refframeget_f (k + 2) b 0 hb (by omega) (by omega)]
  simp only [Option.bind_some]
  by_cases c0 : (fget b 0).2.2 = 0
  · rw [if_pos c0]
    by_cases c1 : ((fget b 0).1.length : Int) = 0
    · rw [if_pos c1]
      exact key true ⟨fun _ => Or.inr (Or.inl (List.eq_nil_of_length_eq_zero (by omega))), fun _ => rfl⟩
    · rw [if_neg c1, if_pos (by omega)]
      refine key _ ⟨fun h => Or.inr (Or.inr (bne_iff_ne.mp h)), fun h => bne_iff_ne.mpr ?_⟩
      rcases h with h | h | h
      · exact absurd c0 h
      · rw [h] at c1; exact absurd rfl c1
      · exact h
  · rw [if_neg c0]
    exact key true ⟨fun _ => Or.inl c0, fun _ => rfl⟩
/-- How many places are told, and what they are: they lie in the bytes. -/
theorem sl_places (b : List Int) (hb : Bytes b) (n : Int) : ∀ (f a : Nat) (ps : List Int), ps.length ≤ a → a ≤ b.length → (sl b f n ps (a : Int)).2.1.length ≤ b.length ∧ (sl b f n ps (a : Int)).2.2.2.1 ≤ (b.length : Int) ∧ 0 ≤ (sl b f n ps (a : Int)).2.2.2.1 ∧ (sl b f n ps (a : Int)).2.2.2.2 = 0
  | 0, a, ps, h, h2 => ⟨by show ps.length ≤ _; omega, by show (a : Int) ≤ _; omega, by show (0 : Int) ≤ (a : Int); omega, rfl⟩
  | f + 1, a, ps, h, h2 => by
    rw [sl_succ]
    by_cases c0 : (fget b (a : Int)).2.2 ≠ 0 ∨ (fget b (a : Int)).1 = []
    · rw [if_pos c0]
      exact ⟨by show ps.length ≤ _; omega, by show (a : Int) ≤ _; omega, by show (0 : Int) ≤ (a : Int); omega, rfl⟩
    · rw [if_neg c0]
      obtain ⟨p, m, hg, hm, hle, hpl, _⟩ := fget_step b hb a (by omega)
      rw [hg]
      dsimp only
      by_cases c1 : rd p 0 = 114
      · rw [if_pos c1]
        exact sl_places b hb n f (a + m) (ps ++ [(a : Int)]) (by rw [List.length_append, List.length_cons, List.length_nil]; omega) hle
      · rw [if_neg c1]
        by_cases c2 : p = footp ps.length (b.take (a : Int).toNat)
        · rw [if_pos c2]
          exact ⟨by show ps.length ≤ _; omega, by show ((a + m : Nat) : Int) ≤ _; omega, by show (0 : Int) ≤ ((a + m : Nat) : Int); omega, rfl⟩
        · rw [if_neg c2]
          exact ⟨by show ps.length ≤ _; omega, by show (a : Int) ≤ _; omega, by show (0 : Int) ≤ (a : Int); omega, rfl⟩
theorem sscan_places (b : List Int) (hb : Bytes b) : (sscan b).2.1.length ≤ b.length := by
  unfold sscan
  by_cases c0 : (fget b 0).2.2 ≠ 0 ∨ (fget b 0).1 = [] ∨ rd (fget b 0).1 0 ≠ 104
  · rw [if_pos c0]
    exact Nat.zero_le _
  · rw [if_neg c0]
    by_cases c1 : (gets (fget b 0).1 1).2.2 ≠ 0 ∨ (gets (fget b 0).1 1).2.1 ≠ ((fget b 0).1.length : Int) ∨ (gets (fget b 0).1 1).1 > 2147483647
    · rw [if_pos c1]
      exact Nat.zero_le _
    · rw [if_neg c1]
      obtain ⟨m, hm, hmb, _⟩ := scan_head b hb (by omega)
      rw [hm]
      exact (sl_places b hb _ (b.length + 1) m [] (Nat.zero_le _) hmb).1
/-- What Foot makes. -/
def sfoot (b : List Int) : List Int × Int := if (sscan b).2.2.2.2 ≠ 0 ∨ (sscan b).2.2.1 = true ∨ (sscan b).2.2.2.1 ≠ (b.length : Int) then ([], 5) else fput (footp (sscan b).2.1.length b)
theorem sfoot_f (k : Nat) (b : List Int) (hb : Bytes b) (hl : b.length ≤ 5864062014804) (hk : 4 * b.length + 90000 < k) : shard_Foot.f k b = some (sfoot b) := by
  have hpl := sscan_places b hb
  have key : ∀ x : Bool, (x = true ↔ ((sscan b).2.2.2.2 ≠ 0 ∨ (sscan b).2.2.1 = true ∨ (sscan b).2.2.2.1 ≠ (b.length : Int))) → ∀ u v w, shard_Foot.j0 k b x u (sscan b).2.1 v w = some (sfoot b) := by
    intro x hx u v w
    obtain ⟨k, rfl⟩ : ∃ m, k = m + 1 := ⟨k - 1, by omega⟩
    simp only [shard_Foot.j0]
    unfold sfoot
    by_cases c : x = true
    · rw [if_pos c, if_pos (hx.1 c)]
    · rw [if_neg c, if_neg (fun h => c (hx.2 h)), foot_f k _ (by omega) b hb (by omega) (by omega)]
      simp only [Option.bind_some]
      rw [frameput_f k _ (foot_bytes _ _) (by omega)]
      rfl
  unfold shard_Foot.f
  rw [scan_f k b hb hl (by omega)]
  simp only [Option.bind_some]
  by_cases c0 : (sscan b).2.2.2.2 = 0
  · rw [if_pos c0]
    by_cases c1 : (sscan b).2.2.1 = true
    · rw [if_pos c1]
      exact key true ⟨fun _ => Or.inr (Or.inl c1), fun _ => rfl⟩ _ _ _
    · rw [if_neg c1]
      refine key _ ⟨fun h => Or.inr (Or.inr (bne_iff_ne.mp h)), fun h => bne_iff_ne.mpr ?_⟩ _ _ _
      rcases h with h | h | h
      · exact absurd c0 h
      · exact absurd h c1
      · exact h
  · rw [if_neg c0]
    exact key true ⟨fun _ => Or.inl c0, fun _ => rfl⟩ _ _ _
theorem refsfoot_f (k : Nat) (b : List Int) (hb : Bytes b) (hl : b.length ≤ 5864062014804) (hk : 4 * b.length + 90000 < k) : stookref21_Foot.f k b = some (sfoot b) := by
  have hpl := sscan_places b hb
  have key : ∀ x : Bool, (x = true ↔ ((sscan b).2.2.2.2 ≠ 0 ∨ (sscan b).2.2.1 = true ∨ (sscan b).2.2.2.1 ≠ (b.length : Int))) → ∀ u v w, stookref21_Foot.j0 k b x u (sscan b).2.1 v w = some (sfoot b) := by
    intro x hx u v w
    obtain ⟨k, rfl⟩ : ∃ m, k = m + 1 := ⟨k - 1, by omega⟩
    simp only [stookref21_Foot.j0]
    unfold sfoot
    by_cases c : x = true
    · rw [if_pos c, if_pos (hx.1 c)]
    · rw [if_neg c, if_neg (fun h => c (hx.2 h)), reffoot_f k _ (by omega) b hb (by omega) (by omega)]
      simp only [Option.bind_some]
      rw [refframeput_f k _ (foot_bytes _ _) (by omega)]
      rfl
  unfold stookref21_Foot.f
  rw [refscan_f k b hb hl (by omega)]
  simp only [Option.bind_some]
  by_cases c0 : (sscan b).2.2.2.2 = 0
  · rw [if_pos c0]
    by_cases c1 : (sscan b).2.2.1 = true
    · rw [if_pos c1]
      exact key true ⟨fun _ => Or.inr (Or.inl c1), fun _ => rfl⟩ _ _ _
    · rw [if_neg c1]
      refine key _ ⟨fun h => Or.inr (Or.inr (bne_iff_ne.mp h)), fun h => bne_iff_ne.mpr ?_⟩ _ _ _
      rcases h with h | h | h
      · exact absurd c0 h
      · exact absurd h c1
      · exact h
  · rw [if_neg c0]
    exact key true ⟨fun _ => Or.inl c0, fun _ => rfl⟩ _ _ _
theorem ints_l (l : List Int) (hl : l.length ≤ 281474976710656) (d : Nat) : ∀ (k i : Nat), i + d = l.length → d < k → stookref00_Ints.l0 k l l (i : Int) = some true := by
  induction d with
  | zero =>
    intro k i hi hk
    obtain ⟨k, rfl⟩ : ∃ m, k = m + 1 := ⟨k - 1, by omega⟩
    simp only [stookref00_Ints.l0]
    rw [if_neg (by omega)]
  | succ d ih =>
    intro k i hi hk
    obtain ⟨k, rfl⟩ : ∃ m, k = m + 1 := ⟨k - 1, by omega⟩
    simp only [stookref00_Ints.l0]
    rw [if_pos (by omega), if_pos (by omega), if_pos (by omega), if_pos trivial, show wrap64 ((i : Int) + 1) = ((i + 1 : Nat) : Int) by unfold wrap64; omega]
    exact ih k (i + 1) (by omega) (by omega)
theorem ints_self (k : Nat) (l : List Int) (hl : l.length ≤ 281474976710656) (hk : l.length < k) : stookref00_Ints.f k l l = some true := by
  unfold stookref00_Ints.f
  rw [if_pos rfl]
  exact ints_l l hl l.length k 0 (by omega) (by omega)
end Go.Proofs.Ytjefgdggjchhbaa.Pure
