/- Shards: Scan of the reference, Foot of both sides, what lives asks. -/
import Derived.Test.YtjefgdggjchhbaaPShard
import Derived.Test.YtjefgdggjchhbaaShardLives
set_option linter.unusedVariables false
set_option linter.unusedSimpArgs false
namespace Go.Proofs.Ytjefgdggjchhbaa.Pure
open Go Go.RowKit Go.Proofs.Ytjefgdggjchhbaa.PAll Go.Proofs.Ytjefgdggjchhbaa.Crc Go.Proofs.Ytjefgdggjchhbaa.Leb Go.Proofs.YtjefgdggjchhbaaVW.PrintWords Go.Proofs.YtjefgdggjchhbaaVW.PrintLast
set_option maxRecDepth 100000
/-- How many places are told, and what they are: they lie in the bytes. -/
theorem sl_places (b : List Int) (hb : Bytes b) (n : Int) : ∀ (f a : Nat) (ps : List Int), ps.length ≤ a → a ≤ b.length → (sl b f n ps (a : Int)).2.1.length ≤ b.length ∧ (sl b f n ps (a : Int)).2.2.2.1 ≤ (b.length : Int) ∧ 0 ≤ (sl b f n ps (a : Int)).2.2.2.1 ∧ (sl b f n ps (a : Int)).2.2.2.2 = 0
  | 0, a, ps, h, h2 => ⟨by show ps.length ≤ _; omega, by show (a : Int) ≤ _; omega, by show (0 : Int) ≤ (a : Int); omega, rfl⟩
  | f + 1, a, ps, h, h2 => by
    rw [sl_succ]
    by_cases c0 : (fget b (a : Int)).2.2 ≠ 0 ∨ (fget b (a : Int)).1 = []
    · rw [if_pos c0]
      exact ⟨by show ps.length ≤ _; omega, by show (a : Int) ≤ _; omega, by show (0 : Int) ≤ (a : Int); omega, rfl⟩
    · rw [if_neg c0]
      obtain ⟨p, m, hg, hm, hle, hpl, _⟩ := fget_step b hb a (by omega)
      rw [hg]
      dsimp only
      by_cases c1 : rd p 0 = 114
      · rw [if_pos c1]
        exact sl_places b hb n f (a + m) (ps ++ [(a : Int)]) (by rw [List.length_append, List.length_cons, List.length_nil]; omega) hle
      · rw [if_neg c1]
        by_cases c2 : p = footp ps.length (b.take (a : Int).toNat)
        · rw [if_pos c2]
          exact ⟨by show ps.length ≤ _; omega, by show ((a + m : Nat) : Int) ≤ _; omega, by show (0 : Int) ≤ ((a + m : Nat) : Int); omega, rfl⟩
        · rw [if_neg c2]
          exact ⟨by show ps.length ≤ _; omega, by show (a : Int) ≤ _; omega, by show (0 : Int) ≤ (a : Int); omega, rfl⟩
theorem sscan_places (b : List Int) (hb : Bytes b) : (sscan b).2.1.length ≤ b.length := by
  unfold sscan
  by_cases c0 : (fget b 0).2.2 ≠ 0 ∨ (fget b 0).1 = [] ∨ rd (fget b 0).1 0 ≠ 104
  · rw [if_pos c0]
    exact Nat.zero_le _
  · rw [if_neg c0]
    by_cases c1 : (gets (fget b 0).1 1).2.2 ≠ 0 ∨ (gets (fget b 0).1 1).2.1 ≠ ((fget b 0).1.length : Int) ∨ (gets (fget b 0).1 1).1 > 2147483647
    · rw [if_pos c1]
      exact Nat.zero_le _
    · rw [if_neg c1]
      obtain ⟨m, hm, hmb, _⟩ := scan_head b hb (by omega)
      rw [hm]
      exact (sl_places b hb _ (b.length + 1) m [] (Nat.zero_le _) hmb).1
/-- What Foot makes. -/
def sfoot (b : List Int) : List Int × Int := if (sscan b).2.2.2.2 ≠ 0 ∨ (sscan b).2.2.1 = true ∨ (sscan b).2.2.2.1 ≠ (b.length : Int) then ([], 5) else fput (footp (sscan b).2.1.length b)
theorem sfoot_f (k : Nat) (b : List Int) (hb : Bytes b) (hl : b.length ≤ 5864062014804) (hk : 4 * b.length + 90000 < k) : shard_Foot.f k b = some (sfoot b) := by
  have hpl := sscan_places b hb
  have key : ∀ x : Bool, (x = true ↔ ((sscan b).2.2.2.2 ≠ 0 ∨ (sscan b).2.2.1 = true ∨ (sscan b).2.2.2.1 ≠ (b.length : Int))) → ∀ u v w, shard_Foot.j0 k b x u (sscan b).2.1 v w = some (sfoot b) := by
    intro x hx u v w
    obtain ⟨k, rfl⟩ : ∃ m, k = m + 1 := ⟨k - 1, by omega⟩
    simp only [shard_Foot.j0]
    unfold sfoot
    by_cases c : x = true
    · rw [if_pos c, if_pos (hx.1 c)]
    · rw [if_neg c, if_neg (fun h => c (hx.2 h)), foot_f k _ (by omega) b hb (by omega) (by omega)]
      simp only [Option.bind_some]
      rw [frameput_f k _ (foot_bytes _ _) (by omega)]
      rfl
  unfold shard_Foot.f
  rw [scan_f k b hb hl (by omega)]
  simp only [Option.bind_some]
  by_cases c0 : (sscan b).2.2.2.2 = 0
  · rw [if_pos c0]
    by_cases c1 : (sscan b).2.2.1 = true
    · rw [if_pos c1]
      exact key true ⟨fun _ => Or.inr (Or.inl c1), fun _ => rfl⟩ _ _ _
    · rw [if_neg c1]
      refine key _ ⟨fun h => Or.inr (Or.inr (bne_iff_ne.mp h)), fun h => bne_iff_ne.mpr ?_⟩ _ _ _
      rcases h with h | h | h
      · exact absurd c0 h
      · exact absurd h c1
      · exact h
  · rw [if_neg c0]
    exact key true ⟨fun _ => Or.inl c0, fun _ => rfl⟩ _ _ _
theorem ints_l (l : List Int) (hl : l.length ≤ 281474976710656) (d : Nat) : ∀ (k i : Nat), i + d = l.length → d < k → stookref00_Ints.l0 k l l (i : Int) = some true := by
  induction d with
  | zero =>
    intro k i hi hk
    obtain ⟨k, rfl⟩ : ∃ m, k = m + 1 := ⟨k - 1, by omega⟩
    simp only [stookref00_Ints.l0]
    rw [if_neg (by omega)]
  | succ d ih =>
    intro k i hi hk
    obtain ⟨k, rfl⟩ : ∃ m, k = m + 1 := ⟨k - 1, by omega⟩
    simp only [stookref00_Ints.l0]
    rw [if_pos (by omega), if_pos (by omega), if_pos (by omega), if_pos trivial, show wrap64 ((i : Int) + 1) = ((i + 1 : Nat) : Int) by unfold wrap64; omega]
    exact ih k (i + 1) (by omega) (by omega)
theorem ints_self (k : Nat) (l : List Int) (hl : l.length ≤ 281474976710656) (hk : l.length < k) : stookref00_Ints.f k l l = some true := by
  unfold stookref00_Ints.f
  rw [if_pos rfl]
  exact ints_l l hl l.length k 0 (by omega) (by omega)
theorem same21_self (k : Nat) (a : Int) (l : List Int) (s : Bool) (e : Int) (hl : l.length ≤ 281474976710656) (hk : l.length < k) : stookref21_Same.f k a l s e a l s e = some true := by
  unfold stookref21_Same.f
  rw [if_pos rfl, if_pos (by simp), if_pos rfl, ints_self k l hl hk]
  rfl
end Go.Proofs.Ytjefgdggjchhbaa.Pure
