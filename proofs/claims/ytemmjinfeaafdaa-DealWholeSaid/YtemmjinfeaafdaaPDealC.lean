/- The steps of a seed, and the order that it deals, as the program and as the document tell them. No condition. -/
import Derived.Test.YtemmjinfeaafdaaDrawBits
import Derived.Test.YtemmjinfeaafdaaPAllx9
import Derived.Test.YtemmjinfeaafdaaPAllx10
import Derived.Test.YtemmjinfeaafdaaPAllx11
import Derived.Test.YtemmjinfeaafdaaPDealB
set_option linter.unusedVariables false
set_option linter.unusedSimpArgs false
namespace Go.Proofs.Ytemmjinfeaafdaa.Draw
open Go Go.RowKit Go.Proofs.Ytemmjinfeaafdaa.Bits Go.Proofs.Ytemmjinfeaafdaa.PAll Go.Proofs.YtemmjinfeaafdaaVW.PrintWords Go.Proofs.YtemmjinfeaafdaaVW.PrintLast

theorem mix_f (z : BitVec 64) : draw_Mix.f (z.toNat : Int) = some ((mix z).toNat : Int) := by
  unfold draw_Mix.f
  simp only [e30, e27, e31, xor_b, m1, m2]
  rfl
theorem refmix_f (z : BitVec 64) : stookref05_Mix.f (z.toNat : Int) = some ((mix z).toNat : Int) := by
  unfold stookref05_Mix.f
  simp only [e30, e27, e31, xor_b, m1, m2]
  rfl
theorem next_f (z : BitVec 64) : draw_Next.f (z.toNat : Int) = some (((mix (z + gold)).toNat : Int), ((z + gold).toNat : Int)) := by
  unfold draw_Next.f
  rw [aGold, mix_f]
  rfl
theorem refnext_f (z : BitVec 64) : stookref05_Next.f (z.toNat : Int) = some (((mix (z + gold)).toNat : Int), ((z + gold).toNat : Int)) := by
  unfold stookref05_Next.f
  rw [aGold, refmix_f]
  rfl
/-- What is drawn: the word that counts, or the last one, and the state behind it. -/
def tries (ok : BitVec 64 → Bool) : Nat → BitVec 64 → BitVec 64 → BitVec 64 × BitVec 64
  | 0, s, w => (w, s)
  | d + 1, s, _ => if ok (mix (s + gold)) then (mix (s + gold), s + gold) else tries ok d (s + gold) (mix (s + gold))
theorem tmod_b (x y : BitVec 64) : Int.tmod (x.toNat : Int) (y.toNat : Int) = ((x % y).toNat : Int) := by
  rw [BitVec.toNat_umod]; rfl
theorem zero_b {n : BitVec 64} (h : n ≠ (BitVec.ofNat 64 0)) : ¬ ((n.toNat : Int) = 0) := fun e => h (BitVec.eq_of_toNat_eq (by rw [BitVec.toNat_ofNat]; omega))
theorem below_l (n last : BitVec 64) (hn : n ≠ (BitVec.ofNat 64 0)) (d : Nat) : ∀ (k i : Nat) (s w : BitVec 64), i + d = 64 → d < k →
    draw_Below.l0 k (s.toNat : Int) (n.toNat : Int) (last.toNat : Int) (w.toNat : Int) (i : Int)
      = some ((((tries (fun w => decide (w.toNat ≤ last.toNat)) d s w).1 % n).toNat : Int), ((tries (fun w => decide (w.toNat ≤ last.toNat)) d s w).2.toNat : Int), 0) := by
  have h0 := zero_b hn
  induction d with
  | zero =>
    intro k i s w hi hk
    obtain ⟨k, rfl⟩ : ∃ m, k = m + 1 := ⟨k - 1, by omega⟩
    simp only [draw_Below.l0, tries]
    rw [if_neg (by omega), if_neg h0, tmod_b]
  | succ d ih =>
    intro k i s w hi hk
    obtain ⟨k, rfl⟩ : ∃ m, k = m + 1 := ⟨k - 1, by omega⟩
    simp only [draw_Below.l0, tries]
    rw [if_pos (by omega), next_f, bnd]
    by_cases h : (mix (s + gold)).toNat ≤ last.toNat
    · rw [if_pos (Int.ofNat_le.2 h), if_neg h0, tmod_b, if_pos (decide_eq_true h)]
    · rw [if_neg (fun x => h (Int.ofNat_le.1 x)), if_neg (by simpa using h), show wrap64 ((i : Int) + 1) = ((i + 1 : Nat) : Int) by unfold wrap64; omega]
      exact ih k (i + 1) _ _ (by omega) (by omega)
/-- The greatest word that counts. -/
def lastOf (n : BitVec 64) : BitVec 64 := -(-n % n) - (BitVec.ofNat 64 1)
theorem below_f (s n : BitVec 64) (hn : n ≠ (BitVec.ofNat 64 0)) : draw_Below.f 65 (s.toNat : Int) (n.toNat : Int)
    = some ((((tries (fun w => decide (w.toNat ≤ (lastOf n).toNat)) 64 s (BitVec.ofNat 64 0)).1 % n).toNat : Int), ((tries (fun w => decide (w.toNat ≤ (lastOf n).toNat)) 64 s (BitVec.ofNat 64 0)).2.toNat : Int), 0) := by
  unfold draw_Below.f
  rw [if_neg (zero_b hn), neg_b, tmod_b, neg_b, sOne]
  exact below_l n (lastOf n) hn 64 65 0 s (BitVec.ofNat 64 0) (by omega) (by omega)
theorem refbelow_l (n L : BitVec 64) (hn : n ≠ (BitVec.ofNat 64 0)) (ok : BitVec 64 → Bool) (hok : ∀ w, ok w = decide (L = (BitVec.ofNat 64 0) ∨ w.toNat < (-L).toNat)) (d : Nat) : ∀ (k i : Nat) (s w : BitVec 64), i + d = 64 → d < k →
    stookref05_Below.l0 k (s.toNat : Int) (n.toNat : Int) (L.toNat : Int) (w.toNat : Int) (i : Int)
      = some ((((tries ok d s w).1 % n).toNat : Int), ((tries ok d s w).2.toNat : Int), 0) := by
  have h0 := zero_b hn
  induction d with
  | zero =>
    intro k i s w hi hk
    obtain ⟨k, rfl⟩ : ∃ m, k = m + 1 := ⟨k - 1, by omega⟩
    simp only [stookref05_Below.l0, tries]
    rw [if_neg (by omega), if_neg h0, tmod_b]
  | succ d ih =>
    intro k i s w hi hk
    obtain ⟨k, rfl⟩ : ∃ m, k = m + 1 := ⟨k - 1, by omega⟩
    simp only [stookref05_Below.l0, tries]
    rw [if_pos (by omega), refnext_f, bnd]
    by_cases hL : L = (BitVec.ofNat 64 0)
    · have e : ok (mix (s + gold)) = true := by rw [hok, decide_eq_true (Or.inl hL)]
      rw [if_pos (by rw [hL]; rfl), if_neg h0, tmod_b, if_pos e]
    · rw [if_neg (zero_b hL), neg_b]
      by_cases h : (mix (s + gold)).toNat < (-L).toNat
      · have e : ok (mix (s + gold)) = true := by rw [hok, decide_eq_true (Or.inr h)]
        rw [if_pos (Int.ofNat_lt.2 h), if_neg h0, tmod_b, if_pos e]
      · have e : ok (mix (s + gold)) = false := by rw [hok, decide_eq_false (fun x => x.elim hL h)]
        rw [if_neg (fun x => h (Int.ofNat_lt.1 x)), if_neg (by rw [e]; decide), show wrap64 ((i : Int) + 1) = ((i + 1 : Nat) : Int) by unfold wrap64; omega]
        exact ih k (i + 1) _ _ (by omega) (by omega)
theorem last_ok (L w : BitVec 64) : decide (w.toNat ≤ (-L - (BitVec.ofNat 64 1)).toNat) = decide (L = (BitVec.ofNat 64 0) ∨ w.toNat < (-L).toNat) := by
  have hw := w.isLt
  have hL := L.isLt
  have e1 : ((BitVec.ofNat 64 1)).toNat = 1 := rfl
  rw [decide_eq_decide]
  by_cases h : L = (BitVec.ofNat 64 0)
  · subst h
    simp only [true_or, iff_true]
    have : (-(BitVec.ofNat 64 0) - (BitVec.ofNat 64 1)).toNat = 18446744073709551615 := by decide
    omega
  · have h' : L.toNat ≠ 0 := fun e => h (BitVec.eq_of_toNat_eq (by rw [e]; rfl))
    rw [BitVec.toNat_sub, BitVec.toNat_neg, e1]
    simp only [h, false_or]
    omega
theorem refbelow_f (s n : BitVec 64) (hn : n ≠ (BitVec.ofNat 64 0)) : stookref05_Below.f 65 (s.toNat : Int) (n.toNat : Int)
    = some ((((tries (fun w => decide (w.toNat ≤ (lastOf n).toNat)) 64 s (BitVec.ofNat 64 0)).1 % n).toNat : Int), ((tries (fun w => decide (w.toNat ≤ (lastOf n).toNat)) 64 s (BitVec.ofNat 64 0)).2.toNat : Int), 0) := by
  unfold stookref05_Below.f
  rw [if_neg (zero_b hn), neg_b, tmod_b]
  exact refbelow_l n (-n % n) hn _ (fun w => last_ok (-n % n) w) 64 65 0 s (BitVec.ofNat 64 0) (by omega) (by omega)
end Go.Proofs.Ytemmjinfeaafdaa.Draw
namespace Go.Proofs.Ytemmjinfeaafdaa.Pure
open Go Go.RowKit Go.Proofs.Ytemmjinfeaafdaa.PAll Go.Proofs.Ytemmjinfeaafdaa.Perm Go.Proofs.YtemmjinfeaafdaaVW.PrintWords Go.Proofs.YtemmjinfeaafdaaVW.PrintLast Go.Proofs.YtemmjinfeaafdaaVW.PrintMore

/-- A draw below a number of the size that may be dealt: one answer, below that number, and a state. -/
theorem draw_one (s : BitVec 64) (n : Nat) (h0 : 0 < n) (hn : n ≤ 65536) : ∃ (v : Nat) (s' : BitVec 64), v < n ∧ ∀ k, 65 ≤ k → draw_Below.f k (s.toNat : Int) (n : Int) = some ((v : Int), (s'.toNat : Int), 0) ∧ stookref05_Below.f k (s.toNat : Int) (n : Int) = some ((v : Int), (s'.toNat : Int), 0) := by
  have hN : (BitVec.ofNat 64 n).toNat = n := by rw [BitVec.toNat_ofNat]; omega
  have hz : BitVec.ofNat 64 n ≠ BitVec.ofNat 64 0 := fun e => by
    have := congrArg BitVec.toNat e
    rw [hN, BitVec.toNat_ofNat] at this
    omega
  have h1 := Draw.below_f s (BitVec.ofNat 64 n) hz
  have h2 := Draw.refbelow_f s (BitVec.ofNat 64 n) hz
  rw [hN] at h1 h2
  refine ⟨_, _, ?_, fun k hk => ⟨at_rounds (draw_Below.mono _ _) hk h1, at_rounds (stookref05_Below.mono _ _) hk h2⟩⟩
  rw [BitVec.toNat_umod, hN]
  exact Nat.mod_lt _ h0
theorem u64_nat (n : Nat) (h : n ≤ 65536) : IntKind.u64.wrap (n : Int) = (n : Int) := by rw [Bits.wrap_u64]; omega
theorem steps_l (n : Nat) (hn : n ≤ 65536) (d : Nat) : ∀ (k i : Nat) (s : BitVec 64) (out : List Int), i = d + 1 → d + 66 < k → out.length + d = n - 1 → (∀ j : Nat, j < out.length → 0 ≤ rd out j ∧ rd out j ≤ (n : Int) - 1 - j) →
    ∃ r : List Int, r.length = n - 1 ∧ MayL r n ∧ deal_Steps.l0 k (s.toNat : Int) out (i : Int) = some (r, 0) ∧ stookref06_Steps.l0 k (s.toNat : Int) out ((i : Int) - 1) = some (r, 0) := by
  induction d with
  | zero =>
    intro k i s out hi hk hl ho
    obtain ⟨k, rfl⟩ : ∃ m, k = m + 1 := ⟨k - 1, by omega⟩
    refine ⟨out, by omega, ho, ?_, ?_⟩
    · simp only [deal_Steps.l0]
      rw [if_neg (by omega)]
    · simp only [stookref06_Steps.l0]
      rw [if_neg (by omega)]
  | succ d ih =>
    intro k i s out hi hk hl ho
    obtain ⟨k, rfl⟩ : ∃ m, k = m + 1 := ⟨k - 1, by omega⟩
    obtain ⟨v, s', hv, hb⟩ := draw_one s i (by omega) (by omega)
    obtain ⟨b1, b2⟩ := hb k (by omega)
    have hlen : (out ++ [(v : Int)]).length = out.length + 1 := by simp
    obtain ⟨r, r1, r2, r3, r4⟩ := ih k (i - 1) s' (out ++ [(v : Int)]) (by omega) (by omega) (by omega) (fun j hj => by
      rw [hlen] at hj
      by_cases e : j = out.length
      · have : rd (out ++ [(v : Int)]) (j : Int) = v := by
          rw [rd_at _ j (by omega)]
          simp [e]
        rw [this]; omega
      · have : rd (out ++ [(v : Int)]) (j : Int) = rd out j := by
          rw [rd_at _ j (by omega), rd_at _ j (by omega), List.getElem_append_left (by omega)]
        rw [this]; exact ho j (by omega))
    refine ⟨r, r1, r2, ?_, ?_⟩
    · simp only [deal_Steps.l0]
      rw [if_pos (by omega), u64_nat i (by omega), b1, bnd, if_pos (by omega), w64 (by omega) (by omega), w64 (by omega) (by omega), show (i : Int) - 1 = ((i - 1 : Nat) : Int) by omega]
      exact r3
    · simp only [stookref06_Steps.l0]
      rw [if_pos (by omega), w64 (i := (i : Int) - 1 + 1) (by omega) (by omega), show (i : Int) - 1 + 1 = (i : Int) by omega, u64_nat i (by omega), b2, bnd, if_pos (by omega), w64 (by omega) (by omega), w64 (by omega) (by omega), show (i : Int) - 1 - 1 = ((i - 1 : Nat) : Int) - 1 by omega]
      exact r4
theorem steps_f (s : BitVec 64) (n : Nat) (hn : n ≤ 65536) (k : Nat) (hk : 131080 ≤ k) :
    ∃ r : List Int, r.length = n - 1 ∧ MayL r n ∧ deal_Steps.f k (s.toNat : Int) (n : Int) = some (r, 0) ∧ stookref06_Steps.f k (s.toNat : Int) (n : Int) = some (r, 0) := by
  unfold deal_Steps.f stookref06_Steps.f
  rw [size_may (by omega) (by omega), bnd, if_pos rfl, mx_less n hn, if_pos (by omega), if_pos (by omega), if_neg (by omega), if_neg (by omega), w64 (by omega) (by omega)]
  by_cases h0 : n = 0
  · subst h0
    obtain ⟨k, rfl⟩ : ∃ m, k = m + 1 := ⟨k - 1, by omega⟩
    refine ⟨[], rfl, fun j hj => by simp at hj, ?_, ?_⟩
    · simp only [deal_Steps.l0]
      rw [if_neg (by decide)]
      rfl
    · simp only [stookref06_Steps.l0]
      rw [if_neg (by decide)]
  · exact steps_l n hn (n - 1) k n s [] (by omega) (by omega) (by simp) (fun j hj => by simp at hj)
theorem steps_low {n : Int} (h : n < 0) (s : Int) (k : Nat) : deal_Steps.f k s n = some (([] : List Int), 2) ∧ stookref06_Steps.f k s n = some (([] : List Int), 2) := by
  unfold deal_Steps.f stookref06_Steps.f
  rw [size_low h, bnd, if_neg (by decide), if_pos h]
  exact ⟨rfl, rfl⟩
theorem steps_high {n : Int} (h : n > 65536) (s : Int) (k : Nat) : deal_Steps.f k s n = some (([] : List Int), 3) ∧ stookref06_Steps.f k s n = some (([] : List Int), 3) := by
  unfold deal_Steps.f stookref06_Steps.f
  rw [size_high h, bnd, if_neg (by decide), if_neg (by omega), if_pos h]
  exact ⟨rfl, rfl⟩
/-- What a seed deals is an order. -/
theorem deal_f (s : BitVec 64) (n : Nat) (hn : n ≤ 65536) (k : Nat) (hk : 131080 ≤ k) :
    ∃ (f g : Nat → Nat) (r : List Int), Inv n f g ∧ r.length ≤ 65536 ∧ deal_Steps.f k (s.toNat : Int) (n : Int) = some (r, 0) ∧ stookref06_Steps.f k (s.toNat : Int) (n : Int) = some (r, 0) ∧
      deal_Deal.f k (s.toNat : Int) (n : Int) = some (nums n f, 0) ∧ stookref06_Deal.f k (s.toNat : Int) (n : Int) = some (nums n f, 0) := by
  obtain ⟨r, r1, r2, r3, r4⟩ := steps_f s n hn k hk
  refine ⟨_, _, r, made_inv r1 r2, by omega, r3, r4, ?_, ?_⟩
  · unfold deal_Deal.f
    rw [r3, bnd, if_pos rfl, of_yes hn r1 r2 k (by omega), bnd]
    rfl
  · unfold stookref06_Deal.f
    rw [r4, bnd, if_pos rfl, refof_yes hn r1 r2 k (by omega), bnd]
    rfl
theorem deal_low {n : Int} (h : n < 0) (s : Int) (k : Nat) : deal_Deal.f k s n = some (([] : List Int), 2) ∧ stookref06_Deal.f k s n = some (([] : List Int), 2) := by
  unfold deal_Deal.f stookref06_Deal.f
  rw [(steps_low h s k).1, (steps_low h s k).2, bnd, if_neg (by decide)]
  exact ⟨rfl, rfl⟩
theorem deal_high {n : Int} (h : n > 65536) (s : Int) (k : Nat) : deal_Deal.f k s n = some (([] : List Int), 3) ∧ stookref06_Deal.f k s n = some (([] : List Int), 3) := by
  unfold deal_Deal.f stookref06_Deal.f
  rw [(steps_high h s k).1, (steps_high h s k).2, bnd, if_neg (by decide)]
  exact ⟨rfl, rfl⟩
end Go.Proofs.Ytemmjinfeaafdaa.Pure
