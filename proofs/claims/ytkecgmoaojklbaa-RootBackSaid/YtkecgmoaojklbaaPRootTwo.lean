/- Roots: what is put is got; the newest of two; what lives asks. -/
import Derived.Test.YtkecgmoaojklbaaPRoot
import Derived.Test.YtkecgmoaojklbaaPAllx18
set_option linter.unusedVariables false
set_option linter.unusedSimpArgs false
namespace Go.Proofs.Ytkecgmoaojklbaa.Pure
open Go Go.RowKit Go.Proofs.Ytkecgmoaojklbaa.PAll Go.Proofs.Ytkecgmoaojklbaa.Crc Go.Proofs.Ytkecgmoaojklbaa.Leb Go.Proofs.YtkecgmoaojklbaaVW.PrintWords Go.Proofs.YtkecgmoaojklbaaVW.PrintLast
set_option maxRecDepth 100000
/-- A page is read at its own number alone. -/
theorem pget_other {n n' kind : Int} {l : List Int} (h0 : 0 ≤ n) (h1 : n < 65536) (h0' : 0 ≤ n') (h1' : n' < 65536) (hne : n ≠ n') (hk : 0 ≤ kind ∧ kind < 256) (hb : Bytes l) (hl : l.length ≤ 496) : pget n' (pput n kind l).1 = (0, [], 5) := by
  have hold := pget_pput h0 h1 hk hb hl
  obtain ⟨pb, hpb⟩ : ∃ pb, pb = (pput n kind l).1 := ⟨_, rfl⟩
  rw [← hpb] at hold ⊢
  obtain ⟨_, _, hlen, _, _, _, _, h4⟩ := pget_form (n := n) (b := pb) (by rw [hold])
  unfold pget at hold ⊢
  rw [if_neg (by omega), if_neg (by omega), if_neg (by omega), if_pos h4] at hold ⊢
  by_cases c5 : rd pb 10 + rd pb 11 * 256 > 496
  · rw [if_pos c5]
  · rw [if_neg c5] at hold ⊢
    rw [if_neg]
    intro hp
    obtain ⟨m, hm⟩ : ∃ m, m = (pb.drop 12).take (rd pb 10 + rd pb 11 * 256).toNat := ⟨_, rfl⟩
    rw [← hm] at hp
    have hml : m.length ≤ 496 := by rw [hm, List.length_take]; omega
    have e1 : (pput n kind l).1 = four (crcs (mid n kind l)) ++ mid n kind l := by unfold pput; rw [if_neg (by omega), if_neg (by omega)]
    have e2 : (pput n' (rd pb 8) m).1 = four (crcs (mid n' (rd pb 8) m)) ++ mid n' (rd pb 8) m := by unfold pput; rw [if_neg (by omega), if_neg (by omega)]
    have hd : (((pput n' (rd pb 8) m).1).drop 4).take 4 = (((pput n kind l).1).drop 4).take 4 := by rw [hp, hpb]
    rw [e1, e2, List.drop_left' (four_len _), List.drop_left' (four_len _)] at hd
    have hd2 : [n' % 256, n' / 256 % 256, n' / 65536 % 256, n' / 16777216 % 256] = [n % 256, n / 256 % 256, n / 65536 % 256, n / 16777216 % 256] := hd
    simp only [List.cons.injEq, and_true] at hd2
    omega
theorem encs_cut (l : List Nat) (i : Nat) (hi : i < l.length) : encs l = encs (l.take i) ++ enc l[i] ++ encs (l.drop (i + 1)) ∧ encs (l.take (i + 1)) = encs (l.take i) ++ enc l[i] := by
  have h1 : encs (l.take (i + 1)) = encs (l.take i) ++ enc l[i] := by
    rw [List.take_succ_eq_append_getElem hi]
    unfold encs
    rw [List.flatMap_append]
    simp
  refine ⟨?_, h1⟩
  rw [← h1]
  unfold encs
  rw [← List.flatMap_append, List.take_append_drop]
theorem gets_at (l : List Nat) (hw : ∀ n ∈ l, n < 18446744073709551616) (i : Nat) (hi : i < l.length) : gets (encs l) ((encs (l.take i)).length : Int) = ((l[i] : Int), ((encs (l.take (i + 1))).length : Int), 0) := by
  obtain ⟨h1, h2⟩ := encs_cut l i hi
  rw [h2, List.length_append, h1]
  exact gets_enc _ _ _ (hw _ (List.getElem_mem hi))
/-- The numbers of a root are read where they were put. -/
theorem xs_nums {a b c d e f g : Int} (h : May a b c d e f g) (h4 : 0 ≤ d) (l : List Int) (hl : l = encs (nums a b c d e f g)) : (x0 l).1 = a ∧ (x1 l).1 = b ∧ (x2 l).1 = c ∧ (x3 l).1 = d ∧ (x4 l).1 = e ∧ (x5 l).1 = f ∧ (x6 l).1 = g ∧ (x0 l).2.2 = 0 ∧ (x1 l).2.2 = 0 ∧ (x2 l).2.2 = 0 ∧ (x3 l).2.2 = 0 ∧ (x4 l).2.2 = 0 ∧ (x5 l).2.2 = 0 ∧ (x6 l).2.2 = 0 ∧ (x6 l).2.1 = (l.length : Int) := by
  obtain ⟨_, hw⟩ := nums_ints h h4
  unfold May at h
  have q0 : x0 l = ((a.toNat : Int), ((encs ((nums a b c d e f g).take 1)).length : Int), 0) := by rw [hl]; exact gets_at _ hw 0 (by show 0 < 7; decide)
  have q1 : x1 l = ((b.toNat : Int), ((encs ((nums a b c d e f g).take 2)).length : Int), 0) := by unfold x1; rw [q0, hl]; exact gets_at _ hw 1 (by show 1 < 7; decide)
  have q2 : x2 l = ((c.toNat : Int), ((encs ((nums a b c d e f g).take 3)).length : Int), 0) := by unfold x2; rw [q1, hl]; exact gets_at _ hw 2 (by show 2 < 7; decide)
  have q3 : x3 l = ((d.toNat : Int), ((encs ((nums a b c d e f g).take 4)).length : Int), 0) := by unfold x3; rw [q2, hl]; exact gets_at _ hw 3 (by show 3 < 7; decide)
  have q4 : x4 l = ((e.toNat : Int), ((encs ((nums a b c d e f g).take 5)).length : Int), 0) := by unfold x4; rw [q3, hl]; exact gets_at _ hw 4 (by show 4 < 7; decide)
  have q5 : x5 l = ((f.toNat : Int), ((encs ((nums a b c d e f g).take 6)).length : Int), 0) := by unfold x5; rw [q4, hl]; exact gets_at _ hw 5 (by show 5 < 7; decide)
  have q6 : x6 l = ((g.toNat : Int), ((encs ((nums a b c d e f g).take 7)).length : Int), 0) := by unfold x6; rw [q5, hl]; exact gets_at _ hw 6 (by show 6 < 7; decide)
  rw [q0, q1, q2, q3, q4, q5, q6, hl]
  refine ⟨?_, ?_, ?_, ?_, ?_, ?_, ?_, rfl, rfl, rfl, rfl, rfl, rfl, rfl, rfl⟩ <;> dsimp only <;> omega
theorem body_len {a b c d e f g : Int} (h : May a b c d e f g) (h4 : 0 ≤ d) : (encs (nums a b c d e f g)).length ≤ 70 := encs_le _ (nums_ints h h4).2
theorem rput_yes {a b c d e f g : Int} (h : May a b c d e f g) : rput a b c d e f g = pput (a % 2) 1 (encs (nums a b c d e f g)) := by
  unfold rput
  rw [if_pos h, tmod_two (by unfold May at h; omega)]
theorem rget_rput {a b c d e f g : Int} (h : May a b c d e f g) (h4 : 0 ≤ d) : rget (a % 2) (rput a b c d e f g).1 = (a, b, c, d, e, f, g, 0) := by
  rw [rput_yes h]
  have hlen := body_len h h4
  unfold rget
  rw [pget_pput (by omega) (by omega) (by decide) (encs_bytes _) (by omega), if_neg (by omega), if_neg (fun h => h rfl)]
  obtain ⟨e0, e1, e2, e3, e4, e5, e6, f0, f1, f2, f3, f4, f5, f6, ft⟩ := xs_nums h h4 _ rfl
  dsimp only
  rw [if_pos, e0, e1, e2, e3, e4, e5, e6]
  refine ⟨rfl, f0, f1, f2, f3, f4, f5, f6, ft, ?_, ?_⟩
  · rw [e0, e1, e2, e3, e4, e5, e6]
    exact h
  · rw [e0]
theorem rget_other {a b c d e f g : Int} (h : May a b c d e f g) (h4 : 0 ≤ d) (place : Int) (hp : place = 0 ∨ place = 1) (hne : a % 2 ≠ place) : rget place (rput a b c d e f g).1 = (0, 0, 0, 0, 0, 0, 0, 5) := by
  rw [rput_yes h]
  have hlen := body_len h h4
  unfold rget
  rw [pget_other (by omega) (by omega) (by omega) (by omega) hne (by decide) (encs_bytes _) (by omega), if_neg (by omega), if_pos (by decide)]
/-- The newest of two. -/
def rpick (u v : List Int) : Int × Int × Int × Int × Int × Int × Int × Int :=
  if (rget 0 u).2.2.2.2.2.2.2 ≠ 0 ∧ (rget 1 v).2.2.2.2.2.2.2 ≠ 0 then (0, 0, 0, 0, 0, 0, 0, 7)
  else if (rget 0 u).2.2.2.2.2.2.2 ≠ 0 ∨ ((rget 1 v).2.2.2.2.2.2.2 = 0 ∧ (rget 1 v).1 > (rget 0 u).1) then rget 1 v else rget 0 u
theorem rget_place {place : Int} {b : List Int} (h : (rget place b).2.2.2.2.2.2.2 = 0) : (rget place b).1 % 2 = place := by
  unfold rget at h ⊢
  by_cases c0 : place ≠ 0 ∧ place ≠ 1
  · rw [if_pos c0] at h
    exact absurd h (by decide)
  · rw [if_neg c0] at h ⊢
    by_cases c1 : (pget place b).2.2 ≠ 0
    · rw [if_pos c1] at h
      exact absurd h c1
    · rw [if_neg c1] at h ⊢
      by_cases c2 : (pget place b).1 = 1 ∧ Whole place (pget place b).2.1
      · rw [if_pos c2]
        exact c2.2.2.2.2.2.2.2.2.2.2
      · rw [if_neg c2] at h
        exact absurd h (by decide)
theorem eight {α : Type} (p : Int × Int × Int × Int × Int × Int × Int × Int) (h : p.2.2.2.2.2.2.2 = 0) : (p.1, p.2.1, p.2.2.1, p.2.2.2.1, p.2.2.2.2.1, p.2.2.2.2.2.1, p.2.2.2.2.2.2.1, (0 : Int)) = p := by
  obtain ⟨p1, p2, p3, p4, p5, p6, p7, p8⟩ := p
  dsimp only at h
  rw [h]
theorem rpick_none {u v : List Int} (c0 : (rget 0 u).2.2.2.2.2.2.2 ≠ 0) (c1 : (rget 1 v).2.2.2.2.2.2.2 ≠ 0) : rpick u v = (0, 0, 0, 0, 0, 0, 0, 7) := by unfold rpick; rw [if_pos ⟨c0, c1⟩]
theorem rpick_first {u v : List Int} (c0 : (rget 0 u).2.2.2.2.2.2.2 = 0) (c1 : (rget 1 v).2.2.2.2.2.2.2 ≠ 0 ∨ (rget 1 v).1 ≤ (rget 0 u).1) : rpick u v = rget 0 u := by unfold rpick; rw [if_neg (fun h => h.1 c0), if_neg (by omega)]
theorem rpick_second {u v : List Int} (c1 : (rget 1 v).2.2.2.2.2.2.2 = 0) (c0 : (rget 0 u).2.2.2.2.2.2.2 ≠ 0 ∨ (rget 0 u).1 < (rget 1 v).1) : rpick u v = rget 1 v := by unfold rpick; rw [if_neg (fun h => h.2 c1), if_pos (by omega)]
theorem rpick_f (k : Nat) (hk : 1000 < k) (u v : List Int) (hu : Bytes u) (hv : Bytes v) : root_Pick.f k u v = some (rpick u v) := by
  unfold root_Pick.f
  rw [rget_f k hk 0 u hu]
  simp only [Option.bind_some]
  rw [rget_f k hk 1 v hv]
  simp only [Option.bind_some]
  obtain ⟨k, rfl⟩ : ∃ m, k = m + 1 := ⟨k - 1, by omega⟩
  simp only [root_Pick.j0]
  by_cases c0 : (rget 0 u).2.2.2.2.2.2.2 = 0
  · rw [if_pos c0, if_neg (show ¬ (false = true) by decide), if_pos c0]
    by_cases c1 : (rget 1 v).2.2.2.2.2.2.2 = 0
    · rw [if_pos c1]
      by_cases c2 : (rget 1 v).1 > (rget 0 u).1
      · rw [if_pos c2, rpick_second c1 (Or.inr c2), eight (α := Int) _ c1]
      · rw [if_neg c2, rpick_first c0 (Or.inr (by omega)), eight (α := Int) _ c0]
    · rw [if_neg c1, rpick_first c0 (Or.inl c1), eight (α := Int) _ c0]
  · rw [if_neg c0]
    by_cases c1 : (rget 1 v).2.2.2.2.2.2.2 = 0
    · rw [if_neg (by rw [c1]; decide), if_neg c0, rpick_second c1 (Or.inl c0), eight (α := Int) _ c1]
    · rw [if_pos (bne_iff_ne.mpr c1), rpick_none c0 c1]
theorem refrpick_f (k : Nat) (hk : 2100 < k) (u v : List Int) (hu : Bytes u) (hv : Bytes v) : stookref16_Pick.f k u v = some (rpick u v) := by
  unfold stookref16_Pick.f
  rw [refrget_f k hk 0 u hu]
  simp only [Option.bind_some]
  rw [refrget_f k hk 1 v hv]
  simp only [Option.bind_some]
  obtain ⟨k, rfl⟩ : ∃ m, k = m + 1 := ⟨k - 1, by omega⟩
  simp only [stookref16_Pick.j0]
  have hp0 := rget_place (place := 0) (b := u)
  have hp1 := rget_place (place := 1) (b := v)
  by_cases c0 : (rget 0 u).2.2.2.2.2.2.2 = 0
  · rw [if_pos c0, if_neg (show ¬ (false = true) by decide), if_pos c0]
    have hp0 := hp0 c0
    by_cases c1 : (rget 1 v).2.2.2.2.2.2.2 = 0
    · rw [if_pos c1]
      have hp1 := hp1 c1
      by_cases c2 : (rget 0 u).1 > (rget 1 v).1
      · rw [if_pos c2, rpick_first c0 (Or.inr (by omega)), eight (α := Int) _ c0]
      · rw [if_neg c2, rpick_second c1 (Or.inr (by omega)), eight (α := Int) _ c1]
    · rw [if_neg c1, rpick_first c0 (Or.inl c1), eight (α := Int) _ c0]
  · rw [if_neg c0]
    by_cases c1 : (rget 1 v).2.2.2.2.2.2.2 = 0
    · rw [if_neg (by rw [c1]; decide), if_neg c0, rpick_second c1 (Or.inl c0), eight (α := Int) _ c1]
    · rw [if_pos (bne_iff_ne.mpr c1), rpick_none c0 c1]
theorem bytes_pput {n kind : Int} {l : List Int} (hk : 0 ≤ kind ∧ kind < 256) (hb : Bytes l) : Bytes (pput n kind l).1 := by
  unfold pput
  by_cases c0 : n < 0 ∨ n ≥ 65536
  · rw [if_pos c0]; intro x hx; cases hx
  · rw [if_neg c0]
    by_cases c1 : l.length > 496
    · rw [if_pos c1]; intro x hx; cases hx
    · rw [if_neg c1]
      exact Bytes.append (four_bytes _) (mid_bytes hk hb (by omega))
theorem bytes_rput (a b c d e f g : Int) : Bytes (rput a b c d e f g).1 := by
  unfold rput
  by_cases h : May a b c d e f g
  · rw [if_pos h]
    exact bytes_pput (by decide) (encs_bytes _)
  · rw [if_neg h]; intro x hx; cases hx
theorem rootlives_f (k : Nat) (hk : 2100 < k) : stooklaw16_lives.f k = some true := by
  have h : May 5 7 9 3 4 0 20 := by decide
  have e1 := rget_rput h (by decide)
  have e0 := rget_other h (by decide) 0 (Or.inl rfl) (by decide)
  rw [show (5 : Int) % 2 = 1 from rfl] at e1
  unfold stooklaw16_lives.f
  rw [rput_f k (by omega) 5 7 9 3 4 0 20 (by decide)]
  simp only [Option.bind_some]
  rw [rget_f k (by omega) 1 _ (bytes_rput _ _ _ _ _ _ _), e1]
  simp only [Option.bind_some]
  rw [rget_f k (by omega) 0 _ (bytes_rput _ _ _ _ _ _ _), e0]
  simp only [Option.bind_some]
  have e2 : (rput 5 7 9 3 4 0 20).2 = 0 := by
    have hlen := body_len h (by decide)
    rw [rput_yes h]
    unfold pput
    rw [if_neg (by decide), if_neg (by omega)]
  rw [if_pos e2, if_pos True.intro, if_pos (by decide), if_pos True.intro]
  unfold root_Place.f
  rw [tmod_two (by decide)]
  rfl
theorem rput_len (a b c d e f g : Int) : (rput a b c d e f g).1.length ≤ 512 := by
  unfold rput
  by_cases h : May a b c d e f g
  · rw [if_pos h]
    exact pput_len _ _ _
  · rw [if_neg h]
    exact Nat.zero_le _
end Go.Proofs.Ytkecgmoaojklbaa.Pure
