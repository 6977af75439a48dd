/- Shards: a head, records one behind the other, a foot: what Scan tells of them. -/
import Derived.Test.YtjefgdggjchhbaaPShardTwo
set_option linter.unusedVariables false
set_option linter.unusedSimpArgs false
namespace Go.Proofs.Ytjefgdggjchhbaa.Pure
open Go Go.RowKit Go.Proofs.Ytjefgdggjchhbaa.PAll Go.Proofs.Ytjefgdggjchhbaa.Crc Go.Proofs.Ytjefgdggjchhbaa.Leb Go.Proofs.YtjefgdggjchhbaaVW.PrintWords Go.Proofs.YtjefgdggjchhbaaVW.PrintLast
set_option maxRecDepth 100000
/-- The frame of a payload that has one. -/
def frm (p : List Int) : List Int := (enc p.length ++ p) ++ four (crcs (enc p.length ++ p))
theorem fput_frm {p : List Int} (h : p.length ≤ 65536) : fput p = (frm p, 0) := by unfold fput; rw [if_neg (by omega)]; rfl
theorem frm_len (p : List Int) : (frm p).length = (enc p.length).length + p.length + 4 := by
  unfold frm
  simp only [List.length_append, four_len]
theorem frm_bytes {p : List Int} (h : Bytes p) : Bytes (frm p) := Bytes.append (Bytes.append (bytes_enc _) h) (four_bytes _)
theorem frm_get (p : List Int) (h : p.length ≤ 65536) (a z : List Int) : fget (a ++ (frm p ++ z)) (a.length : Int) = (p, ((a.length + (frm p).length : Nat) : Int), 0) := by
  rw [← List.append_assoc]
  exact fput_get p (frm p) a z (fput_frm h)
theorem bput_frm {r : List Int} (h : r.length ≤ 65535) : bput r = (frm (114 :: r), 0) := by
  unfold bput
  rw [if_neg (by omega), fput_frm (by rw [List.length_cons]; omega)]
/-- Records, one behind the other, and where they stand. -/
def recs : List (List Int) → List Int
  | [] => []
  | r :: l => frm (114 :: r) ++ recs l
def starts : Nat → List (List Int) → List Int
  | _, [] => []
  | s, r :: l => (s : Int) :: starts (s + (frm (114 :: r)).length) l
theorem starts_len : ∀ (l : List (List Int)) (s : Nat), (starts s l).length = l.length
  | [], _ => rfl
  | r :: l, s => by rw [starts, List.length_cons, starts_len l, List.length_cons]
theorem recs_bytes : ∀ (l : List (List Int)), (∀ r ∈ l, Bytes r) → Bytes (recs l)
  | [], _ => fun x hx => by cases hx
  | r :: l, h => Bytes.append (frm_bytes (byte_cons (by decide) (h r List.mem_cons_self))) (recs_bytes l (fun q hq => h q (List.mem_cons_of_mem _ hq)))
theorem sl_recs (n : Int) : ∀ (l : List (List Int)) (pre z : List Int) (f : Nat) (ps : List Int), (∀ r ∈ l, r.length ≤ 65535) →
    sl (pre ++ (recs l ++ z)) (f + l.length) n ps (pre.length : Int) = sl (pre ++ (recs l ++ z)) f n (ps ++ starts pre.length l) ((pre.length + (recs l).length : Nat) : Int)
  | [], pre, z, f, ps, _ => by
    rw [recs, starts, List.append_nil]
    rfl
  | r :: l, pre, z, f, ps, h => by
    have hr := h r List.mem_cons_self
    have hb : pre ++ (recs (r :: l) ++ z) = pre ++ (frm (114 :: r) ++ (recs l ++ z)) := by rw [recs, List.append_assoc]
    rw [hb, List.length_cons, ← Nat.add_assoc, sl_succ, frm_get (114 :: r) (by rw [List.length_cons]; omega) pre (recs l ++ z)]
    dsimp only
    rw [if_neg (by rintro (h | h); exact h rfl; cases h), if_pos (show rd (114 :: r) 0 = 114 from rfl)]
    have ih := sl_recs n l (pre ++ frm (114 :: r)) z f (ps ++ [(pre.length : Int)]) (fun q hq => h q (List.mem_cons_of_mem _ hq))
    rw [List.append_assoc, List.length_append] at ih
    rw [ih, starts, recs, List.length_append, List.append_assoc]
    congr 2
    omega
/-- A head. -/
def headb (m : Nat) : List Int := frm (104 :: enc m)
theorem hput_headb {n : Int} (h0 : 0 ≤ n) (h1 : n ≤ 2147483647) : hput n = (headb n.toNat, 0) := by
  have he := enc_ten (n := n.toNat) (by omega)
  unfold hput headb
  rw [if_neg (by omega), fput_frm (by rw [List.length_cons]; omega)]
theorem sscan_head (m : Nat) (hm : m ≤ 2147483647) (z : List Int) : sscan (headb m ++ z) = sl (headb m ++ z) ((headb m ++ z).length + 1) (m : Int) [] ((headb m).length : Int) := by
  have he := enc_ten (n := m) (by omega)
  have hg : fget (headb m ++ z) 0 = (104 :: enc m, (((headb m).length : Nat) : Int), 0) := by
    have := frm_get (104 :: enc m) (by rw [List.length_cons]; omega) [] z
    rw [List.nil_append] at this
    rw [show (headb m ++ z) = frm (104 :: enc m) ++ z from rfl]
    refine Eq.trans this ?_
    rw [List.length_nil, Nat.zero_add]
    rfl
  have hn : gets (104 :: enc m) 1 = ((m : Int), (((104 :: enc m : List Int).length : Nat) : Int), 0) := by
    have := gets_enc [104] m [] (by omega)
    rw [List.append_nil] at this
    refine Eq.trans this ?_
    congr 2
    simp only [List.length_cons, List.length_nil]
    omega
  unfold sscan
  rw [hg]
  dsimp only
  rw [if_neg (by rintro (h | h | h); exact h rfl; cases h; exact h rfl), hn]
  dsimp only
  rw [if_neg (by rintro (h | h | h); exact h rfl; exact h rfl; omega)]
/-- Nothing is read where nothing stands. -/
theorem fget_end (b : List Int) (hb : Bytes b) : (fget b (b.length : Int)).2.2 ≠ 0 := by
  intro h
  obtain ⟨p, m, hg, hm, hle, _⟩ := fget_step b hb b.length h
  omega
theorem recs_count : ∀ l : List (List Int), 6 * l.length ≤ (recs l).length
  | [] => Nat.le_refl _
  | r :: l => by
    have h := recs_count l
    have he := enc_pos (114 :: r).length
    rw [recs, List.length_append, List.length_cons, frm_len, List.length_cons] at *
    omega
theorem sscan_recs (m : Nat) (hm : m ≤ 2147483647) (l : List (List Int)) (hl : ∀ r ∈ l, r.length ≤ 65535) (z : List Int) : ∃ f, sscan (headb m ++ (recs l ++ z)) = sl (headb m ++ (recs l ++ z)) (f + 1) (m : Int) (starts (headb m).length l) (((headb m).length + (recs l).length : Nat) : Int) := by
  rw [sscan_head m hm]
  have hlen := recs_count l
  obtain ⟨f, hf⟩ : ∃ f, (headb m ++ (recs l ++ z)).length + 1 = (f + 1) + l.length := ⟨(headb m ++ (recs l ++ z)).length - l.length, by simp only [List.length_append]; omega⟩
  refine ⟨f, ?_⟩
  rw [hf]
  have := sl_recs (m : Int) l (headb m) z (f + 1) [] hl
  rw [List.nil_append] at this
  exact this
/-- A whole shard: its records; with a foot behind it it is sealed, whatever stands behind that. -/
theorem sscan_whole (m : Nat) (hm : m ≤ 2147483647) (l : List (List Int)) (hl : ∀ r ∈ l, r.length ≤ 65535) (hb : ∀ r ∈ l, Bytes r) : sscan (headb m ++ recs l) = ((m : Int), starts (headb m).length l, false, (((headb m).length + (recs l).length : Nat) : Int), 0) := by
  obtain ⟨f, hf⟩ := sscan_recs m hm l hl []
  rw [List.append_nil] at hf
  rw [hf, sl_succ, if_pos (Or.inl ?_)]
  have hbb : Bytes (headb m ++ recs l) := Bytes.append (frm_bytes (byte_cons (by decide) (bytes_enc _))) (recs_bytes l hb)
  have := fget_end _ hbb
  rwa [List.length_append] at this
theorem sscan_sealed (m : Nat) (hm : m ≤ 2147483647) (l : List (List Int)) (hl : ∀ r ∈ l, r.length ≤ 65535) (hn : l.length < 18446744073709551616) (z : List Int) : sscan (headb m ++ (recs l ++ (frm (footp l.length (headb m ++ recs l)) ++ z))) =
    ((m : Int), starts (headb m).length l, true, (((headb m).length + (recs l).length + (frm (footp l.length (headb m ++ recs l))).length : Nat) : Int), 0) := by
  obtain ⟨f, hf⟩ := sscan_recs m hm l hl (frm (footp l.length (headb m ++ recs l)) ++ z)
  have hfl := foot_len l.length hn (headb m ++ recs l)
  have hg := frm_get (footp l.length (headb m ++ recs l)) (by omega) (headb m ++ recs l) z
  rw [List.append_assoc, List.length_append] at hg
  have hne : footp l.length (headb m ++ recs l) ≠ [] := by
    intro h
    rw [h] at hfl
    exact absurd hfl.2 (by decide)
  rw [hf, sl_succ, hg]
  dsimp only
  rw [if_neg (by rintro (h | h); exact h rfl; exact hne h), foot_first, if_neg (by decide), if_pos]
  rw [Int.toNat_natCast, starts_len, ← List.append_assoc, List.take_left' (by rw [List.length_append])]
theorem sfoot_whole (m : Nat) (hm : m ≤ 2147483647) (l : List (List Int)) (hl : ∀ r ∈ l, r.length ≤ 65535) (hb : ∀ r ∈ l, Bytes r) (hn : l.length < 18446744073709551616) : sfoot (headb m ++ recs l) = (frm (footp l.length (headb m ++ recs l)), 0) := by
  have hfl := foot_len l.length hn (headb m ++ recs l)
  unfold sfoot
  rw [sscan_whole m hm l hl hb]
  dsimp only
  rw [if_neg (by rintro (h | h | h); exact h rfl; cases h; exact h (by rw [List.length_append])), starts_len]
  exact fput_frm (by omega)
theorem shardlives_f (k : Nat) (hk : 100000 < k) : stooklaw21_lives.f k = some true := by
  have h5 : hput 5 = (headb 5, 0) := hput_headb (by decide) (by decide)
  have hx : bput [120] = (frm [114, 120], 0) := bput_frm (by decide)
  have h0 : bput [] = (frm [114], 0) := bput_frm (by decide)
  have hall : ([] ++ headb 5 ++ frm [114, 120] ++ frm [114] : List Int) = headb 5 ++ recs [[120], []] := by
    rw [recs, recs, recs, List.append_nil, List.nil_append, List.append_assoc]
  have hb : ∀ r ∈ ([[120], []] : List (List Int)), Bytes r := by
    intro r hr
    simp only [List.mem_cons, List.not_mem_nil, or_false] at hr
    rcases hr with rfl | rfl
    · exact byte_cons (by decide) (fun x hx => by cases hx)
    · exact fun x hx => by cases hx
  have hl : ∀ r ∈ ([[120], []] : List (List Int)), r.length ≤ 65535 := by
    intro r hr
    simp only [List.mem_cons, List.not_mem_nil, or_false] at hr
    rcases hr with rfl | rfl <;> decide
  have e5 : enc 5 = [5] := by rw [enc_lt (by decide)]; rfl
  have hl5 : (headb 5).length = 7 := by unfold headb; rw [frm_len, e5, enc_lt (by decide)]; rfl
  have hlx : (frm [114, 120]).length = 7 := by rw [frm_len, enc_lt (by decide)]; rfl
  have hl0 : (frm [114]).length = 6 := by rw [frm_len, enc_lt (by decide)]; rfl
  have hst : starts (headb 5).length [[120], []] = [7, 14] := by
    rw [hl5, starts, starts, starts, hlx]
    rfl
  have hrl : (recs [[120], []]).length = 13 := by rw [recs, recs, recs, List.append_nil, List.length_append, hlx, hl0]
  have hs := sscan_whole 5 (by decide) [[120], []] hl hb
  have hf : sfoot (headb 5 ++ recs [[120], []]) = (frm (footp 2 (headb 5 ++ recs [[120], []])), 0) := sfoot_whole 5 (by decide) [[120], []] hl hb (by decide)
  have hz : sscan (headb 5 ++ (recs [[120], []] ++ (frm (footp 2 (headb 5 ++ recs [[120], []])) ++ []))) = _ := sscan_sealed 5 (by decide) [[120], []] hl (by decide) []
  rw [List.append_nil] at hz
  rw [hst, hl5, hrl] at hs
  have hfl := foot_len 2 (by decide) (headb 5 ++ recs [[120], []])
  have hbb : Bytes (headb 5 ++ recs [[120], []]) := Bytes.append (frm_bytes (byte_cons (by decide) (bytes_enc _))) (recs_bytes _ hb)
  have hbl : (headb 5 ++ recs [[120], []]).length = 20 := by rw [List.length_append, hl5, hrl]
  have hfb : Bytes (frm (footp 2 (headb 5 ++ recs [[120], []]))) := frm_bytes (foot_bytes _ _)
  have hfl2 : (frm (footp 2 (headb 5 ++ recs [[120], []]))).length ≤ 40 := by
    have := enc_ten (n := (footp 2 (headb 5 ++ recs [[120], []])).length) (by omega)
    rw [frm_len]
    omega
  unfold stooklaw21_lives.f
  rw [head_f k (by omega), h5]
  simp only [Option.bind_some]
  rw [body_f k (by omega) [120] (hb _ (by simp)), hx]
  simp only [Option.bind_some]
  rw [body_f k (by omega) [] (hb _ (by simp)), h0]
  simp only [Option.bind_some]
  rw [if_pos (by rw [hl5]; decide), if_pos (by rw [List.length_append, hl5, hlx]; decide), if_pos (by rw [List.length_append, List.length_append, hl5, hlx, hl0]; decide)]
  rw [hall, scan_f k _ hbb (by omega) (by omega)]
  simp only [Option.bind_some]
  rw [sfoot_f k _ hbb (by omega) (by omega), hf]
  simp only [Option.bind_some]
  rw [if_pos (by show (headb 5 ++ recs [[120], []]).length + (frm (footp 2 (headb 5 ++ recs [[120], []]))).length < _; omega)]
  rw [scan_f k _ (Bytes.append hbb hfb) (by rw [List.length_append]; show (headb 5 ++ recs [[120], []]).length + (frm (footp 2 (headb 5 ++ recs [[120], []]))).length ≤ _; omega) (by rw [List.length_append]; show 4 * ((headb 5 ++ recs [[120], []]).length + (frm (footp 2 (headb 5 ++ recs [[120], []]))).length) + 90000 < k; omega)]
  simp only [Option.bind_some]
  rw [List.append_assoc, hz, hs]
  rw [if_pos (show (0 : Int) = 0 from rfl), if_pos trivial, if_pos (show (0 : Int) = 0 from rfl), if_pos (show ((5 : Nat) : Int) = 5 from rfl)]
  rw [ints_self k [7, 14] (by decide) (by show 2 < k; omega)]
  simp only [Option.bind_some]
  rw [if_pos trivial, if_neg (show ¬ (false = true) by decide), if_pos (show ((7 + 13 : Nat) : Int) = 20 from rfl)]
end Go.Proofs.Ytjefgdggjchhbaa.Pure
