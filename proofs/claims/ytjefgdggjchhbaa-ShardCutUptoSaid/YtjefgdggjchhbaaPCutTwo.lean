/- A shard that is cut anywhere: what the printed walk asks. -/
import Derived.Test.YtjefgdggjchhbaaPCut
import Derived.Test.YtjefgdggjchhbaaCutPrint
set_option linter.unusedVariables false
set_option linter.unusedSimpArgs false
namespace Go.Proofs.Ytjefgdggjchhbaa.Pure
open Go Go.RowKit Go.Proofs.Ytjefgdggjchhbaa.PAll Go.Proofs.Ytjefgdggjchhbaa.Crc Go.Proofs.Ytjefgdggjchhbaa.Leb Go.Proofs.YtjefgdggjchhbaaVW.PrintWords Go.Proofs.YtjefgdggjchhbaaVW.PrintLast
set_option maxRecDepth 100000
theorem recs_small : ∀ (l : List (List Int)), (∀ r ∈ l, r.length ≤ 300) → (recs l).length ≤ 330 * l.length
  | [], _ => Nat.le_refl _
  | r :: l, h => by
    have h1 := recs_small l (fun q hq => h q (List.mem_cons_of_mem _ hq))
    have h2 := h r List.mem_cons_self
    have h3 := enc_ten (n := (114 :: r).length) (by rw [List.length_cons]; omega)
    rw [recs, List.length_append, frm_len, List.length_cons, List.length_cons]
    rw [List.length_cons] at h3
    omega
theorem headb_small (m : Nat) (hm : m ≤ 2147483647) : (headb m).length ≤ 30 := by
  have h1 := enc_ten (n := m) (by omega)
  have h2 := enc_ten (n := (104 :: enc m).length) (by rw [List.length_cons]; omega)
  unfold headb
  rw [frm_len, List.length_cons]
  rw [List.length_cons] at h2
  omega
section
variable (m : Nat) (hm : m ≤ 2147483647) (l : List (List Int)) (h20 : l.length ≤ 20) (hl : ∀ r ∈ l, r.length ≤ 300) (hb : ∀ r ∈ l, Bytes r) (more : List Int) (hmb : Bytes more) (hml : more.length ≤ 1048576)
include hm h20 hl hb hmb hml
theorem cut_j5 (k : Nat) (hk : 5000000 < k) : stooklaw21_ShardCut.j5 k more (headb m ++ recs l) (ends (headb m).length l) false = some true := by
  obtain ⟨k, rfl⟩ : ∃ i, k = i + 1 := ⟨k - 1, by omega⟩
  have a1 := recs_small l hl
  have a2 := headb_small m hm
  have hl2 : ∀ r ∈ l, r.length ≤ 65535 := fun r hr => by have := hl r hr; omega
  have bb : Bytes (headb m ++ recs l) := (headb_bytes m).append (recs_bytes l hb)
  have bl : (headb m ++ recs l).length ≤ 6630 := by rw [List.length_append]; omega
  have fl := foot_len l.length (by omega) (headb m ++ recs l)
  have fe := enc_ten (n := (footp l.length (headb m ++ recs l)).length) (by omega)
  have f2 := frm_len (footp l.length (headb m ++ recs l))
  have fb : Bytes (frm (footp l.length (headb m ++ recs l))) := frm_bytes (foot_bytes _ _)
  have sl1 := sscan_sealed m hm l hl2 (by omega) []
  have sl2 := sscan_sealed m hm l hl2 (by omega) more
  rw [List.append_nil, ← List.append_assoc] at sl1
  rw [← List.append_assoc, ← List.append_assoc] at sl2
  have sfo := sfoot_whole m hm l hl2 hb (by omega)
  have pl := starts_len l (headb m).length
  obtain ⟨B, hB⟩ : ∃ B, B = headb m ++ recs l := ⟨_, rfl⟩
  have Bl : B.length = (headb m).length + (recs l).length := by rw [hB, List.length_append]
  rw [← hB] at bb bl fl fe f2 fb sl1 sl2 sfo ⊢
  obtain ⟨F, hF⟩ : ∃ F, F = frm (footp l.length B) := ⟨_, rfl⟩
  rw [← hF] at f2 fb sl1 sl2 sfo
  have e1 : shard_Scan.f k (B ++ F) = some ((m : Int), starts (headb m).length l, true, (((headb m).length + (recs l).length + F.length : Nat) : Int), 0) := by
    rw [scan_f k (B ++ F) (bb.append fb) (by rw [List.length_append]; omega) (by rw [List.length_append]; omega), sl1]
  have e2 : shard_Scan.f k ((B ++ F) ++ more) = some ((m : Int), starts (headb m).length l, true, (((headb m).length + (recs l).length + F.length : Nat) : Int), 0) := by
    rw [scan_f k ((B ++ F) ++ more) ((bb.append fb).append hmb) (by rw [List.length_append, List.length_append]; omega) (by rw [List.length_append, List.length_append]; omega), sl2]
  have e3 : stookref00_Copy.f (B ++ F) = some (B ++ F) := by
    unfold stookref00_Copy.f
    rw [if_pos (by rw [List.length_append]; simp only [List.length_nil]; omega), List.nil_append]
  simp only [stooklaw21_ShardCut.j5]
  rw [if_neg (by decide), sfoot_f k B bb (by omega) (by omega), bnd, sfo, if_pos rfl]
  dsimp only
  rw [if_pos (by omega), bnd, e1, bnd, e3, bnd, if_pos (by rw [List.length_append]; omega), e2, bnd]
  dsimp only
  rw [if_pos rfl, if_pos rfl, same21_self k _ _ _ _ (by omega) (by omega), bnd, if_pos rfl, if_pos rfl, if_pos (by rw [List.length_append]; omega), if_pos (by rw [pl, ends_len]), shardlives_f k (by omega), bnd]
theorem cut_j4 (k : Nat) (hk : 5000001 < k) (n : Nat) (x10 p0 p3 : Int) (ps : List Int) (c : Nat)
    (hs : sscan ((headb m ++ recs l).take n) = (p0, ps, false, p3, x10)) (hx : (n < (headb m).length ∧ x10 = 5) ∨ ((headb m).length ≤ n ∧ x10 = 0 ∧ p0 = (m : Int) ∧ ps.length = c)) :
    stooklaw21_ShardCut.j4 k (m : Int) more (headb m ++ recs l) x10 ((headb m).length : Int) (ends (headb m).length l) (n : Int) (c : Int) p0 ps false p3 = some true := by
  obtain ⟨k, rfl⟩ : ∃ i, k = i + 1 := ⟨k - 1, by omega⟩
  have J := cut_j5 m hm l h20 hl hb more hmb hml k (by omega)
  simp only [stooklaw21_ShardCut.j4]
  rcases hx with ⟨h1, rfl⟩ | ⟨h1, rfl, rfl, h4⟩
  · rw [decide_eq_false (by omega : ¬ ((n : Int) ≥ ((headb m).length : Int))), if_neg (by decide), if_neg (by decide)]
    exact J
  · rw [decide_eq_true (by omega : (n : Int) ≥ ((headb m).length : Int)), if_neg (by decide), if_pos rfl, if_pos (by omega), if_neg (by decide), bne_self_eq_false]
    exact J
end
theorem rd_drop (l : List Int) (i : Nat) (h : i < l.length) : ∃ t, l.drop i = rd l (i : Int) :: t ∧ l.drop (i + 1) = t := by
  refine ⟨l.drop (i + 1), ?_, rfl⟩
  rw [List.drop_eq_getElem_cons h]
  unfold rd
  rw [Int.toNat_natCast, List.getD_eq_getElem?_getD, List.getElem?_eq_getElem h]
  rfl
theorem cut_l1 (x0 : Int) (x3 x9 : List Int) (x10 x11 : Int) (x12 : List Int) (n p0 : Int) (ps : List Int) (sd : Bool) (p3 : Int) (d : Nat) : ∀ (k i : Nat), i + d = x12.length → x12.length ≤ 100 → d < k →
    ∃ k', k ≤ k' + d + 1 ∧ stooklaw21_ShardCut.l1 k x0 x3 x9 x10 x11 x12 n (i : Int) p0 ps sd p3 = stooklaw21_ShardCut.j4 k' x0 x3 x9 x10 x11 x12 n ((i + cntn (x12.drop i) n : Nat) : Int) p0 ps sd p3 := by
  induction d with
  | zero =>
    intro k i hi h100 hk
    obtain ⟨k, rfl⟩ : ∃ j, k = j + 1 := ⟨k - 1, by omega⟩
    refine ⟨k, by omega, ?_⟩
    simp only [stooklaw21_ShardCut.l1]
    rw [if_neg (by omega), List.drop_of_length_le (by omega), cntn, Nat.add_zero]
  | succ d ih =>
    intro k i hi h100 hk
    obtain ⟨k, rfl⟩ : ∃ j, k = j + 1 := ⟨k - 1, by omega⟩
    obtain ⟨t, e1, e2⟩ := rd_drop x12 i (by omega)
    simp only [stooklaw21_ShardCut.l1]
    rw [if_pos (by omega), if_pos (by omega), e1, cntn]
    by_cases h : rd x12 (i : Int) ≤ n
    · obtain ⟨k', hk', e⟩ := ih k (i + 1) (by omega) h100 (by omega)
      refine ⟨k', by omega, ?_⟩
      rw [if_pos h, if_pos h, w64 (by omega) (by omega), show (i : Int) + 1 = ((i + 1 : Nat) : Int) by omega, e, e2]
      congr 2
      omega
    · exact ⟨k, by omega, by rw [if_neg h, if_neg h, Nat.add_zero]⟩
section
variable (m : Nat) (hm : m ≤ 2147483647) (l : List (List Int)) (h20 : l.length ≤ 20) (hl : ∀ r ∈ l, r.length ≤ 300) (hb : ∀ r ∈ l, Bytes r) (more : List Int) (hmb : Bytes more) (hml : more.length ≤ 1048576)
include hm h20 hl hb hmb hml
theorem cut_j2 (k : Nat) (hk : 6000000 < k) (x2 : Int) (h2 : 0 ≤ x2) : stooklaw21_ShardCut.j2 k (m : Int) x2 more (headb m ++ recs l) ((headb m).length : Int) (ends (headb m).length l) = some true := by
  obtain ⟨k, rfl⟩ : ∃ i, k = i + 1 := ⟨k - 1, by omega⟩
  have a1 := recs_small l hl
  have a2 := headb_small m hm
  have hl2 : ∀ r ∈ l, r.length ≤ 65535 := fun r hr => by have := hl r hr; omega
  have bb : Bytes (headb m ++ recs l) := (headb_bytes m).append (recs_bytes l hb)
  have bl : (headb m ++ recs l).length ≤ 6630 := by rw [List.length_append]; omega
  have bl2 : (headb m ++ recs l).length = (headb m).length + (recs l).length := List.length_append
  have et : Int.tmod x2 (((headb m ++ recs l).length : Int) + 1) = x2 % (((headb m ++ recs l).length : Int) + 1) := Int.tmod_eq_emod_of_nonneg h2
  have e0 : 0 ≤ x2 % (((headb m ++ recs l).length : Int) + 1) := Int.emod_nonneg _ (by omega)
  have e1 : x2 % (((headb m ++ recs l).length : Int) + 1) < ((headb m ++ recs l).length : Int) + 1 := Int.emod_lt_of_pos _ (by omega)
  obtain ⟨n, hn⟩ : ∃ n : Nat, x2 % (((headb m ++ recs l).length : Int) + 1) = (n : Int) := ⟨_, (Int.toNat_of_nonneg e0).symm⟩
  rw [hn] at et e0 e1
  simp only [stooklaw21_ShardCut.j2]
  rw [w64 (i := ((headb m ++ recs l).length : Int) + 1) (by omega) (by omega), if_neg (by omega), et, if_pos (by omega), if_pos (by omega), Int.toNat_natCast, scan_f k _ (bb.take n) (by rw [List.length_take]; omega) (by rw [List.length_take]; omega), bnd]
  have key : ∃ (p0 : Int) (ps : List Int) (p3 x10 : Int), sscan ((headb m ++ recs l).take n) = (p0, ps, false, p3, x10) ∧ ((n < (headb m).length ∧ x10 = 5) ∨ ((headb m).length ≤ n ∧ x10 = 0 ∧ p0 = (m : Int) ∧ ps.length = cntn (ends (headb m).length l) (n : Int))) := by
    by_cases hh : n < (headb m).length
    · refine ⟨0, [], 0, 5, ?_, Or.inl ⟨hh, rfl⟩⟩
      rw [List.take_append_of_le_length (by omega), sscan_short m hm n hh]
    · obtain ⟨en, he⟩ := sscan_cutn m hm l hl2 hb (n - (headb m).length)
      refine ⟨(m : Int), starts (headb m).length (l.take (cutn l (n - (headb m).length))), en, 0, ?_, Or.inr ⟨by omega, rfl, rfl, ?_⟩⟩
      · rw [List.take_append, List.take_of_length_le (by omega : (headb m).length ≤ n)]
        exact he
      · have hc := cntn_ends l (headb m).length (n - (headb m).length)
        rw [show (headb m).length + (n - (headb m).length) = n by omega] at hc
        have := cutn_le l (n - (headb m).length)
        rw [hc, starts_len, List.length_take]
        omega
  obtain ⟨p0, ps, p3, x10, hs, hx⟩ := key
  rw [hs]
  dsimp only
  obtain ⟨k', hk', e⟩ := cut_l1 (m : Int) more (headb m ++ recs l) x10 ((headb m).length : Int) (ends (headb m).length l) (n : Int) p0 ps false p3 (ends (headb m).length l).length k 0 (by omega) (by rw [ends_len]; omega) (by rw [ends_len]; omega)
  rw [ends_len] at hk'
  rw [List.drop_zero, Nat.zero_add] at e
  refine Eq.trans e ?_
  exact cut_j4 m hm l h20 hl hb more hmb hml k' (by omega) n x10 p0 p3 ps _ hs hx
theorem cut_end (k : Nat) (hk : 6000001 < k) (all : List (List Int)) (x13 x2 : Int) (h2 : -9223372036854775808 ≤ x2) : stooklaw21_ShardCut.j1 k (m : Int) all x2 more (headb m ++ recs l) ((headb m).length : Int) (ends (headb m).length l) x13 false = some true := by
  obtain ⟨k, rfl⟩ : ∃ i, k = i + 1 := ⟨k - 1, by omega⟩
  simp only [stooklaw21_ShardCut.j1]
  rw [if_neg (by decide)]
  by_cases h : x2 < 0
  · rw [if_pos h, w64 (i := x2 + 1) (by omega) (by omega), w64 (by omega) (by omega)]
    exact cut_j2 m hm l h20 hl hb more hmb hml k (by omega) _ (by omega)
  · rw [if_neg h]
    exact cut_j2 m hm l h20 hl hb more hmb hml k (by omega) _ (by omega)
end
theorem cut_l0 (m : Nat) (hm : m ≤ 2147483647) (l : List (List Int)) (hln : l.length ≤ 1048576) (hb : ∀ r ∈ l, Bytes r) (more : List Int) (hmb : Bytes more) (hml : more.length ≤ 1048576) (x2 : Int) (h2 : -9223372036854775808 ≤ x2 ∧ x2 < 9223372036854775808) (d : Nat) : ∀ (k i : Nat), i + d = l.length → i ≤ 20 → 2 * d + 6000010 < k → (∀ r ∈ l.take i, r.length ≤ 300) →
    stooklaw21_ShardCut.l0 k (m : Int) l x2 more (headb m ++ recs (l.take i)) ((headb m).length : Int) (ends (headb m).length (l.take i)) (i : Int) = some true := by
  induction d with
  | zero =>
    intro k i hi h20 hk h3
    obtain ⟨k, rfl⟩ : ∃ j, k = j + 1 := ⟨k - 1, by omega⟩
    simp only [stooklaw21_ShardCut.l0]
    rw [if_neg (by omega)]
    exact cut_end m hm (l.take i) (by rw [List.length_take]; omega) h3 (fun r hr => hb r (List.mem_of_mem_take hr)) more hmb hml k (by omega) l _ _ h2.1
  | succ d ih =>
    intro k i hi h20 hk h3
    obtain ⟨k, rfl⟩ : ∃ j, k = j + 1 := ⟨k - 1, by omega⟩
    have hil : i < l.length := by omega
    have fin : ∀ x13, stooklaw21_ShardCut.j1 k (m : Int) l x2 more (headb m ++ recs (l.take i)) ((headb m).length : Int) (ends (headb m).length (l.take i)) x13 false = some true := fun x13 =>
      cut_end m hm (l.take i) (by rw [List.length_take]; omega) h3 (fun r hr => hb r (List.mem_of_mem_take hr)) more hmb hml k (by omega) l _ _ h2.1
    simp only [stooklaw21_ShardCut.l0]
    rw [if_pos (by omega)]
    by_cases hc : i < 20
    · have e1 : rd_L3 l (i : Int) = l[i] := by
        unfold rd_L3
        rw [Int.toNat_natCast, List.getD_eq_getElem?_getD, List.getElem?_eq_getElem hil]
        rfl
      rw [if_pos (by omega), if_pos (by omega), e1]
      by_cases hs : l[i].length ≤ 300
      · rw [decide_eq_true (by omega : ((l[i].length : Nat) : Int) ≤ 300)]
        obtain ⟨k, rfl⟩ : ∃ j, k = j + 1 := ⟨k - 1, by omega⟩
        have hbi := hb l[i] (List.getElem_mem _)
        have a1 := recs_small (l.take i) h3
        have a2 := headb_small m hm
        have a3 : (l.take i).length ≤ 20 := by rw [List.length_take]; omega
        have a4 : (frm (114 :: l[i])).length ≤ 330 := by
          have := enc_ten (n := (114 :: l[i]).length) (by rw [List.length_cons]; omega)
          rw [frm_len, List.length_cons]
          rw [List.length_cons] at this
          omega
        simp only [stooklaw21_ShardCut.j1]
        rw [if_pos trivial, if_pos (by omega), if_pos (by omega), e1, body_f k (by omega) _ hbi, bnd, bput_frm (by omega), if_pos rfl]
        dsimp only
        rw [size_f k (by omega) _ hs, bnd, if_pos rfl, if_pos (by rw [List.length_append]; omega), bnd, if_pos (by rw [ends_len]; omega), w64 (by omega) (by omega)]
        have hn := ih k (i + 1) (by omega) (by omega) (by omega) (by
          intro r hr
          rw [List.take_add_one, List.getElem?_eq_getElem hil, Option.toList_some] at hr
          rcases List.mem_append.1 hr with h | h
          · exact h3 r h
          · rw [List.mem_singleton] at h
            rw [h]
            exact hs)
        rw [List.take_add_one, List.getElem?_eq_getElem hil, Option.toList_some, recs_snoc, ends_snoc, ← List.append_assoc] at hn
        rw [show (i : Int) + 1 = ((i + 1 : Nat) : Int) by omega, List.length_append, List.length_append]
        exact hn
      · rw [decide_eq_false (by omega : ¬ ((l[i].length : Nat) : Int) ≤ 300)]
        exact fin _
    · rw [if_neg (by omega)]
      exact fin _
theorem cut_f (k : Nat) (a0 : Int) (l : List (List Int)) (hln : l.length ≤ 1048576) (hb : ∀ r ∈ l, Bytes r) (more : List Int) (hmb : Bytes more) (hml : more.length ≤ 1048576) (x2 : Int) (h2 : -9223372036854775808 ≤ x2 ∧ x2 < 9223372036854775808) (hk : 9000000 < k) : stooklaw21_ShardCut.f k a0 l x2 more = some true := by
  unfold stooklaw21_ShardCut.f
  rw [head_f k (by omega), bnd]
  by_cases h0 : 0 ≤ a0 ∧ a0 ≤ 2147483647
  · obtain ⟨m, rfl⟩ := Int.eq_ofNat_of_zero_le h0.1
    rw [hput_headb h0.1 h0.2, if_pos rfl, Int.toNat_natCast]
    dsimp only
    have := cut_l0 m (by omega) l hln hb more hmb hml x2 h2 l.length k 0 (by omega) (by omega) (by omega) (by intro r hr; rw [List.take_zero] at hr; cases hr)
    rw [List.take_zero, recs, ends, List.append_nil] at this
    exact this
  · have e : hput a0 = ([], 2) := by
      unfold hput
      rw [if_pos (by omega)]
    rw [e, if_neg (by decide), shardlives_f k (by omega), bnd]
end Go.Proofs.Ytjefgdggjchhbaa.Pure
