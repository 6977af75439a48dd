/- Frames, and behind them a beginning of another one, are scanned as just these payloads: what the printed statement of FrameBack asks, where all together is small. Condition: the lengths' sum is at most 1048576. -/
import Derived.Test.YtdcggaaaknafmaaPFrame
import Derived.Test.YtdcggaaaknafmaaPAllx7
set_option linter.unusedVariables false
set_option linter.unusedSimpArgs false
namespace Go.Proofs.Ytdcggaaaknafmaa.Pure
open Go Go.RowKit Go.Proofs.Ytdcggaaaknafmaa.PAll Go.Proofs.Ytdcggaaaknafmaa.Crc Go.Proofs.Ytdcggaaaknafmaa.Leb Go.Proofs.YtdcggaaaknafmaaVW.PrintWords Go.Proofs.YtdcggaaaknafmaaVW.PrintLast
/-- A payload's frame; and payloads' frames, one behind the other. -/
def frm (p : List Int) : List Int := (enc p.length ++ p) ++ four (crcs (enc p.length ++ p))
def frms (l : List (List Int)) : List Int := l.flatMap frm
theorem fput_frm {p : List Int} (h : p.length ≤ 65536) : fput p = (frm p, 0) := by
  unfold fput frm
  rw [if_neg (by omega)]
theorem fput_no {p : List Int} (h : ¬ p.length ≤ 65536) : fput p = ([], 3) := by
  unfold fput
  rw [if_pos (by omega)]
theorem frm_len {p : List Int} (h : p.length ≤ 65536) : 5 ≤ (frm p).length ∧ (frm p).length ≤ p.length + 14 := by
  have h1 := enc_pos p.length
  have h2 := enc_ten (n := p.length) (by omega)
  unfold frm
  simp only [List.length_append, four_len]
  omega
theorem frm_bytes {p : List Int} (h : Bytes p) : Bytes (frm p) := ((bytes_enc _).append h).append (four_bytes _)
theorem frms_cons (p : List Int) (l : List (List Int)) : frms (p :: l) = frm p ++ frms l := rfl
theorem frms_snoc (l : List (List Int)) (p : List Int) : frms (l ++ [p]) = frms l ++ frm p := by simp [frms]
theorem frms_bytes : ∀ {l : List (List Int)}, (∀ p ∈ l, Bytes p) → Bytes (frms l)
  | [], _ => by intro x hx; simp [frms] at hx
  | p :: l, h => by
    rw [frms_cons]
    exact (frm_bytes (h p List.mem_cons_self)).append (frms_bytes (fun q hq => h q (List.mem_cons_of_mem _ hq)))
theorem frms_len : ∀ {l : List (List Int)}, (∀ p ∈ l, p.length ≤ 65536) → l.length ≤ (frms l).length ∧ (frms l).length ≤ (l.map List.length).sum + 14 * l.length
  | [], _ => by simp [frms]
  | p :: l, h => by
    have h1 := frm_len (h p List.mem_cons_self)
    have h2 := frms_len (l := l) (fun q hq => h q (List.mem_cons_of_mem _ hq))
    rw [frms_cons]
    simp only [List.length_append, List.length_cons, List.map_cons, List.sum_cons]
    omega
theorem scan_frames : ∀ (l : List (List Int)) (a z : List Int) (m : Nat), (∀ p ∈ l, p.length ≤ 65536) →
    fscan (a ++ frms l ++ z) (l.length + m) (a.length : Int) = (l ++ (fscan (a ++ frms l ++ z) m ((a.length + (frms l).length : Nat) : Int)).1, (fscan (a ++ frms l ++ z) m ((a.length + (frms l).length : Nat) : Int)).2)
  | [], a, z, m, _ => by simp [frms]
  | p :: l, a, z, m, h => by
    have hp := h p List.mem_cons_self
    have hl := frm_len hp
    have ih := scan_frames l (a ++ frm p) z m (fun q hq => h q (List.mem_cons_of_mem _ hq))
    have e : a ++ frms (p :: l) ++ z = (a ++ frm p) ++ frms l ++ z := by rw [frms_cons]; simp
    have e2 : a ++ frms (p :: l) ++ z = a ++ frm p ++ (frms l ++ z) := by rw [frms_cons]; simp
    have hg := fput_get p (frm p) a (frms l ++ z) (fput_frm hp)
    rw [← e2] at hg
    rw [← e] at ih
    rw [show (p :: l).length + m = (l.length + m) + 1 by rw [List.length_cons]; omega, fscan_succ, if_pos (by rw [e2]; simp only [List.length_append]; omega), hg, if_pos rfl]
    dsimp only
    rw [List.length_append] at ih
    rw [ih, frms_cons, List.length_append, Nat.add_assoc]
    rfl
/-- Behind the last frame: a beginning of a frame, or nothing. -/
theorem scan_end (a t : List Int) (ha : Bytes a) (ht : Bytes t) (htl : t.length ≤ 65536) (c : Nat) (hc : c < (frm t).length) (m : Nat) : ∃ e, fscan (a ++ (frm t).take c) (m + 1) (a.length : Int) = ([], (a.length : Int), e) := by
  rw [fscan_succ]
  by_cases h : (a.length : Int) < (a ++ (frm t).take c).length
  · rw [if_pos h]
    by_cases h0 : (fget (a ++ (frm t).take c) (a.length : Int)).2.2 = 0
    · exfalso
      have hb : Bytes (a ++ (frm t).take c) := ha.append ((frm_bytes ht).take c)
      have h1 := fget_more (a ++ (frm t).take c) ((frm t).drop c) (a.length : Int) hb h0
      rw [List.append_assoc, List.take_append_drop] at h1
      have h2 := fput_get t (frm t) a [] (fput_frm htl)
      rw [List.append_nil] at h2
      obtain ⟨p, n, hs, _, hn, _, _⟩ := fget_step (a ++ (frm t).take c) hb a.length h0
      rw [h2, hs] at h1
      simp only [Prod.mk.injEq] at h1
      have h3 := h1.2.1
      rw [List.length_append, List.length_take] at hn
      omega
    · rw [if_neg h0]
      exact ⟨_, rfl⟩
  · rw [if_neg h]
    exact ⟨0, rfl⟩
theorem scan_whole (l : List (List Int)) (hl : ∀ p ∈ l, p.length ≤ 65536) : fscan (frms l) ((frms l).length + 1) 0 = (l, ((frms l).length : Int), 0) := by
  have h := frms_len hl
  have hs := scan_frames l [] [] ((frms l).length - l.length + 1) hl
  have h2 : fscan ([] ++ frms l ++ []) ((frms l).length - l.length + 1) ((([] : List Int).length + (frms l).length : Nat) : Int) = ([], ((frms l).length : Int), 0) := by
    rw [fscan_succ, if_neg (by simp)]
    simp
  rw [h2, show l.length + ((frms l).length - l.length + 1) = (frms l).length + 1 by omega] at hs
  simp only [List.nil_append, List.append_nil, List.length_nil] at hs
  exact hs
theorem scan_cut (l : List (List Int)) (hl : ∀ p ∈ l, p.length ≤ 65536) (hb : ∀ p ∈ l, Bytes p) (t : List Int) (ht : Bytes t) (htl : t.length ≤ 65536) (c : Nat) (hc : c < (frm t).length) :
    ∃ e, fscan (frms l ++ (frm t).take c) ((frms l ++ (frm t).take c).length + 1) 0 = (l, ((frms l).length : Int), e) := by
  have h := frms_len hl
  obtain ⟨e, he⟩ := scan_end (frms l) t (frms_bytes hb) ht htl c hc ((frms l ++ (frm t).take c).length - l.length)
  have hs := scan_frames l [] ((frm t).take c) ((frms l ++ (frm t).take c).length - l.length + 1) hl
  rw [List.nil_append, show l.length + ((frms l ++ (frm t).take c).length - l.length + 1) = (frms l ++ (frm t).take c).length + 1 by rw [List.length_append]; omega, List.length_nil, Nat.zero_add, he] at hs
  simp only [List.append_nil] at hs
  exact ⟨e, hs⟩
theorem back_j (k : Nat) (hk : 40000000 < k) (l : List (List Int)) (hl : ∀ p ∈ l, p.length ≤ 65536) (hb : ∀ p ∈ l, Bytes p) (hn : l.length ≤ 1048576) (B : List Int) (hB : Bytes B) (hBl : B.length ≤ 20000000) (e : Int) (hs : fscan B (B.length + 1) 0 = (l, ((frms l).length : Int), e)) :
    stooklaw03_FrameBack.j1 (k + 1) l B l 0 ((frms l).length : Int) = some true := by
  simp only [stooklaw03_FrameBack.j1]
  rw [framescan_f k B hB (by omega) (by omega), bnd, hs, if_pos rfl]
  dsimp only
  rw [rows_self k l (by omega) hl (by omega), bnd, if_pos rfl, bnd, if_pos rfl, if_pos trivial, frameworks_f k (by omega), bnd]
theorem back_end (k : Nat) (hk : 40000002 < k) (l : List (List Int)) (hl : ∀ p ∈ l, p.length ≤ 65536) (hb : ∀ p ∈ l, Bytes p) (hu : (l.map List.length).sum + l.length ≤ 1048576) (t : List Int) (ht : Bytes t) (htl : t.length ≤ 1048576) (c : Int) (hc : -9223372036854775808 ≤ c ∧ c < 9223372036854775808) :
    stooklaw03_FrameBack.l0 (k + 1) l t c (frms l) (l.length : Int) = some true := by
  obtain ⟨k, rfl⟩ : ∃ m, k = m + 1 := ⟨k - 1, by omega⟩
  have hfl := frms_len hl
  have hfb := frms_bytes hb
  have hw := scan_whole l hl
  have hall : frame_All.f (k + 1) (frms l) = some (l, 0) := by
    rw [all_f (k + 1) (frms l) hfb (by omega) (by omega)]
    unfold fall
    rw [hw, if_pos rfl]
  simp only [stooklaw03_FrameBack.l0]
  rw [if_neg (by omega), hall, bnd, frameput_f (k + 1) t ht (by omega), bnd]
  by_cases htt : t.length ≤ 65536
  · have hft := frm_len htt
    have go : ∀ n : Nat, n < (frm t).length → stooklaw03_FrameBack.j1 (k + 1) l (frms l ++ (frm t).take n) l 0 ((frms l).length : Int) = some true := fun n hn => by
      obtain ⟨e, he⟩ := scan_cut l hl hb t ht htt n hn
      exact back_j k (by omega) l hl hb (by omega) _ (hfb.append ((frm_bytes ht).take n)) (by rw [List.length_append, List.length_take]; omega) e he
    rw [fput_frm htt, if_pos rfl]
    dsimp only
    rw [if_neg (by omega)]
    by_cases c0 : c < 0
    · rw [if_pos c0, w64 (by omega) (by omega), if_pos (by omega), if_pos (by omega), bnd, if_pos (by rw [List.length_take]; omega), show ((frm t).length : Int) - 1 = (((frm t).length - 1 : Nat) : Int) by omega, Int.toNat_natCast]
      exact go _ (by omega)
    · rw [if_neg c0]
      by_cases c1 : c ≥ ((frm t).length : Int)
      · rw [if_pos c1, w64 (by omega) (by omega), if_pos (by omega), if_pos (by omega), bnd, if_pos (by rw [List.length_take]; omega), show ((frm t).length : Int) - 1 = (((frm t).length - 1 : Nat) : Int) by omega, Int.toNat_natCast]
        exact go _ (by omega)
      · rw [if_neg c1, if_pos (by omega), if_pos (by omega), bnd, if_pos (by rw [List.length_take]; omega)]
        exact go _ (by omega)
  · rw [fput_no htt, if_neg (by decide)]
    exact back_j k (by omega) l hl hb (by omega) _ hfb (by omega) 0 hw
theorem back_l (l : List (List Int)) (hb : ∀ p ∈ l, Bytes p) (hu : (l.map List.length).sum + l.length ≤ 1048576) (t : List Int) (ht : Bytes t) (htl : t.length ≤ 1048576) (c : Int) (hc : -9223372036854775808 ≤ c ∧ c < 9223372036854775808) (d : Nat) :
    ∀ (k i : Nat), i + d = l.length → d + 40000010 < k → (∀ p ∈ l.take i, p.length ≤ 65536) → stooklaw03_FrameBack.l0 k l t c (frms (l.take i)) (i : Int) = some true := by
  induction d with
  | zero =>
    intro k i hi hk h
    obtain ⟨k, rfl⟩ : ∃ m, k = m + 1 := ⟨k - 1, by omega⟩
    have e : i = l.length := by omega
    subst e
    rw [List.take_length] at h ⊢
    exact back_end k (by omega) l h hb hu t ht htl c hc
  | succ d ih =>
    intro k i hi hk h
    obtain ⟨k, rfl⟩ : ∃ m, k = m + 1 := ⟨k - 1, by omega⟩
    have hil : i < l.length := by omega
    have e1 : rd_L2 l (i : Int) = l[i] := by
      unfold rd_L2
      rw [Int.toNat_natCast, List.getD_eq_getElem?_getD, List.getElem?_eq_getElem hil]
      rfl
    have hm : l[i] ∈ l := List.getElem_mem _
    have hpb := hb _ hm
    have hsum : ∀ (l : List (List Int)) (i : Nat), ((l.take i).map List.length).sum ≤ (l.map List.length).sum := by
      intro l
      induction l with
      | nil => intro i; simp
      | cons p l ih => intro i; cases i with
        | zero => simp
        | succ i => simp only [List.take_succ_cons, List.map_cons, List.sum_cons]; have := ih i; omega
    have hs := hsum l i
    have hfl := frms_len h
    have htk : (l.take i).length ≤ l.length := by rw [List.length_take]; omega
    simp only [stooklaw03_FrameBack.l0]
    rw [if_pos (by omega), if_pos (by omega), e1, frameput_f k _ hpb (by omega), bnd]
    by_cases hp : (l[i]).length ≤ 65536
    · have hfp := frm_len hp
      rw [fput_frm hp, if_pos rfl]
      dsimp only
      rw [if_pos (by omega), w64 (by omega) (by omega), show (i : Int) + 1 = ((i + 1 : Nat) : Int) by omega, ← frms_snoc, ← List.take_succ_eq_append_getElem hil]
      refine ih k (i + 1) (by omega) (by omega) (fun p hpm => ?_)
      rw [List.take_succ_eq_append_getElem hil] at hpm
      rcases List.mem_append.1 hpm with q | q
      · exact h p q
      · rw [List.mem_singleton.1 q]; exact hp
    · rw [fput_no hp, if_neg (by decide), if_pos (by omega), frameworks_f k (by omega), bnd]
theorem FrameBackU (l : List (List Int)) (t : List Int) (c : Int) (hb : ∀ p ∈ l, Bytes p) (ht : Bytes t) (hc : (Lit.int .i64 c).wf = true) (hu : (l.map List.length).sum + l.length ≤ 1048576) (htl : t.length ≤ 1048576) : ∃ k, stooklaw03_FrameBack.f k l t c = some true := by
  refine ⟨60000000, ?_⟩
  unfold stooklaw03_FrameBack.f
  have h := back_l l hb hu t ht htl c (i64_wf hc) l.length 60000000 0 (by omega) (by omega) (fun p hp => by simp at hp)
  rw [List.take_zero] at h
  exact h
end Go.Proofs.Ytdcggaaaknafmaa.Pure
