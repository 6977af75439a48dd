/- The walk of DealFresh, by hand: what is handed in stays; what is answered is new memory. -/
import Derived.Test.YtemmjinfeaafdaaBackFull
import Derived.Test.YtemmjinfeaafdaaSpoil
import Derived.Test.YtemmjinfeaafdaaPDealB
import Derived.Test.YtemmjinfeaafdaaPAllx9
import Derived.Test.YtemmjinfeaafdaaPAllx4
import Derived.Test.YtemmjinfeaafdaaPAllx8
import Derived.Test.YtemmjinfeaafdaaPAllx13
set_option linter.unusedVariables false
set_option linter.unusedSimpArgs false
namespace Go.Proofs.Ytemmjinfeaafdaa.PAll
open Go.RowKit Go.Proofs.YtemmjinfeaafdaaVW.PrintWords Go.Proofs.YtemmjinfeaafdaaVW.PrintLast Go.Proofs.YtemmjinfeaafdaaVW.PrintMore Go.Proofs.Ytemmjinfeaafdaa.Hand
attribute [local go_sem] max2_int min2_int max_two min_two max_three min_three max_four min_four   -- for this text's walks alone

/-! ### stooklaw06_DealFresh: function 7 -/
theorem turn_some (l : List Int) : ∃ t1 t2, deal_Turn.f 131080 l = some (t1, t2) := by
  rcases Pure.three l with hn | ⟨hn, ho⟩ | ⟨hn, f, g, e, h⟩
  · exact ⟨_, _, Pure.turn_long hn _⟩
  · exact ⟨_, _, Pure.turn_no hn ho _ (by omega)⟩
  · exact ⟨_, _, Pure.turn_yes hn e h _ (by omega)⟩
theorem take_some (l m : List Int) : ∃ (t1 : List Int) (t2 : Int), deal_Take.f 131080 l m = some (t1, t2) ∧ t1.length ≤ 65536 := by
  rcases Pure.three l with hn | ⟨hn, ho⟩ | ⟨hn, f, g, e, h⟩
  · exact ⟨_, _, Pure.take_long hn _ _, by simp⟩
  · exact ⟨_, _, Pure.take_no hn ho _ _ (by omega), by simp⟩
  · by_cases hm : m.length = l.length
    · exact ⟨_, _, Pure.take_yes hn e h hm _ (by omega), by rw [Pure.taken_len]; exact hn⟩
    · exact ⟨_, _, Pure.take_len hn e h hm _ (by omega), by simp⟩
/-- A row that lies from a place on, and other rows that are written ahead of that place. -/
theorem R_ahead {w w1 : World} {base : Nat} {v : Value} {xs : List Int} (h : Kd.R (Kd.int .u64) 40 w base (fun _ => True) v xs) (hk : ∀ k, base ≤ k → k < w.heap.size → w1.heap[k]? = w.heap[k]?) : Kd.R (Kd.int .u64) 40 w1 base (fun _ => True) v xs :=
  Kd.R_mono (Kd.R_step (Kd.R_mono (Kd.R_bound h) (fun k q => q.2.1)) (fun k q ql => hk k q ql)) (fun _ _ => trivial)
set_option maxHeartbeats 8000000 in
set_option maxRecDepth 100000 in
theorem fresh_walk (A0 : Option Addr) (c0 : Nat) (l0 : List Int) (A1 : Option Addr) (c1 : Nat) (l1 : List Int) (w : World) (hr0 : Kd.C (Kd.int .i64) w A0 l0.length l0) (hc0 : l0.length ≤ c0) (hr1 : Kd.C (Kd.int .u64) w A1 l1.length l1) (hc1 : l1.length ≤ c1)
    (hl0 : l0.length < 17592186044416) (hl1 : l1.length < 17592186044416) :
    Calls Try.prog 7 #[.slice A0 l0.length c0, .slice A1 l1.length c1] w fun e w' => e = .returned (.bool true) ∧ Below w.heap.size w w' := by
  have HR0 := Aside0.mk hr0
  have HC0 := Aside0.mk hc0
  have HR1 := Aside0.mk hr1
  have HC1 := Aside0.mk hc1
  have hq : stookref00_CopyInts.f l0 = some l0 := by unfold stookref00_CopyInts.f; rw [if_pos (by rw [List.length_nil]; omega), List.nil_append]
  have hm : stookref00_CopyWords.f l1 = some l1 := by unfold stookref00_CopyWords.f; rw [if_pos (by rw [List.length_nil]; omega), List.nil_append]
  have HQ := Aside0.mk hq
  have HM := Aside0.mk hm
  obtain ⟨t1, t2, hT⟩ := turn_some l0
  obtain ⟨k1, k2, hK, hk16⟩ := take_some l0 l1
  have HT := Aside0.mk hT
  have HK := Aside0.mk hK
  have HI := Aside0.mk (Pure.ints_f (l0.length + 1) l0 l0 (by omega) (by omega))
  have HW := Aside0.mk (Pure.words_f (l1.length + 1) l1 l1 (by omega) (by omega))
  have HL := Aside0.mk (Pure.works_f 131080 (by omega))
  rw [decide_eq_true rfl] at HI HW
  clear hr0 hc0 hr1 hc1 hq hm hT hK hl0 hl1
  go_enter Try.func7, Try.ntmps7
  go_wp2_with (first | (go_at_call 25; refine (stookref00_CopyInts.calls A0 c0 l0 l0 w HR0.out HC0.out HQ.out).mono ?_; rintro e w1 ⟨vq, rfl, hoq, hb1⟩; obtain ⟨Aq, cq, eq_⟩ := Kd.R_slice hoq; subst eq_) | (go_at_call 26; refine (stookref00_CopyWords.calls A1 c1 l1 l1 w1 (Kd.C_below HR1.out hb1) HC1.out HM.out).mono ?_; rintro e w2 ⟨vm, rfl, hom, hb2⟩; obtain ⟨Am, cm, em_⟩ := Kd.R_slice hom; subst em_; have HOQ := Aside0.mk (Kd.R_below hoq hb2); have HOM := Aside0.mk hom; have HB2 := Aside0.mk (below_step hb1 hb2); clear hoq hom hb1 hb2) | (go_at_call 16; refine (back_full 131080 Aq cq l0 w2 (Kd.R_reads' HOQ.out).2.2 (Kd.R_reads' HOQ.out).2.1 t1 t2 HT.out).mono ?_; rintro e w3 ⟨va, ⟨xa, rfl⟩, hFa, hb3⟩; have HFA := Aside0.mk hFa; have HB3 := Aside0.mk hb3; clear hFa hb3) | (go_at_call 18; refine (turn_full Aq cq l0 w3 (Kd.C_below (Kd.R_reads' HOQ.out).2.2 HB3.out)).mono ?_; rintro e w4 ⟨vb, ⟨xb, rfl⟩, hFb, hb4⟩; have HFB := Aside0.mk hFb; have HB4 := Aside0.mk hb4; clear hFb hb4) | (go_at_call 22; refine (deal_Take.calls 131080 Aq cq l0 Am cm l1 k1 k2 w4 (Kd.C_below (Kd.C_below (Kd.R_reads' HOQ.out).2.2 HB3.out) HB4.out) (Kd.R_reads' HOQ.out).2.1 (Kd.C_below (Kd.C_below (Kd.R_reads' HOM.out).2.2 HB3.out) HB4.out) (Kd.R_reads' HOM.out).2.1 HK.out).mono ?_; rintro e w5 ⟨vc, rfl, hoc, hb5⟩; obtain ⟨Ac, cc, ec_⟩ := Kd.R_slice hoc; subst ec_; have HOC := Aside0.mk hoc; have HB5 := Aside0.mk hb5; clear hoc hb5) | (go_at_call 27; (with_reducible refine (spoil_full w2.heap.size va w5 ((HFA.out.below HB4.out).below HB5.out) (Nat.le_trans HB3.out.size (Nat.le_trans HB4.out.size HB5.out.size))).mono ?_); rintro e w6 ⟨rfl, hb6, hk6, hf6⟩; have HB6 := Aside0.mk hb6; have HK6 := Aside0.mk hk6; have HF6 := Aside0.mk (hf6 _ _ (HFB.out.below HB5.out)); clear hb6 hk6 hf6) | (go_at_call 27; (with_reducible refine (spoil_full w3.heap.size vb w6 HF6.out (Nat.le_trans HB4.out.size (Nat.le_trans HB5.out.size HB6.out.size))).mono ?_); rintro e w7 ⟨rfl, hb7, hk7, hf7⟩; have HB7 := Aside0.mk hb7; have HK7 := Aside0.mk hk7; clear hb7 hk7 hf7))
  have s3 := HB3.out.size
  have s4 := HB4.out.size
  have hR7 := Aside0.mk (R_ahead HOC.out (fun k q _ => (HK7.out k (fun e => by have := HFB.out.own k e.symm; omega)).trans (HK6.out k (fun e => by have := HFA.out.own k e.symm; omega))))
  have hB7 := Aside0.mk ((((HB3.out.trans (HB4.out.mono s3)).trans (HB5.out.mono (Nat.le_trans s3 s4))).trans HB6.out).trans (HB7.out.mono s3))
  clear HB3 HB4 HB5 HB6 HB7 HK6 HK7 HF6 HFA HFB HOC HT HK HQ HM
  go_loopw [13] (fun i wr => ∃ j : Nat, j ≤ k1.length ∧ i = .int .i64 j ∧ Aside0 (∃ xs : List Int, xs.length = k1.length ∧ Kd.R (Kd.int .u64) 40 wr w4.heap.size (fun _ => True) (.slice Ac k1.length cc) xs) ∧ Aside0 (Below w2.heap.size w2 wr)) (fun i _ => k1.length - (intOf i).toNat)
  case atStart => exact ⟨0, Nat.zero_le _, rfl, ⟨k1, rfl, hR7.out⟩, hB7⟩
  case round =>
    clear hR7 hB7
    obtain ⟨j, hj, rfl, hX, hB⟩ := hrel
    by_cases hjl : j < k1.length
    · obtain ⟨xs, hxl, hR⟩ := hX.out
      obtain ⟨g, cap, e1, hg, _, _⟩ := Kd.R_form hR (by omega)
      injection e1 with e2 e3 e4
      subst e2
      have q1 : (0 : Int) ≤ j := by omega
      have q2 : (j : Int) < k1.length := by omega
      obtain ⟨cj, fj⟩ := Kd.R_celln 0 hR (j : Int) q1 q2
      have hN := Kd.R_putn hR (j : Int) 9
      rw [Int.toNat_natCast] at cj fj hN
      have HN := Aside0.mk hN
      have HX := Aside0.mk hxl
      have HG := Aside0.mk hg
      clear hN hxl hg hR e3 e4 hX
      go_wp2
      go_roundw
      case rel => exact ⟨j + 1, by omega, by first | rfl | go_num, ⟨_, by rw [List.length_set]; exact HX.out, HN.out⟩, ⟨hB.out.setCell (p := ⟨g, j, none⟩) (by have := HG.out; dsimp only; omega) _⟩⟩
      case measure => simp [intOf]; omega
    · have q9 : ¬ ((j : Int) < k1.length) := by omega
      have hBw := HB2.out.trans (hB.out.mono HB2.out.size)
      have HBw := Aside0.mk hBw
      clear hBw
      go_wp2_with (first | ((try (refine gate_guard (by rfl) ?_; dsimp only)); go_at_call 14; refine (stookref00_Ints.calls (l0.length + 1) Aq cq l0 A0 c0 l0 true wr (Kd.R_reads' (Kd.R_below HOQ.out hB.out)).2.2 (Kd.R_reads' HOQ.out).2.1 (Kd.C_below HR0.out HBw.out) HC0.out HI.out).mono ?_; rintro e w8 ⟨rfl, ⟨nd, rfl⟩⟩) | ((try (refine gate_guard (by rfl) ?_; dsimp only)); go_at_call 24; refine (stookref00_Words.calls (l1.length + 1) Am cm l1 A1 c1 l1 true (wr.drewN nd) (Kd.C_drewN (Kd.R_reads' (Kd.R_below HOM.out hB.out)).2.2 nd) (Kd.R_reads' HOM.out).2.1 (Kd.C_drewN (Kd.C_below HR1.out HBw.out) nd) HC1.out HW.out).mono ?_; rintro e w9 ⟨rfl, ⟨nd2, rfl⟩⟩) | ((try (refine gate_guard (by rfl) ?_; dsimp only)); go_at_call 15; refine (stooklaw06_works.calls 131080 true _ HL.out).mono ?_; rintro e w10 ⟨rfl, hb10⟩))
      go_ret
      exact ⟨rfl, below_step HBw.out (below_step (pw_below_drewN (Below.refl _ _) (nd + nd2)) hb10)⟩
end Go.Proofs.Ytemmjinfeaafdaa.PAll
