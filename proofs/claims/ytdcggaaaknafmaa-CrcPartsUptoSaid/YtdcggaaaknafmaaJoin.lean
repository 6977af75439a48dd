/- crc.Join, walked by hand: its variables are arrays, which the print does not cover. -/
import Derived.Test.YtdcggaaaknafmaaJoinB
import Derived.Test.YtdcggaaaknafmaaPCrc
import Derived.BigRegion
import Derived.Deep.RegionLaw
namespace Go.Proofs.Ytdcggaaaknafmaa.PAll
open Go.RowKit Go.Proofs.YtdcggaaaknafmaaVW.PrintWords Go.Proofs.YtdcggaaaknafmaaVW.PrintLast Go.Proofs.YtdcggaaaknafmaaVW.PrintMore
set_option linter.unusedVariables false
set_option linter.unusedSimpArgs false

theorem Wrow.far {w : World} {g : Nat} {l : List Int} (h : Wrow w g l) {a : Addr} (ha : g ≠ a.block) (u : Value) : Wrow (w.setCell a u) g l := by
  obtain ⟨t, h⟩ := h
  exact ⟨t, (Below.heap_setCell w a u g ha).trans h⟩
theorem Wrow.set {w : World} {g : Nat} {l : List Int} (h : Wrow w g l) (i : Nat) (v : Int) : Wrow (w.setCell ⟨g, i, none⟩ (.int .u32 v)) g (l.set i v) := by
  obtain ⟨t, h⟩ := h
  refine ⟨t, ?_⟩
  rw [setCell_rowF h i]
  simp [words, List.map_set]
theorem Wrow.free {w : World} {g : Nat} {l : List Int} (h : Wrow w g l) (i : Nat) : w.frozen? ⟨g, i, none⟩ = false := by
  obtain ⟨t, h⟩ := h
  exact frozen_of_row w g i _ t h
theorem Wrow.lt {w : World} {g : Nat} {l : List Int} (h : Wrow w g l) : g < w.heap.size := by
  obtain ⟨t, h⟩ := h
  exact lt_of_block h
theorem Wrow.below {w w' : World} {g : Nat} {l : List Int} (h : Wrow w g l) (hb : Below w.heap.size w w') : Wrow w' g l := by
  obtain ⟨t, h⟩ := h
  exact ⟨t, (hb.block g (lt_of_block h)).trans h⟩
theorem Wrow.drewN {w : World} {g : Nat} {l : List Int} (h : Wrow w g l) (m : Nat) : Wrow (w.drewN m) g l := h.below (pw_below_drewN (Below.refl _ _) m)
theorem words_32 (l : List Int) (h : l.length = 32) : words l = #[.int .u32 (rd l 0), .int .u32 (rd l 1), .int .u32 (rd l 2), .int .u32 (rd l 3), .int .u32 (rd l 4), .int .u32 (rd l 5), .int .u32 (rd l 6), .int .u32 (rd l 7), .int .u32 (rd l 8), .int .u32 (rd l 9), .int .u32 (rd l 10), .int .u32 (rd l 11), .int .u32 (rd l 12), .int .u32 (rd l 13), .int .u32 (rd l 14), .int .u32 (rd l 15), .int .u32 (rd l 16), .int .u32 (rd l 17), .int .u32 (rd l 18), .int .u32 (rd l 19), .int .u32 (rd l 20), .int .u32 (rd l 21), .int .u32 (rd l 22), .int .u32 (rd l 23), .int .u32 (rd l 24), .int .u32 (rd l 25), .int .u32 (rd l 26), .int .u32 (rd l 27), .int .u32 (rd l 28), .int .u32 (rd l 29), .int .u32 (rd l 30), .int .u32 (rd l 31)] := by
  match l, h with
  | [a0, a1, a2, a3, a4, a5, a6, a7, a8, a9, a10, a11, a12, a13, a14, a15, a16, a17, a18, a19, a20, a21, a22, a23, a24, a25, a26, a27, a28, a29, a30, a31], _ => rfl
theorem crc_times.calls_at (n : Nat) (r : BitVec 32) (w : World) :
    Calls Try.prog 37 #[.agg (words (Crc.cols n)), .int .u32 (r.toNat : Int)] w fun e w' => e = .returned (.int .u32 ((Crc.steps n r).toNat : Int)) ∧ Below w.heap.size w w' := by
  have h := crc_times.calls (Crc.cols n) (r.toNat : Int) w (Crc.cols_len n)
  rw [Crc.tm_steps] at h
  exact h
theorem crc_times.calls_32 (n : Nat) (r : BitVec 32) (w : World) :
    Calls Try.prog 37 #[.agg #[.int .u32 (rd (Crc.cols n) 0), .int .u32 (rd (Crc.cols n) 1), .int .u32 (rd (Crc.cols n) 2), .int .u32 (rd (Crc.cols n) 3), .int .u32 (rd (Crc.cols n) 4), .int .u32 (rd (Crc.cols n) 5), .int .u32 (rd (Crc.cols n) 6), .int .u32 (rd (Crc.cols n) 7), .int .u32 (rd (Crc.cols n) 8), .int .u32 (rd (Crc.cols n) 9), .int .u32 (rd (Crc.cols n) 10), .int .u32 (rd (Crc.cols n) 11), .int .u32 (rd (Crc.cols n) 12), .int .u32 (rd (Crc.cols n) 13), .int .u32 (rd (Crc.cols n) 14), .int .u32 (rd (Crc.cols n) 15), .int .u32 (rd (Crc.cols n) 16), .int .u32 (rd (Crc.cols n) 17), .int .u32 (rd (Crc.cols n) 18), .int .u32 (rd (Crc.cols n) 19), .int .u32 (rd (Crc.cols n) 20), .int .u32 (rd (Crc.cols n) 21), .int .u32 (rd (Crc.cols n) 22), .int .u32 (rd (Crc.cols n) 23), .int .u32 (rd (Crc.cols n) 24), .int .u32 (rd (Crc.cols n) 25), .int .u32 (rd (Crc.cols n) 26), .int .u32 (rd (Crc.cols n) 27), .int .u32 (rd (Crc.cols n) 28), .int .u32 (rd (Crc.cols n) 29), .int .u32 (rd (Crc.cols n) 30), .int .u32 (rd (Crc.cols n) 31)], .int .u32 (r.toNat : Int)] w fun e w' => e = .returned (.int .u32 ((Crc.steps n r).toNat : Int)) ∧ Below w.heap.size w w' := by
  have h := crc_times.calls_at n r w
  rw [words_32 _ (Crc.cols_len n)] at h
  exact h
theorem and_1 (m : Nat) (hm : m ≤ 1048576) : bits .and .i64 (m : Int) 1 = ((m % 2 : Nat) : Int) := by
  show IntKind.i64.wrap (((BitVec.ofInt 64 (m : Int)) &&& (BitVec.ofInt 64 1)).toNat : Int) = _
  have e1 : (BitVec.ofInt 64 (m : Int)).toNat = m := by rw [BitVec.toNat_ofInt]; omega
  have e2 : (BitVec.ofInt 64 1).toNat = 1 := by decide
  have e3 : ((BitVec.ofInt 64 (m : Int)) &&& (BitVec.ofInt 64 1)).toNat = m % 2 := by
    rw [BitVec.toNat_and, e1, e2, Nat.and_one_is_mod]
  rw [e3]
  have : m % 2 < 2 := Nat.mod_lt _ (by decide)
  rcases (show m % 2 = 0 ∨ m % 2 = 1 by omega) with h | h <;> rw [h] <;> decide
theorem odd_mul (q m : Nat) (h : m % 2 = 1) : q + (q + q) * (m / 2) = q * m := by
  obtain ⟨z, hz⟩ : ∃ z, z = m / 2 := ⟨_, rfl⟩
  have e : m = 2 * z + 1 := by omega
  rw [← hz, e, Nat.mul_add, Nat.mul_one, ← Nat.mul_assoc, Nat.mul_two]
  omega
theorem even_mul (q m : Nat) (h : ¬ m % 2 = 1) : (q + q) * (m / 2) = q * m := by
  obtain ⟨z, hz⟩ : ∃ z, z = m / 2 := ⟨_, rfl⟩
  have e : m = 2 * z := by omega
  rw [← hz, e, ← Nat.mul_assoc, Nat.mul_two]
theorem info60 : (Try.prog.info? 60).map (·.size) = some 32 := by kernel_rfl
theorem Wrow.setRow {w : World} {g : Nat} {l m : List Int} (h : Wrow w g l) : Wrow (w.setRow g (words m)) g m := by
  obtain ⟨t, h⟩ := h
  exact ⟨t, setRow_heap w g _ _ t (0, 0) h⟩
theorem below_setRow {B : Nat} {w w' : World} (h : Below B w w') {g : Nat} (hg : B ≤ g) (cs : Array Value) : Below B w (w'.setRow g cs) :=
  ⟨h.os, h.tape, h.output, by have := h.size; simpa [World.setRow] using this, fun k hk => by
    have : (w'.setRow g cs).heap[k]? = w'.heap[k]? := by
      simp only [World.setRow, Array.getElem?_modify]
      rw [if_neg (by omega)]
    rw [this]; exact h.block k hk⟩
set_option maxHeartbeats 8000000 in
set_option maxRecDepth 100000 in
theorem crc_Join.calls_at (A B : BitVec 32) (n : Nat) (hn : n ≤ 1048576) (w : World) :
    Calls Try.prog 22 #[.int .u32 (A.toNat : Int), .int .u32 (B.toNat : Int), .int .i64 (n : Int)] w fun e w' => e = .returned (.tuple #[.int .u32 ((Crc.steps (8 * n) A ^^^ B).toNat : Int), .int .i64 0]) ∧ Below w.heap.size w w' := by
  obtain ⟨R, hR⟩ : ∃ R : Int, R = ((Crc.steps (8 * n) A ^^^ B).toNat : Int) := ⟨_, rfl⟩
  rw [← hR]
  have HR := Aside0.mk hR
  clear hR
  have q0 : ¬ ((n : Int) < 0) := by omega
  have q1 : ¬ ((n : Int) > 1048576) := by omega
  go_enter Try.func22, Try.ntmps22
  go_wp2
  go_loopw [18] (fun i wr => ∃ j : Nat, j ≤ 32 ∧ i = .int .i64 j ∧ Aside0 (Wrow wr w.heap.size (Crc.laidc 8 j)) ∧ Aside0 (Below w.heap.size w wr)) (fun i _ => 32 - (intOf i).toNat)
  case atStart => exact ⟨0, Nat.zero_le _, rfl, ⟨60, by rw [Crc.laidc_zero]; exact heap_alloc_new _ _⟩, ⟨(Below.refl _ w).alloc (Nat.le_refl _) _⟩⟩
  case round =>
    obtain ⟨j, hj, rfl, hW, hB⟩ := hrel
    by_cases hjl : j < 32
    · have q2 : (0 : Int) ≤ j := by omega
      have q3 : (j : Int) < 32 := by omega
      have hpow : (2 : Int) ^ j % 4294967296 = ((((BitVec.ofNat 32 1) <<< j).toNat : Nat) : Int) := Crc.pow_b j hjl
      have hcall : crc_Take.f 9 ((2 : Int) ^ j % 4294967296) 0 = some (((Crc.steps 8 ((BitVec.ofNat 32 1) <<< j)).toNat : Nat) : Int) := by
        rw [hpow]
        have h := Pure.take_f 9 (by omega) ((BitVec.ofNat 32 1) <<< j) (BitVec.ofNat 8 0)
        rw [Crc.take_none] at h
        exact h
      have HC := Aside0.mk hcall
      obtain ⟨v8, hv8⟩ : ∃ v8 : Int, v8 = ((Crc.steps 8 ((BitVec.ofNat 32 1) <<< j)).toNat : Int) := ⟨_, rfl⟩
      rw [← hv8] at HC
      have HV := Aside0.mk hv8
      clear hpow hcall hv8
      obtain ⟨x1, ci⟩ : ∃ x, wr.cell? ⟨w.heap.size, j, none⟩ = some (.int .u32 x) := ⟨_, hW.out.cell (by rw [Crc.laidc_len]; exact hjl)⟩
      have fi := hW.out.free j
      go_wp2_with (first | (go_at_call 15; refine (crc_Take.calls 9 ((2 : Int) ^ j % 4294967296) 0 v8 wr HC.out).mono ?_; rintro e w' ⟨rfl, ⟨nd, rfl⟩⟩))
      have hW2 := (hW.out.drewN nd).set j v8
      rw [HV.out, Crc.laidc_set 8 j hjl, ← HV.out] at hW2
      go_roundw
      case rel => exact ⟨j + 1, by omega, by first | rfl | go_num, ⟨hW2⟩, ⟨(pw_below_drewN hB.out nd).setCell (p := ⟨w.heap.size, j, none⟩) (Nat.le_refl _) _⟩⟩
      case measure => simp [intOf]; omega
    · have hj32 : j = 32 := by omega
      rw [hj32, Crc.laidc_all] at hW
      have q9 : ¬ ((j : Int) < 32) := by omega
      clear hj32 hjl hj
      go_wp2
      go_loopw [0, 2] (fun a i wr => ∃ (q m : Nat) (x : BitVec 32), a = .int .u32 (x.toNat : Int) ∧ i = .int .i64 (m : Int) ∧ Aside0 (m ≤ 1048576 ∧ Crc.steps (q * m) x = Crc.steps (8 * n) A) ∧ Aside0 (Wrow wr w.heap.size (Crc.cols q)) ∧ Aside0 (Below w.heap.size w wr)) (fun _ i _ => (intOf i).toNat)
      case atStart => exact ⟨8, n, A, rfl, rfl, ⟨hn, rfl⟩, hW, hB⟩
      case round =>
        clear hW hB q0 q1
        obtain ⟨q, m, x, rfl, rfl, hM, hW, hB⟩ := hrel
        by_cases hm : 0 < m
        · have q4 : (0 : Int) < m := by omega
          obtain ⟨t0, hg0⟩ := hW.out
          have hsz : (words (Crc.cols q)).size = 32 := by rw [words_size, Crc.cols_len]
          have hmm := and_1 m hM.out.1
          by_cases hodd : m % 2 = 1
          · have eo : (bits .and .i64 (m : Int) 1 == 1) = true := by rw [hmm, hodd]; rfl
            clear hmm
            go_wp2_with (first | (refine wpList_load_row rfl 60 (.tmp 8) rfl w.heap.size rfl t0 (words (Crc.cols q)) (0, 0) _ hg0 Try.underlying60 rfl (by rw [hsz]; exact info60) ?_) | (go_at_call 37; refine (crc_times.calls_at q x wr).mono ?_; rintro e w5 ⟨rfl, hb5⟩))
            obtain ⟨tb, htb⟩ : ∃ tb, w5.heap.size = tb := ⟨_, rfl⟩
            have hW5 := hW.out.below hb5
            have hB5 := below_step hB.out hb5
            have hlt := hW5.lt
            rw [htb] at hlt ⊢
            go_loopw [38] (fun i wv => ∃ j : Nat, j ≤ 32 ∧ i = .int .i64 j ∧ Aside0 (Wrow wv w.heap.size (Crc.cols q)) ∧ Aside0 (Wrow wv tb (Crc.laidc (q + q) j)) ∧ Aside0 (Below w.heap.size w wv)) (fun i _ => 32 - (intOf i).toNat)
            case atStart => exact ⟨0, Nat.zero_le _, rfl, ⟨hW5.below (below_alloc (Below.refl _ _) _)⟩, ⟨60, by rw [Crc.laidc_zero, ← htb]; exact heap_alloc_new _ _⟩, ⟨hB5.alloc (by omega) _⟩⟩
            case round =>
              clear hW5 hB5 hW hB hg0 htb
              obtain ⟨j, hj, rfl, hW, hT, hB⟩ := hrel
              by_cases hjl : j < 32
              · have q2 : (0 : Int) ≤ j := by omega
                have q3 : (j : Int) < 32 := by omega
                have cj : wr.cell? ⟨w.heap.size, j, none⟩ = some (.int .u32 ((Crc.steps q ((BitVec.ofNat 32 1) <<< j)).toNat : Int)) := by
                  rw [← Crc.rd_cols q j hjl]; exact hW.out.cell (by rw [Crc.cols_len]; exact hjl)
                go_wp2
                obtain ⟨t4, hg4⟩ := (show Wrow wr.drew w.heap.size (Crc.cols q) from hW.out)
                refine wp_region_any (by kernel_rfl) ?_
                change wpAny _ _ _ _ _ _ _ (World.drew _)
                refine wpAny_take (i := 0) (v := .int .i64 (j : Int)) rfl (by kernel_rfl) (by kernel_rfl) (by kernel_rfl) (fun _ _ _ h => h) (Or.inl ⟨by rfl, fun w => by go_simp⟩) ?_
                refine wpAny_take (i := 2) (v := .int .i64 (j : Int)) rfl (by kernel_rfl) (by kernel_rfl) (by kernel_rfl) (fun _ _ _ h => h) (Or.inl ⟨by rfl, fun w => by go_simp⟩) ?_
                refine wpAny_take (i := 3) (v := .pointer (some ⟨w.heap.size, j, none⟩)) rfl (by kernel_rfl) (by kernel_rfl) (by kernel_rfl) (fun _ _ _ h => h) (Or.inl ⟨by rfl, fun w => by go_simp⟩) ?_
                refine wpAny_ready (rs := [1, 4]) (by kernel_rfl) (by simp) ?_
                refine AllReady.cons rfl (fun K hK => ?_) (AllReady.cons rfl (fun K hK => ?_) AllReady.nil)
                · rw [if_pos (by simp [Region.wanted])]
                  refine wp_load_row 60 (.tmp 8) rfl w.heap.size (by go_simp) t4 (words (Crc.cols q)) (0, 0) _ hg4 Try.underlying60 rfl (by rw [hsz]; exact info60) ?_
                  refine hK _ _ ?_
                  clear hK K
                  refine wpAny_ready (rs := [4]) (by kernel_rfl) (by simp) ?_
                  refine AllReady.cons rfl (fun K hK => ?_) AllReady.nil
                  go_simp
                  refine hK _ _ ?_
                  clear hK K
                  refine wpAny_ready (rs := [5]) (by kernel_rfl) (by simp) ?_
                  refine AllReady.cons rfl (fun K hK => ?_) AllReady.nil
                  go_simp
                  go_at_call 37
                  refine (crc_times.calls_at q (Crc.steps q ((BitVec.ofNat 32 1) <<< j)) _).mono ?_
                  rintro e w6 ⟨rfl, hb6⟩
                  have hT6 := Wrow.below (show Wrow wr.drew tb (Crc.laidc (q + q) j) from hT.out) hb6
                  have ft6 := hT6.free j
                  have ct6 := hT6.cell (i := j) (by rw [Crc.laidc_len]; exact hjl)
                  go_simp
                  refine hK _ _ ?_
                  clear hK K
                  refine wpAny_take (i := 6) (v := .pointer (some ⟨tb, j, none⟩)) rfl (by kernel_rfl) (by kernel_rfl) (by kernel_rfl) (fun _ _ _ h => h) (Or.inl ⟨by rfl, fun w => by go_simp⟩) ?_
                  refine wpAny_ready (rs := [7]) (by kernel_rfl) (by simp) ?_
                  refine AllReady.cons rfl (fun K hK => ?_) AllReady.nil
                  go_simp
                  refine hK _ _ ?_
                  clear hK K
                  refine wpAny_done (by kernel_rfl) ?_ _
                  have hT7 := hT6.set j ((Crc.steps q (Crc.steps q ((BitVec.ofNat 32 1) <<< j))).toNat : Int)
                  have hW7 := (Wrow.below (show Wrow wr.drew w.heap.size (Crc.cols q) from hW.out) hb6).far (a := ⟨tb, j, none⟩) (Nat.ne_of_lt hlt) (.int .u32 ((Crc.steps q (Crc.steps q ((BitVec.ofNat 32 1) <<< j))).toNat : Int))
                  have hB7 := (below_step (show Below w.heap.size w wr.drew from hB.out.drew) hb6).setCell (p := ⟨tb, j, none⟩) (Nat.le_of_lt hlt) (.int .u32 ((Crc.steps q (Crc.steps q ((BitVec.ofNat 32 1) <<< j))).toNat : Int))
                  rw [Crc.steps_two q, Crc.laidc_set (q + q) j hjl, ← Crc.steps_two q] at hT7
                  go_wp2
                  go_roundw
                  case rel => exact ⟨j + 1, by omega, by first | rfl | go_num, ⟨hW7⟩, ⟨hT7⟩, ⟨hB7⟩⟩
                  case measure => simp [intOf]; omega
                · go_simp
                  refine hK _ _ ?_
                  clear hK K
                  refine wpAny_ready (rs := [1]) (by kernel_rfl) (by simp) ?_
                  refine AllReady.cons rfl (fun K hK => ?_) AllReady.nil
                  rw [if_pos (by simp [Region.wanted])]
                  refine wp_load_row 60 (.tmp 8) rfl w.heap.size (by go_simp) t4 (words (Crc.cols q)) (0, 0) _ hg4 Try.underlying60 rfl (by rw [hsz]; exact info60) ?_
                  refine hK _ _ ?_
                  clear hK K
                  refine wpAny_ready (rs := [5]) (by kernel_rfl) (by simp) ?_
                  refine AllReady.cons rfl (fun K hK => ?_) AllReady.nil
                  go_simp
                  go_at_call 37
                  refine (crc_times.calls_at q (Crc.steps q ((BitVec.ofNat 32 1) <<< j)) _).mono ?_
                  rintro e w6 ⟨rfl, hb6⟩
                  have hT6 := Wrow.below (show Wrow wr.drew tb (Crc.laidc (q + q) j) from hT.out) hb6
                  have ft6 := hT6.free j
                  have ct6 := hT6.cell (i := j) (by rw [Crc.laidc_len]; exact hjl)
                  go_simp
                  refine hK _ _ ?_
                  clear hK K
                  refine wpAny_take (i := 6) (v := .pointer (some ⟨tb, j, none⟩)) rfl (by kernel_rfl) (by kernel_rfl) (by kernel_rfl) (fun _ _ _ h => h) (Or.inl ⟨by rfl, fun w => by go_simp⟩) ?_
                  refine wpAny_ready (rs := [7]) (by kernel_rfl) (by simp) ?_
                  refine AllReady.cons rfl (fun K hK => ?_) AllReady.nil
                  go_simp
                  refine hK _ _ ?_
                  clear hK K
                  refine wpAny_done (by kernel_rfl) ?_ _
                  have hT7 := hT6.set j ((Crc.steps q (Crc.steps q ((BitVec.ofNat 32 1) <<< j))).toNat : Int)
                  have hW7 := (Wrow.below (show Wrow wr.drew w.heap.size (Crc.cols q) from hW.out) hb6).far (a := ⟨tb, j, none⟩) (Nat.ne_of_lt hlt) (.int .u32 ((Crc.steps q (Crc.steps q ((BitVec.ofNat 32 1) <<< j))).toNat : Int))
                  have hB7 := (below_step (show Below w.heap.size w wr.drew from hB.out.drew) hb6).setCell (p := ⟨tb, j, none⟩) (Nat.le_of_lt hlt) (.int .u32 ((Crc.steps q (Crc.steps q ((BitVec.ofNat 32 1) <<< j))).toNat : Int))
                  rw [Crc.steps_two q, Crc.laidc_set (q + q) j hjl, ← Crc.steps_two q] at hT7
                  go_wp2
                  go_roundw
                  case rel => exact ⟨j + 1, by omega, by first | rfl | go_num, ⟨hW7⟩, ⟨hT7⟩, ⟨hB7⟩⟩
                  case measure => simp [intOf]; omega
              · have hj32 : j = 32 := by omega
                subst hj32
                rw [Crc.laidc_all] at hT
                obtain ⟨t2, hg2⟩ := hW.out
                obtain ⟨t3, hg3⟩ := hT.out
                have hsz2 : (words (Crc.cols (q + q))).size = 32 := by rw [words_size, Crc.cols_len]
                go_wp2_with (first | (refine wpList_load_row rfl 60 (.tmp 10) rfl tb rfl t3 (words (Crc.cols (q + q))) (0, 0) _ hg3 Try.underlying60 rfl (by rw [hsz2]; exact info60) ?_) | (refine wpList_store_row rfl 60 (.tmp 8) (.tmp 49) rfl w.heap.size (words (Crc.cols (q + q))) rfl rfl t2 (words (Crc.cols q)) hg2 (by rw [hsz2]; exact info60) (by rw [hsz2, hsz]) (words_one _) ?_))
                go_roundw
                case rel => exact ⟨q + q, m / 2, Crc.steps q x, rfl, by first | rfl | go_num, ⟨by have := hM.out.1; omega, by rw [← hM.out.2, ← Crc.steps_add, odd_mul q m hodd]⟩, ⟨hW.out.setRow⟩, ⟨below_setRow hB.out (Nat.le_refl _) _⟩⟩
                case measure => simp [intOf]; omega
          · have eo : (bits .and .i64 (m : Int) 1 == 1) = false := by rw [hmm, show m % 2 = 0 by omega]; rfl
            clear hmm
            go_wp2
            obtain ⟨tb, htb⟩ : ∃ tb, wr.heap.size = tb := ⟨_, rfl⟩
            have hW5 := hW.out
            have hB5 := hB.out
            have hlt := hW5.lt
            rw [htb] at hlt ⊢
            go_loopw [38] (fun i wv => ∃ j : Nat, j ≤ 32 ∧ i = .int .i64 j ∧ Aside0 (Wrow wv w.heap.size (Crc.cols q)) ∧ Aside0 (Wrow wv tb (Crc.laidc (q + q) j)) ∧ Aside0 (Below w.heap.size w wv)) (fun i _ => 32 - (intOf i).toNat)
            case atStart => exact ⟨0, Nat.zero_le _, rfl, ⟨hW5.below (below_alloc (Below.refl _ _) _)⟩, ⟨60, by rw [Crc.laidc_zero, ← htb]; exact heap_alloc_new _ _⟩, ⟨hB5.alloc (by omega) _⟩⟩
            case round =>
              clear hW5 hB5 hW hB hg0 htb
              obtain ⟨j, hj, rfl, hW, hT, hB⟩ := hrel
              by_cases hjl : j < 32
              · have q2 : (0 : Int) ≤ j := by omega
                have q3 : (j : Int) < 32 := by omega
                have cj : wr.cell? ⟨w.heap.size, j, none⟩ = some (.int .u32 ((Crc.steps q ((BitVec.ofNat 32 1) <<< j)).toNat : Int)) := by
                  rw [← Crc.rd_cols q j hjl]; exact hW.out.cell (by rw [Crc.cols_len]; exact hjl)
                go_wp2
                obtain ⟨t4, hg4⟩ := (show Wrow wr.drew w.heap.size (Crc.cols q) from hW.out)
                refine wp_region_any (by kernel_rfl) ?_
                change wpAny _ _ _ _ _ _ _ (World.drew _)
                refine wpAny_take (i := 0) (v := .int .i64 (j : Int)) rfl (by kernel_rfl) (by kernel_rfl) (by kernel_rfl) (fun _ _ _ h => h) (Or.inl ⟨by rfl, fun w => by go_simp⟩) ?_
                refine wpAny_take (i := 2) (v := .int .i64 (j : Int)) rfl (by kernel_rfl) (by kernel_rfl) (by kernel_rfl) (fun _ _ _ h => h) (Or.inl ⟨by rfl, fun w => by go_simp⟩) ?_
                refine wpAny_take (i := 3) (v := .pointer (some ⟨w.heap.size, j, none⟩)) rfl (by kernel_rfl) (by kernel_rfl) (by kernel_rfl) (fun _ _ _ h => h) (Or.inl ⟨by rfl, fun w => by go_simp⟩) ?_
                refine wpAny_ready (rs := [1, 4]) (by kernel_rfl) (by simp) ?_
                refine AllReady.cons rfl (fun K hK => ?_) (AllReady.cons rfl (fun K hK => ?_) AllReady.nil)
                · rw [if_pos (by simp [Region.wanted])]
                  refine wp_load_row 60 (.tmp 8) rfl w.heap.size (by go_simp) t4 (words (Crc.cols q)) (0, 0) _ hg4 Try.underlying60 rfl (by rw [hsz]; exact info60) ?_
                  refine hK _ _ ?_
                  clear hK K
                  refine wpAny_ready (rs := [4]) (by kernel_rfl) (by simp) ?_
                  refine AllReady.cons rfl (fun K hK => ?_) AllReady.nil
                  go_simp
                  refine hK _ _ ?_
                  clear hK K
                  refine wpAny_ready (rs := [5]) (by kernel_rfl) (by simp) ?_
                  refine AllReady.cons rfl (fun K hK => ?_) AllReady.nil
                  go_simp
                  go_at_call 37
                  refine (crc_times.calls_at q (Crc.steps q ((BitVec.ofNat 32 1) <<< j)) _).mono ?_
                  rintro e w6 ⟨rfl, hb6⟩
                  have hT6 := Wrow.below (show Wrow wr.drew tb (Crc.laidc (q + q) j) from hT.out) hb6
                  have ft6 := hT6.free j
                  have ct6 := hT6.cell (i := j) (by rw [Crc.laidc_len]; exact hjl)
                  go_simp
                  refine hK _ _ ?_
                  clear hK K
                  refine wpAny_take (i := 6) (v := .pointer (some ⟨tb, j, none⟩)) rfl (by kernel_rfl) (by kernel_rfl) (by kernel_rfl) (fun _ _ _ h => h) (Or.inl ⟨by rfl, fun w => by go_simp⟩) ?_
                  refine wpAny_ready (rs := [7]) (by kernel_rfl) (by simp) ?_
                  refine AllReady.cons rfl (fun K hK => ?_) AllReady.nil
                  go_simp
                  refine hK _ _ ?_
                  clear hK K
                  refine wpAny_done (by kernel_rfl) ?_ _
                  have hT7 := hT6.set j ((Crc.steps q (Crc.steps q ((BitVec.ofNat 32 1) <<< j))).toNat : Int)
                  have hW7 := (Wrow.below (show Wrow wr.drew w.heap.size (Crc.cols q) from hW.out) hb6).far (a := ⟨tb, j, none⟩) (Nat.ne_of_lt hlt) (.int .u32 ((Crc.steps q (Crc.steps q ((BitVec.ofNat 32 1) <<< j))).toNat : Int))
                  have hB7 := (below_step (show Below w.heap.size w wr.drew from hB.out.drew) hb6).setCell (p := ⟨tb, j, none⟩) (Nat.le_of_lt hlt) (.int .u32 ((Crc.steps q (Crc.steps q ((BitVec.ofNat 32 1) <<< j))).toNat : Int))
                  rw [Crc.steps_two q, Crc.laidc_set (q + q) j hjl, ← Crc.steps_two q] at hT7
                  go_wp2
                  go_roundw
                  case rel => exact ⟨j + 1, by omega, by first | rfl | go_num, ⟨hW7⟩, ⟨hT7⟩, ⟨hB7⟩⟩
                  case measure => simp [intOf]; omega
                · go_simp
                  refine hK _ _ ?_
                  clear hK K
                  refine wpAny_ready (rs := [1]) (by kernel_rfl) (by simp) ?_
                  refine AllReady.cons rfl (fun K hK => ?_) AllReady.nil
                  rw [if_pos (by simp [Region.wanted])]
                  refine wp_load_row 60 (.tmp 8) rfl w.heap.size (by go_simp) t4 (words (Crc.cols q)) (0, 0) _ hg4 Try.underlying60 rfl (by rw [hsz]; exact info60) ?_
                  refine hK _ _ ?_
                  clear hK K
                  refine wpAny_ready (rs := [5]) (by kernel_rfl) (by simp) ?_
                  refine AllReady.cons rfl (fun K hK => ?_) AllReady.nil
                  go_simp
                  go_at_call 37
                  refine (crc_times.calls_at q (Crc.steps q ((BitVec.ofNat 32 1) <<< j)) _).mono ?_
                  rintro e w6 ⟨rfl, hb6⟩
                  have hT6 := Wrow.below (show Wrow wr.drew tb (Crc.laidc (q + q) j) from hT.out) hb6
                  have ft6 := hT6.free j
                  have ct6 := hT6.cell (i := j) (by rw [Crc.laidc_len]; exact hjl)
                  go_simp
                  refine hK _ _ ?_
                  clear hK K
                  refine wpAny_take (i := 6) (v := .pointer (some ⟨tb, j, none⟩)) rfl (by kernel_rfl) (by kernel_rfl) (by kernel_rfl) (fun _ _ _ h => h) (Or.inl ⟨by rfl, fun w => by go_simp⟩) ?_
                  refine wpAny_ready (rs := [7]) (by kernel_rfl) (by simp) ?_
                  refine AllReady.cons rfl (fun K hK => ?_) AllReady.nil
                  go_simp
                  refine hK _ _ ?_
                  clear hK K
                  refine wpAny_done (by kernel_rfl) ?_ _
                  have hT7 := hT6.set j ((Crc.steps q (Crc.steps q ((BitVec.ofNat 32 1) <<< j))).toNat : Int)
                  have hW7 := (Wrow.below (show Wrow wr.drew w.heap.size (Crc.cols q) from hW.out) hb6).far (a := ⟨tb, j, none⟩) (Nat.ne_of_lt hlt) (.int .u32 ((Crc.steps q (Crc.steps q ((BitVec.ofNat 32 1) <<< j))).toNat : Int))
                  have hB7 := (below_step (show Below w.heap.size w wr.drew from hB.out.drew) hb6).setCell (p := ⟨tb, j, none⟩) (Nat.le_of_lt hlt) (.int .u32 ((Crc.steps q (Crc.steps q ((BitVec.ofNat 32 1) <<< j))).toNat : Int))
                  rw [Crc.steps_two q, Crc.laidc_set (q + q) j hjl, ← Crc.steps_two q] at hT7
                  go_wp2
                  go_roundw
                  case rel => exact ⟨j + 1, by omega, by first | rfl | go_num, ⟨hW7⟩, ⟨hT7⟩, ⟨hB7⟩⟩
                  case measure => simp [intOf]; omega
              · have hj32 : j = 32 := by omega
                subst hj32
                rw [Crc.laidc_all] at hT
                obtain ⟨t2, hg2⟩ := hW.out
                obtain ⟨t3, hg3⟩ := hT.out
                have hsz2 : (words (Crc.cols (q + q))).size = 32 := by rw [words_size, Crc.cols_len]
                go_wp2_with (first | (refine wpList_load_row rfl 60 (.tmp 10) rfl tb rfl t3 (words (Crc.cols (q + q))) (0, 0) _ hg3 Try.underlying60 rfl (by rw [hsz2]; exact info60) ?_) | (refine wpList_store_row rfl 60 (.tmp 8) (.tmp 49) rfl w.heap.size (words (Crc.cols (q + q))) rfl rfl t2 (words (Crc.cols q)) hg2 (by rw [hsz2]; exact info60) (by rw [hsz2, hsz]) (words_one _) ?_))
                go_roundw
                case rel => exact ⟨q + q, m / 2, x, rfl, by first | rfl | go_num, ⟨by have := hM.out.1; omega, by rw [← hM.out.2, even_mul q m hodd]⟩, ⟨hW.out.setRow⟩, ⟨below_setRow hB.out (Nat.le_refl _) _⟩⟩
                case measure => simp [intOf]; omega
        · have hm0 : m = 0 := by omega
          subst hm0
          have hr := hM.out.2
          rw [Nat.mul_zero] at hr
          go_wp2
          go_ret2
          exact ⟨by rw [HR.out, ← hr, ← Crc.xor32]; rfl, hB.out⟩
theorem crc_Join.calls_no (a b n : Int) (hn : n < 0 ∨ 1048576 < n) (w : World) :
    Calls Try.prog 22 #[.int .u32 a, .int .u32 b, .int .i64 n] w fun e w' => e = .returned (.tuple #[.int .u32 0, .int .i64 2]) ∧ Below w.heap.size w w' := by
  by_cases h0 : n < 0
  · go_enter Try.func22, Try.ntmps22
    go_wp2
    go_ret2
    exact ⟨rfl, Below.refl _ _⟩
  · have h1 : 1048576 < n := by omega
    go_enter Try.func22, Try.ntmps22
    go_wp2
    go_ret2
    exact ⟨rfl, Below.refl _ _⟩

/-! ### crc_Join: function 22 -/
def crc_Join.f (k : Nat) (a0 : Int) (a1 : Int) (a2 : Int) : Option (Int × Int) := if 0 ≤ a0 ∧ a0 < 4294967296 ∧ 0 ≤ a1 ∧ a1 < 4294967296 then (if a2 < 0 ∨ 1048576 < a2 then some (0, 2) else some (((Crc.steps (8 * a2.toNat) (BitVec.ofInt 32 a0) ^^^ BitVec.ofInt 32 a1).toNat : Int), 0)) else none
theorem crc_Join.mono : ∀ a0 a1 a2 k, LeO (crc_Join.f k a0 a1 a2) (crc_Join.f (k + 1) a0 a1 a2) := fun _ _ _ _ => LeO.refl _
theorem crc_Join.calls (k : Nat) (a0 : Int) (a1 : Int) (a2 : Int) (r1 : Int) (r2 : Int) (w : World) (h : crc_Join.f k a0 a1 a2 = some (r1, r2)) :
    Calls Try.prog 22 #[.int .u32 a0, .int .u32 a1, .int .i64 a2] w fun e w' => e = .returned (.tuple #[.int .u32 r1, .int .i64 r2]) ∧ Below w.heap.size w w' := by
  unfold crc_Join.f at h
  by_cases hw : 0 ≤ a0 ∧ a0 < 4294967296 ∧ 0 ≤ a1 ∧ a1 < 4294967296
  · rw [if_pos hw] at h
    by_cases hn : a2 < 0 ∨ 1048576 < a2
    · rw [if_pos hn] at h
      simp only [Option.some.injEq, Prod.mk.injEq] at h
      obtain ⟨rfl, rfl⟩ := h
      exact crc_Join.calls_no a0 a1 a2 hn w
    · rw [if_neg hn] at h
      simp only [Option.some.injEq, Prod.mk.injEq] at h
      obtain ⟨rfl, rfl⟩ := h
      obtain ⟨A, rfl⟩ := Crc.bv32 hw.1 hw.2.1
      obtain ⟨B, rfl⟩ := Crc.bv32 hw.2.2.1 hw.2.2.2
      obtain ⟨n, rfl⟩ : ∃ n : Nat, a2 = n := ⟨a2.toNat, by omega⟩
      rw [Crc.ofInt32, Crc.ofInt32, Int.toNat_natCast]
      exact crc_Join.calls_at A B n (by omega) w
  · rw [if_neg hw] at h
    cases h
end Go.Proofs.Ytdcggaaaknafmaa.PAll
