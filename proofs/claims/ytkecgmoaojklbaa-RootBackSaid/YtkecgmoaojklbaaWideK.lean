/- f0.Wide and f0.Left: bytes with three places of room behind them, that hold sevens. For the law LebFresh. -/
import Derived.Test.YtkecgmoaojklbaaPAllx3
import Derived.Test.YtkecgmoaojklbaaFullK
set_option linter.unusedVariables false
set_option linter.unusedSimpArgs false
namespace Go.Proofs.Ytkecgmoaojklbaa.PAll
open Go.RowKit Go.Proofs.YtkecgmoaojklbaaVW.PrintWords Go.Proofs.YtkecgmoaojklbaaVW.PrintLast Go.Proofs.YtkecgmoaojklbaaVW.PrintMore
attribute [local go_sem] max2_int min2_int max_two min_two max_three min_three max_four min_four   -- for this text's walks alone
/-- A row that is made: of its capacity, too. -/
theorem made_R (W : World) (base n : Nat) (hb : base ≤ W.heap.size) (hn : n ≤ 281474976710656) : ∃ cs : Array Value,
    (Instr.makeSlice 22 (.int .i64 (n : Int)) (.int .i64 (n : Int))).run Try.prog W = .ok (.slice (some ⟨W.heap.size, 0, none⟩) n n) (W.alloc (.cells cs 5)) ∧
    Kd.R (Kd.int .u8) 5 (W.alloc (.cells cs 5)) base (fun _ => True) (.slice (some ⟨W.heap.size, 0, none⟩) n n) (List.replicate n 0) := by
  obtain ⟨i0, hi, hz0, hz1, hz2⟩ := info_parts info5
  have hr := run_make (P := Try.prog) W 22 5 i0 (.int .u8 0) Try.underlying22 hi hz0 .i64 .i64 (n : Int) (n : Int) (by omega) (by omega) (by rw [hz2]; omega) (by omega)
  rw [hz1, Int.toNat_natCast] at hr
  refine ⟨_, hr, ?_⟩
  have hsz : (madeCells (Value.cells (.int .u8 0)) (n * 1)).size = n * 1 := by simp [madeCells]
  have hlen : (List.replicate n (0 : Int)).length = n := List.length_replicate
  have ho := World.ownsRowC_lit (base := base) (e := 5) (size := 1) W (madeCells (Value.cells (.int .u8 0)) (n * 1)) n hb (by unfold maxLen; omega) hsz
  have he : (madeCells (Value.cells (.int .u8 0)) (n * 1)).toList = encs (Value.int .u8) (List.replicate n 0) := by
    apply List.ext_getElem?
    intro i
    unfold madeCells encs
    by_cases h : i < n
    · simp [Value.cells, h, Nat.mod_one]
    · simp [Value.cells, h]
  rw [he] at ho
  have ho2 : (W.alloc (.cells (madeCells (Value.cells (.int .u8 0)) (n * 1)) 5)).ownsRowC base 5 1 (.slice (some ⟨W.heap.size, 0, none⟩) n n) (List.replicate n (0 : Int)).length (encs (Value.int .u8) (List.replicate n 0)) := by rw [hlen]; exact ho
  exact Kd.R_of_own (h1 := fun _ => rfl) ho2 (fun _ _ => trivial)
theorem R_make_cap {w0 W : World} {ops : Array Oper} {rest : List Oper} {o : Oper} {a : Act} {Q : Exit → Act → World → Prop} (base : Nat) (hgd : o.guard = none) (x y : Operand) (ho : o.op = .makeSlice 22 x y) (n : Int) (hx : a.eval x = .int .i64 n) (hy : a.eval y = .int .i64 n)
    (h0 : 0 ≤ n) (hl : n.toNat ≤ 281474976710656) (HB : Below base w0 W) (hbase : base ≤ W.heap.size)
    (h : ∀ g w1, base ≤ g → Kd.R (Kd.int .u8) 5 w1 base (fun _ => True) (.slice (some ⟨g, 0, none⟩) n.toNat n.toNat) (List.replicate n.toNat 0) → Below base w0 w1 → wpList Try.prog ops Q rest (a.put o.dst (.slice (some ⟨g, 0, none⟩) n.toNat n.toNat)) w1) :
    wpList Try.prog ops Q (o :: rest) a W := by
  obtain ⟨m, rfl⟩ := Int.eq_ofNat_of_zero_le h0
  rw [Int.toNat_natCast] at hl h
  obtain ⟨cs, hr, hR⟩ := made_R W base m hbase hl
  refine Kd.event_run hgd (v := .slice (some ⟨W.heap.size, 0, none⟩) m m) (w1 := W.alloc (.cells cs 5)) ?_ (h _ _ hbase hR (HB.alloc hbase _))
  simp [execOp, ho, hx, hy, hr]
/-- What Wide gives. -/
def WideAt (w : World) (base g : Nat) (l : List Int) : Prop := base ≤ g ∧ Kd.R (Kd.int .u8) 5 w base (fun _ => True) (.slice (some ⟨g, 0, none⟩) (l.length + 3) (l.length + 3)) (l ++ [7, 7, 7])
theorem WideAt.below {w w' : World} {base g : Nat} {l : List Int} (h : WideAt w base g l) (hb : Below w.heap.size w w') : WideAt w' base g l := ⟨h.1, Kd.R_below h.2 hb⟩
theorem WideAt.reads {w : World} {base g : Nat} {l : List Int} (h : WideAt w base g l) : Kd.C (Kd.int .u8) w (some ⟨g, 0, none⟩) l.length l := by
  have h1 := Kd.R_capped (m := l.length) h.2 (by simp)
  rw [List.take_left' rfl] at h1
  exact (Kd.R_reads' h1).2.2
/-- Bytes, then sevens up to a place, then others. -/
def sevens (l : List Int) (j : Nat) : List Int := l ++ (List.replicate j 7 ++ List.replicate (3 - j) 0)
theorem sevens_len (l : List Int) {j : Nat} (hj : j ≤ 3) : (sevens l j).length = l.length + 3 := by simp [sevens]; omega
theorem sevens_set (l : List Int) {j : Nat} (hj : j < 3) : (sevens l j).set (l.length + j) 7 = sevens l (j + 1) := by
  unfold sevens
  rw [List.set_append_right _ _ (by omega), show l.length + j - l.length = j by omega]
  match j, hj with
  | 0, _ => rfl
  | 1, _ => rfl
  | 2, _ => rfl
set_option maxHeartbeats 8000000 in
set_option maxRecDepth 100000 in
theorem wide_calls (A0 : Option Addr) (c0 : Nat) (l0 : List Int) (w : World) (hr0 : Kd.C (Kd.int .u8) w A0 l0.length l0) (hc0 : l0.length ≤ c0) (hl : l0.length ≤ 140737488351232) :
    Calls Try.prog 14 #[.slice A0 l0.length c0] w fun e w' => ∃ g : Nat, e = .returned (.slice (some ⟨g, 0, none⟩) l0.length (l0.length + 3)) ∧ WideAt w' w.heap.size g l0 ∧ Below w.heap.size w w' := by
  have HR0 := Aside0.mk hr0
  have HC0 := Aside0.mk hc0
  clear hr0 hc0
  have HB := Aside0.mk (Below.refl w.heap.size w)
  have hz : Aside0 (∀ y : List Int, y = List.replicate ((l0.length : Int) + 3).toNat 0 → l0.take (min l0.length y.length) ++ y.drop (min l0.length y.length) = sevens l0 0) := ⟨by
    rintro y rfl
    have : ((l0.length : Int) + 3).toNat = l0.length + 3 := by omega
    rw [this, List.length_replicate, Nat.min_eq_left (by omega), List.take_length, List.drop_replicate, show l0.length + 3 - l0.length = 3 by omega]
    rfl⟩
  have hn : Aside0 (((l0.length : Int) + 3).toNat = l0.length + 3) := ⟨by omega⟩
  have hmn : Aside0 (min l0.length ((l0.length : Int) + 3).toNat = l0.length) := ⟨by omega⟩
  have q0 : (0 : Int) ≤ (l0.length : Int) + 3 := by omega
  go_enter Try.func14, Try.ntmps14
  go_wp2_with (first | ((with_reducible refine gate_dst (N := 9) rfl ?_); refine R_make_cap _ rfl _ _ rfl ((l0.length : Int) + 3) rfl rfl q0 (by omega) (Below.refl _ _) (Nat.le_refl _) ?_; intro g w1 hg ho hb; have HO := Aside0.mk ho; have HG := Aside0.mk hg; have HB := Aside0.mk hb; clear ho hg hb) | ((with_reducible refine gate_builtin (b := .copy) (xs := #[.tmp 10, .tmp 11]) rfl ?_); refine Kd.R_copy_rows .u8 (w0 := w) w.heap.size rfl (.tmp 10) (.tmp 11) 22 5 (.int .u8 0) 1 rfl Try.underlying22 info5 _ _ l0 _ _ _ (fun _ => True) rfl rfl HO.out (Kd.C_below HR0.out HB.out) HB.out (below_size HB.out) ?_; intro w2 ho hb hg; rw [hz.out _ rfl] at ho; rw [List.length_replicate, hmn.out]; have HO2 : Aside0 (Kd.R (Kd.int .u8) 5 w2 w.heap.size (fun _ => True) (.slice (some ⟨g, 0, none⟩) (l0.length + 3) (l0.length + 3)) (sevens l0 0)) := ⟨ho⟩; have HB2 := Aside0.mk hb; clear ho hb hg HO HB))
  go_loopw [5] (fun i wr => ∃ j : Nat, j ≤ 3 ∧ i = .int .i64 ((l0.length : Int) + j) ∧ Aside0 (Kd.R (Kd.int .u8) 5 wr w.heap.size (fun _ => True) (.slice (some ⟨g, 0, none⟩) (l0.length + 3) (l0.length + 3)) (sevens l0 j)) ∧ Aside0 (Below w.heap.size w wr)) (fun i _ => l0.length + 3 - (intOf i).toNat)
  case atStart => exact ⟨0, by omega, by simp, HO2, HB2⟩
  case round =>
    clear HO2 HB2
    obtain ⟨j, hj, rfl, hM, hB⟩ := hrel
    by_cases hjl : j < 3
    · have q1 : (0 : Int) ≤ (l0.length : Int) + j := by omega
      have q2 : (l0.length : Int) + j < ((l0.length + 3 : Nat) : Int) := by omega
      have e9 : ((l0.length : Int) + j).toNat = l0.length + j := by omega
      obtain ⟨cj, fj⟩ := Kd.R_celln 0 hM.out ((l0.length : Int) + j) q1 q2
      have hN := Kd.R_putn hM.out ((l0.length : Int) + j) 7
      rw [e9, sevens_set l0 hjl] at hN
      rw [e9] at cj fj
      have HN := Aside0.mk hN
      have HE := Aside0.mk e9
      clear hN hM
      go_wp2
      go_roundw
      case rel => exact ⟨j + 1, by omega, by first | rfl | go_num | (congr 1; omega), HN, ⟨hB.out.setCell (p := ⟨g, l0.length + j, none⟩) HG.out _⟩⟩
      case measure => simp [intOf]; omega
    · have q9 : ¬ ((l0.length : Int) + j < ((l0.length + 3 : Nat) : Int)) := by omega
      have ej : j = 3 := by omega
      subst ej
      go_wp2
      go_ret
      exact ⟨_, rfl, ⟨HG.out, hM.out⟩, hB.out⟩
theorem WideAt.seven {w : World} {base g : Nat} {l : List Int} (h : WideAt w base g l) (j : Nat) (hj : j < 3) : w.cell? ⟨g, l.length + j, none⟩ = some (.int .u8 7) := by
  obtain ⟨c1, _⟩ := Kd.R_celln 0 h.2 ((l.length + j : Nat) : Int) (by omega) (by omega)
  rw [Int.toNat_natCast] at c1
  rw [c1]
  unfold rdOf
  rw [Int.toNat_natCast, List.getD_eq_getElem?_getD, List.getElem?_append_right (by omega), show l.length + j - l.length = j by omega]
  match j, hj with
  | 0, _ => rfl
  | 1, _ => rfl
  | 2, _ => rfl
set_option maxHeartbeats 8000000 in
set_option maxRecDepth 100000 in
theorem left_calls (k : Nat) (g : Nat) (A1 : Option Addr) (c1 : Nat) (l0 : List Int) (w : World) (base : Nat) (hw : WideAt w base g l0) (hr1 : Kd.C (Kd.int .u8) w A1 l0.length l0) (hc1 : l0.length ≤ c1) (hl : l0.length ≤ 140737488351232) (hs : stookref00_Same.f k l0 l0 = some true) :
    Calls Try.prog 17 #[.slice (some ⟨g, 0, none⟩) l0.length (l0.length + 3), .slice A1 l0.length c1] w fun e w' => e = .returned (.bool true) ∧ ∃ n : Nat, w' = w.drewN n := by
  have HW := Aside0.mk hw
  have HR1 := Aside0.mk hr1
  have HC1 := Aside0.mk hc1
  have HS := Aside0.mk hs
  have HW2 := Aside0.mk hw.reads
  have s0 := hw.seven 0 (by omega)
  have s1 := hw.seven 1 (by omega)
  have s2 := hw.seven 2 (by omega)
  rw [Nat.add_zero] at s0
  have p1 : ((l0.length : Int) + 1).toNat = l0.length + 1 := by omega
  have p2 : ((l0.length : Int) + 2).toNat = l0.length + 2 := by omega
  have q0 : (0 : Int) ≤ (l0.length : Int) + 3 := by omega
  have q1 : (0 : Int) ≤ (l0.length : Int) + 1 := by omega
  have q2 : (0 : Int) ≤ (l0.length : Int) + 2 := by omega
  have p3 : ((l0.length : Int) + 3).toNat = l0.length + 3 := by omega
  clear hr1 hc1 hs hw
  go_enter Try.func17, Try.ntmps17
  go_wp2_with (first | ((try (refine gate_guard (by rfl) ?_; dsimp only)); go_at_call 10; refine (stookref00_Same.calls k (some ⟨g, 0, none⟩) (l0.length + 3) l0 A1 c1 l0 true w HW2.out (by omega) HR1.out HC1.out HS.out).mono ?_; rintro e w9 ⟨rfl, ⟨nd, rfl⟩⟩))
  go_ret
  exact ⟨rfl, _, rfl⟩
end Go.Proofs.Ytkecgmoaojklbaa.PAll
