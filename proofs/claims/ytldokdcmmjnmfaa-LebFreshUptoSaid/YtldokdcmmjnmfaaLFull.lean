/- Rows of bytes whose room behind is known, too; leb.put with the capacity that it gives; append behind such a row; f0.Spoil. For the law LebFresh. -/
import Derived.Test.YtldokdcmmjnmfaaPAllx1
import Derived.Deep.AppendSrc
set_option linter.unusedVariables false
set_option linter.unusedSimpArgs false
namespace Go.Proofs.Ytldokdcmmjnmfaa.PAll
open Go.RowKit Go.Proofs.YtldokdcmmjnmfaaVW.PrintWords Go.Proofs.YtldokdcmmjnmfaaVW.PrintLast Go.Proofs.YtldokdcmmjnmfaaVW.PrintMore
attribute [local go_sem] max2_int min2_int max_two min_two max_three min_three max_four min_four   -- for this text's walks alone
/-- A block whose first cells are bytes that may be written. -/
def Room (w : World) (g cap : Nat) : Prop := g < w.heap.size ∧ ∀ i, i < cap → (∃ x : Int, w.cell? ⟨g, i, none⟩ = some (.int .u8 x)) ∧ w.frozen? ⟨g, i, none⟩ = false
/-- nil, or a slice of a block of the call's own that holds bytes all through. -/
def FullB (w : World) (base : Nat) (v : Value) : Prop := v = .slice none 0 0 ∨ ∃ (g n cap : Nat), v = .slice (some ⟨g, 0, none⟩) n cap ∧ base ≤ g ∧ Room w g cap ∧ n ≤ cap ∧ cap ≤ maxLen
theorem cell_same {w w' : World} {g : Nat} (h : w'.heap[g]? = w.heap[g]?) (i : Nat) : w'.cell? ⟨g, i, none⟩ = w.cell? ⟨g, i, none⟩ := by
  unfold World.cell?
  dsimp only
  rw [h]
theorem frozen_same {w w' : World} {g : Nat} (h : w'.heap[g]? = w.heap[g]?) (i : Nat) : w'.frozen? ⟨g, i, none⟩ = w.frozen? ⟨g, i, none⟩ := by
  unfold World.frozen?
  dsimp only
  rw [h]
theorem Room.same {w w' : World} {g cap : Nat} (h : Room w g cap) (hs : w.heap.size ≤ w'.heap.size) (hh : w'.heap[g]? = w.heap[g]?) : Room w' g cap :=
  ⟨Nat.lt_of_lt_of_le h.1 hs, fun i hi => by rw [cell_same hh, frozen_same hh]; exact h.2 i hi⟩
theorem Room.below {w w' : World} {g cap : Nat} (h : Room w g cap) (hb : Below w.heap.size w w') : Room w' g cap := h.same hb.size (hb.block g h.1)
theorem Room.set {w : World} {g cap : Nat} (h : Room w g cap) (j : Nat) (x : Int) : Room (w.setCell ⟨g, j, none⟩ (.int .u8 x)) g cap := by
  refine ⟨by simpa [World.setCell] using h.1, fun i hi => ?_⟩
  obtain ⟨⟨y, hy⟩, hf⟩ := h.2 i hi
  have hlt := h.1
  unfold World.cell? at hy ⊢
  unfold World.frozen? at hf ⊢
  simp only [World.setCell, Array.getElem?_modify, if_true]
  dsimp only at hy hf ⊢
  cases hg : w.heap[g]? with
  | none => rw [hg] at hy; simp at hy
  | some o =>
    rw [hg] at hy hf
    cases o with
    | cells cs t fr =>
      simp only [Option.map_some] at hy hf ⊢
      by_cases e : i = j
      · subst e
        have hl : i < cs.size := (Array.getElem?_eq_some_iff.1 hy).1
        exact ⟨⟨x, by simp [hl]⟩, by simpa using hf⟩
      · exact ⟨⟨y, by
          show (cs.setIfInBounds j (Value.int .u8 x))[i]? = _
          rw [Array.getElem?_setIfInBounds_ne (by omega)]; exact hy⟩, by simpa using hf⟩
    | _ => simp at hy
theorem FullB.below {w w' : World} {b : Nat} {v : Value} (h : FullB w b v) (hb : Below w.heap.size w w') : FullB w' b v := by
  rcases h with rfl | ⟨g, n, cap, rfl, hg, hR, hn, hc⟩
  · exact Or.inl rfl
  · exact Or.inr ⟨g, n, cap, rfl, hg, hR.below hb, hn, hc⟩
/-- A row of the call's own that has no room behind. -/
theorem R_full {w : World} {base : Nat} {A : Option Addr} {n : Nat} {r : List Int} (h : Kd.R (Kd.int .u8) 5 w base (fun _ => True) (.slice A n n) r) : FullB w base (.slice A n n) := by
  obtain ⟨hn, _, hC⟩ := Kd.R_reads' h
  obtain ⟨inner, ho⟩ := Kd.R_own h
  rcases ho.2 with ⟨e, _⟩ | ⟨g, cap, cur, e, hg, hh, _⟩
  · exact Or.inl e
  · injection e with e1 e2 e3
    subst e1
    have hl : r.length ≤ 9223372036854775807 := hC.2.1
    refine Or.inr ⟨g, n, n, rfl, hg, ⟨(Array.getElem?_eq_some_iff.1 hh).1, fun i hi => ?_⟩, Nat.le_refl _, by unfold maxLen; omega⟩
    obtain ⟨c1, c2⟩ := Kd.R_celln 0 h (i : Int) (by omega) (by omega)
    rw [Int.toNat_natCast] at c1 c2
    exact ⟨⟨_, c1⟩, c2⟩
/-- A row that is made: of its capacity, too. -/
theorem made_R (W : World) (base n : Nat) (hb : base ≤ W.heap.size) (hn : n ≤ 281474976710656) : ∃ cs : Array Value,
    (Instr.makeSlice 22 (.int .i64 (n : Int)) (.int .i64 (n : Int))).run Try.prog W = .ok (.slice (some ⟨W.heap.size, 0, none⟩) n n) (W.alloc (.cells cs 5)) ∧
    Kd.R (Kd.int .u8) 5 (W.alloc (.cells cs 5)) base (fun _ => True) (.slice (some ⟨W.heap.size, 0, none⟩) n n) (List.replicate n 0) := by
  obtain ⟨i0, hi, hz0, hz1, hz2⟩ := info_parts info5
  have hr := run_make (P := Try.prog) W 22 5 i0 (.int .u8 0) Try.underlying22 hi hz0 .i64 .i64 (n : Int) (n : Int) (by omega) (by omega) (by rw [hz2]; omega) (by omega)
  rw [hz1, Int.toNat_natCast] at hr
  refine ⟨_, hr, ?_⟩
  have hsz : (madeCells (Value.cells (.int .u8 0)) (n * 1)).size = n * 1 := by simp [madeCells]
  have hlen : (List.replicate n (0 : Int)).length = n := List.length_replicate
  have ho := World.ownsRowC_lit (base := base) (e := 5) (size := 1) W (madeCells (Value.cells (.int .u8 0)) (n * 1)) n hb (by unfold maxLen; omega) hsz
  have he : (madeCells (Value.cells (.int .u8 0)) (n * 1)).toList = encs (Value.int .u8) (List.replicate n 0) := by
    apply List.ext_getElem?
    intro i
    unfold madeCells encs
    by_cases h : i < n
    · simp [Value.cells, h, Nat.mod_one]
    · simp [Value.cells, h]
  rw [he] at ho
  have ho2 : (W.alloc (.cells (madeCells (Value.cells (.int .u8 0)) (n * 1)) 5)).ownsRowC base 5 1 (.slice (some ⟨W.heap.size, 0, none⟩) n n) (List.replicate n (0 : Int)).length (encs (Value.int .u8) (List.replicate n 0)) := by rw [hlen]; exact ho
  exact Kd.R_of_own (h1 := fun _ => rfl) ho2 (fun _ _ => trivial)
theorem R_make_cap {w0 W : World} {ops : Array Oper} {rest : List Oper} {o : Oper} {a : Act} {Q : Exit → Act → World → Prop} (base : Nat) (hgd : o.guard = none) (x y : Operand) (ho : o.op = .makeSlice 22 x y) (n : Int) (hx : a.eval x = .int .i64 n) (hy : a.eval y = .int .i64 n)
    (h0 : 0 ≤ n) (hl : n.toNat ≤ 281474976710656) (HB : Below base w0 W) (hbase : base ≤ W.heap.size)
    (h : ∀ g w1, base ≤ g → Kd.R (Kd.int .u8) 5 w1 base (fun _ => True) (.slice (some ⟨g, 0, none⟩) n.toNat n.toNat) (List.replicate n.toNat 0) → Below base w0 w1 → wpList Try.prog ops Q rest (a.put o.dst (.slice (some ⟨g, 0, none⟩) n.toNat n.toNat)) w1) :
    wpList Try.prog ops Q (o :: rest) a W := by
  obtain ⟨m, rfl⟩ := Int.eq_ofNat_of_zero_le h0
  rw [Int.toNat_natCast] at hl h
  obtain ⟨cs, hr, hR⟩ := made_R W base m hbase hl
  refine Kd.event_run hgd (v := .slice (some ⟨W.heap.size, 0, none⟩) m m) (w1 := W.alloc (.cells cs 5)) ?_ (h _ _ hbase hR (HB.alloc hbase _))
  simp [execOp, ho, hx, hy, hr]
theorem zero_cells (k i : Nat) (hi : i < k) : (Builtin.zeroCells (Value.cells (.int .u8 0)) k)[i]? = some (.int .u8 0) := by
  have hz : (Value.cells (.int .u8 0)) = #[.int .u8 0] := rfl
  rw [hz]
  simp [Builtin.zeroCells, hi, Nat.mod_one]
/-- Bytes behind a row that has no room: the same row, or a new one. -/
theorem app_run (W : World) (base : Nat) (g n : Nat) (A : Option Addr) (m c : Nat) (t l : List Int) (ty : TypeId) (hR : Kd.R (Kd.int .u8) 5 W base (fun _ => True) (.slice (some ⟨g, 0, none⟩) n n) t) (hn : 0 < n) (hC : Kd.C (Kd.int .u8) W A m l) (hl : n + m ≤ 140737488355328) (hb : base ≤ W.heap.size) :
    ∃ v' w', (Builtin.append_ #[22, 22] ty #[.slice (some ⟨g, 0, none⟩) n n, .slice A m c]).run Try.prog W = .ok v' w' ∧ FullB w' base v' ∧ Below W.heap.size W w' := by
  obtain ⟨i0, hi, hz0, hz1, hz2⟩ := info_parts info5
  obtain ⟨hnt, _, hCt⟩ := Kd.R_reads' hR
  have hml : l.length = m := hC.1
  have hat : ∀ (l : List Int) (q : Nat) (ad : Addr), Kd.C (Kd.int .u8) W (some ad) q l → ∀ j u, (l.map (fun x => Value.int .u8 x))[j]? = some u → W.cell? (ad.add j) = some u := by
    intro l q ad h j u hj
    rw [List.getElem?_map] at hj
    obtain ⟨x, hx, rfl⟩ := Option.map_eq_some_iff.1 hj
    obtain ⟨hlt, hxe⟩ := List.getElem?_eq_some_iff.1 hx
    have hq : l.length = q := h.1
    obtain ⟨ad', e, hcell⟩ := Kd.at_int h (j : Int) (by omega) (by omega)
    cases e
    rw [Int.toNat_natCast] at hcell
    rw [hcell]
    unfold rd
    rw [Int.toNat_natCast, List.getD_eq_getElem?_getD, hx]
    rfl
  by_cases h0 : m = 0
  · have hl0 : l = [] := List.eq_nil_of_length_eq_zero (by omega)
    have hs : Src Try.prog i0.size 22 (.slice A m c) 0 [] W := by
      subst h0
      cases A with
      | none => exact Src.ofNil W Try.underlying22 c
      | some ad => exact Src.ofSlice W Try.underlying22 ad 0 c [] (by simp) (fun j u h => by simp at h) (fun u h => by simp at h)
    have hr := run_append_room_src (P := Try.prog) W 22 22 ty 5 i0 Try.underlying22 hi g 0 n n (.slice A m c) 0 [] hs (by omega) (fun j hj => absurd hj (by simp)) (fun j hj => absurd hj (by simp))
    exact ⟨_, _, hr, R_full hR, Below.refl _ _⟩
  · have hA : ∃ ad, A = some ad := by
      obtain ⟨ad, e, _⟩ := Kd.at_int hC 0 (by omega) (by omega)
      exact ⟨ad, e⟩
    obtain ⟨ad, rfl⟩ := hA
    have hs : Src Try.prog i0.size 22 (.slice (some ad) m c) m (l.map (fun x => Value.int .u8 x)) W :=
      Src.ofSlice W Try.underlying22 ad m c _ (by rw [List.length_map, hz1, Nat.mul_one, hml]) (hat l m ad hC) (fun u h => by obtain ⟨_, _, rfl⟩ := List.mem_map.1 h; rfl)
    have hold := run_firstCells_some (P := Try.prog) W.drew i0.size n ⟨g, 0, none⟩ n n (t.map (fun x => Value.int .u8 x)) (by rw [List.length_map, hz1, Nat.mul_one, hnt]) (hat t t.length _ hCt)
    have hr := run_append_grow_src (P := Try.prog) W 22 22 ty 5 i0 (.int .u8 0) Try.underlying22 hi hz0 (some ⟨g, 0, none⟩) n n (t.map (fun x => Value.int .u8 x)) hold (.slice (some ad) m c) m _ hs (by omega) (by omega) (growslice_fits (by omega) (by rw [hz2]; omega))
    refine ⟨_, _, hr, Or.inr ⟨W.heap.size, n + m, _, rfl, hb, ⟨by simp [World.alloc], fun i hi2 => ?_⟩, grownCap_ge _ _ _ _, grownCap_le_maxLen _ _ _ _ (by unfold maxLen; omega)⟩, below_alloc (below_drew1 (Below.refl _ _)) _⟩
    have hg2 : (W.drew.alloc (.cells ((t.map (fun x => Value.int .u8 x) ++ l.map (fun x => Value.int .u8 x)).toArray ++ Builtin.zeroCells (Value.cells (.int .u8 0)) (grownCap W (n + m) n 5 - (n + m))) 5)).heap[W.heap.size]? = some (.cells ((t.map (fun x => Value.int .u8 x) ++ l.map (fun x => Value.int .u8 x)).toArray ++ Builtin.zeroCells (Value.cells (.int .u8 0)) (grownCap W (n + m) n 5 - (n + m))) 5 (0, 0)) := heap_alloc_new W.drew _
    refine ⟨?_, frozen_of_row _ _ _ _ _ hg2⟩
    rw [cell_of_row _ _ _ _ _ _ hg2]
    have hsz : ((t.map (fun x => Value.int .u8 x) ++ l.map (fun x => Value.int .u8 x)).toArray).size = n + m := by
      rw [List.size_toArray, List.length_append, List.length_map, List.length_map, hnt, hml]
    by_cases hlt : i < n + m
    · rw [Array.getElem?_append_left (by rw [hsz]; exact hlt), List.getElem?_toArray, ← List.map_append, List.getElem?_map]
      have : i < (t ++ l).length := by rw [List.length_append]; omega
      rw [List.getElem?_eq_getElem this]
      exact ⟨_, rfl⟩
    · rw [Array.getElem?_append_right (by rw [hsz]; omega), hsz, zero_cells _ _ (by omega)]
      exact ⟨_, rfl⟩
theorem wpList_app {P : Program} (w : World) {ops : Array Oper} {rest : List Oper} {o : Oper} {a : Act} {Q : Exit → Act → World → Prop}
    (hg : o.guard = none) (s x : Operand) (t : TypeId) (hop : o.op = Op.call { callee := Callee.builtin Builtin.append, args := #[s, x], argTypes := #[t, t] })
    (v u : Value) (hs : a.eval s = v) (hx : a.eval x = u) (v' : Value) (w' : World) (hrun : (Builtin.append_ #[t, t] o.type #[v, u]).run P w = .ok v' w')
    (hK : wpList P ops Q rest (a.put o.dst v') w') : wpList P ops Q (o :: rest) a w := by
  refine wpList_plain hg fun K hK' => ?_
  subst hs
  subst hx
  unfold Oper.wp
  simp [execOp, hop, resolve, invoke, builtin, hrun, Result.andThen]
  exact hK' _ _ hK
set_option maxHeartbeats 8000000 in
set_option maxRecDepth 100000 in
theorem spoil_room (g n cap : Nat) (w : World) (hR : Room w g cap) (hn : n ≤ cap) (hc : cap ≤ maxLen) :
    Calls Try.prog 6 #[.slice (some ⟨g, 0, none⟩) n cap, .int .u8 1] w fun e w' => e = .returned (.tuple #[]) ∧ Room w' g cap ∧ (∀ j, j ≠ g → w'.heap[j]? = w.heap[j]?) ∧ Below g w w' := by
  have hc2 : cap ≤ 9223372036854775807 := by unfold maxLen at hc; omega
  clear hc
  have q1 : (0 : Int) ≤ cap := by omega
  have q2 : (cap : Int) ≤ cap := by omega
  have q3 : (n : Int) ≤ cap := by omega
  go_enter Try.func6, Try.ntmps6
  go_wp2
  go_loopw [4] (fun i wr => ∃ j : Nat, j ≤ cap ∧ i = .int .i64 j ∧ Aside0 (Room wr g cap) ∧ Aside0 ((∀ j, j ≠ g → wr.heap[j]? = w.heap[j]?) ∧ Below g w wr)) (fun i _ => cap - (intOf i).toNat)
  case atStart => exact ⟨0, Nat.zero_le _, rfl, ⟨hR⟩, ⟨fun _ _ => rfl, Below.refl _ _⟩⟩
  case round =>
    obtain ⟨j, hj, rfl, hM, hB⟩ := hrel
    by_cases hjl : j < cap
    · obtain ⟨⟨x, cj⟩, fj⟩ := hM.out.2 j hjl
      have q4 : (0 : Int) ≤ j := by omega
      have q5 : (j : Int) < cap := by omega
      go_wp2
      go_roundw
      case rel => exact ⟨j + 1, by omega, by first | rfl | go_num, ⟨hM.out.set j _⟩, ⟨fun q hq => (Below.heap_setCell _ ⟨g, j, none⟩ _ q hq).trans (hB.out.1 q hq), hB.out.2.setCell (p := ⟨g, j, none⟩) (Nat.le_refl _) _⟩⟩
      case measure => simp [intOf]; omega
    · have q9 : ¬ ((j : Int) < cap) := by omega
      go_wp2
      go_end0
      exact ⟨rfl, hM.out, hB.out.1, hB.out.2⟩
set_option maxHeartbeats 8000000 in
set_option maxRecDepth 100000 in
theorem spoil_nil (w : World) : Calls Try.prog 6 #[.slice none 0 0, .int .u8 1] w fun e w' => e = .returned (.tuple #[]) ∧ w' = w := by
  go_enter Try.func6, Try.ntmps6
  go_wp2
  refine wp_loop_rounds 1 ?_
  rw [rounds_succ]
  go_wp2
  go_end0
  exact ⟨rfl, rfl⟩
/-- What is spoilt is new memory: all else stays. -/
theorem spoil_full (base : Nat) (v : Value) (w : World) (h : FullB w base v) :
    Calls Try.prog 6 #[v, .int .u8 1] w fun e w' => e = .returned (.tuple #[]) ∧ Below base w w' := by
  rcases h with rfl | ⟨g, n, cap, rfl, hg, hR, hn, hc⟩
  · refine (spoil_nil w).mono ?_
    rintro e w' ⟨rfl, rfl⟩
    exact ⟨rfl, Below.refl _ _⟩
  · refine (spoil_room g n cap w hR hn hc).mono ?_
    rintro e w' ⟨rfl, hRm, hj, hB⟩
    exact ⟨rfl, hB.mono hg⟩
end Go.Proofs.Ytldokdcmmjnmfaa.PAll
