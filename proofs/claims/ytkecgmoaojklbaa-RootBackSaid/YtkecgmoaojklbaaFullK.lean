/- Rows of whole numbers of the call's own whose room behind is known, too: append onto such a row keeps that. For the laws PackFresh and FrameFresh. -/
import Derived.Test.YtkecgmoaojklbaaPAllx0
import Derived.Deep.AppendSrc
set_option linter.unusedVariables false
set_option linter.unusedSimpArgs false
namespace Go.Proofs.Ytkecgmoaojklbaa.PAll
open Go.RowKit Go.Proofs.YtkecgmoaojklbaaVW.PrintWords Go.Proofs.YtkecgmoaojklbaaVW.PrintLast Go.Proofs.YtkecgmoaojklbaaVW.PrintMore
/-- A block whose first cells are numbers that may be written. -/
def Room (k : IntKind) (w : World) (g cap : Nat) : Prop := g < w.heap.size ∧ ∀ i, i < cap → (∃ x : Int, w.cell? ⟨g, i, none⟩ = some (.int k x)) ∧ w.frozen? ⟨g, i, none⟩ = false
/-- nil, or a slice of a block of the call's own that holds numbers all through. -/
def Full (k : IntKind) (w : World) (base : Nat) (v : Value) : Prop := v = .slice none 0 0 ∨ ∃ (g n cap : Nat), v = .slice (some ⟨g, 0, none⟩) n cap ∧ base ≤ g ∧ Room k w g cap ∧ n ≤ cap ∧ cap ≤ maxLen
variable {k : IntKind}
theorem cell_same {w w' : World} {g : Nat} (h : w'.heap[g]? = w.heap[g]?) (i : Nat) : w'.cell? ⟨g, i, none⟩ = w.cell? ⟨g, i, none⟩ := by
  unfold World.cell?
  dsimp only
  rw [h]
theorem frozen_same {w w' : World} {g : Nat} (h : w'.heap[g]? = w.heap[g]?) (i : Nat) : w'.frozen? ⟨g, i, none⟩ = w.frozen? ⟨g, i, none⟩ := by
  unfold World.frozen?
  dsimp only
  rw [h]
theorem Room.same {w w' : World} {g cap : Nat} (h : Room k w g cap) (hs : w.heap.size ≤ w'.heap.size) (hh : w'.heap[g]? = w.heap[g]?) : Room k w' g cap :=
  ⟨Nat.lt_of_lt_of_le h.1 hs, fun i hi => by rw [cell_same hh, frozen_same hh]; exact h.2 i hi⟩
theorem Room.below {w w' : World} {g cap : Nat} (h : Room k w g cap) (hb : Below w.heap.size w w') : Room k w' g cap := h.same hb.size (hb.block g h.1)
theorem Room.set {w : World} {g cap : Nat} (h : Room k w g cap) (j : Nat) (x : Int) : Room k (w.setCell ⟨g, j, none⟩ (.int k x)) g cap := by
  refine ⟨by simpa [World.setCell] using h.1, fun i hi => ?_⟩
  obtain ⟨⟨y, hy⟩, hf⟩ := h.2 i hi
  have hlt := h.1
  unfold World.cell? at hy ⊢
  unfold World.frozen? at hf ⊢
  simp only [World.setCell, Array.getElem?_modify, if_true]
  dsimp only at hy hf ⊢
  cases hg : w.heap[g]? with
  | none => rw [hg] at hy; simp at hy
  | some o =>
    rw [hg] at hy hf
    cases o with
    | cells cs t fr =>
      simp only [Option.map_some] at hy hf ⊢
      by_cases e : i = j
      · subst e
        have hl : i < cs.size := (Array.getElem?_eq_some_iff.1 hy).1
        exact ⟨⟨x, by simp [hl]⟩, by simpa using hf⟩
      · exact ⟨⟨y, by
          show (cs.setIfInBounds j (Value.int k x))[i]? = _
          rw [Array.getElem?_setIfInBounds_ne (by omega)]; exact hy⟩, by simpa using hf⟩
    | _ => simp at hy
theorem Room.sets {g cap : Nat} : ∀ (l : List Int) (o : Nat) {w : World}, Room k w g cap → Room k (w.setCells g o (l.map (fun x => Value.int k x))) g cap
  | [], _, _, h => h
  | x :: r, o, w, h => by
    rw [List.map_cons, World.setCells]
    exact Room.sets r (o + 1) (h.set o x)
theorem Full.below {w w' : World} {b : Nat} {v : Value} (h : Full k w b v) (hb : Below w.heap.size w w') : Full k w' b v := by
  rcases h with rfl | ⟨g, n, cap, rfl, hg, hR, hn, hc⟩
  · exact Or.inl rfl
  · exact Or.inr ⟨g, n, cap, rfl, hg, hR.below hb, hn, hc⟩
theorem Full.lower {w : World} {b b' : Nat} {v : Value} (h : Full k w b v) (hb : b' ≤ b) : Full k w b' v := by
  rcases h with rfl | ⟨g, n, cap, rfl, hg, hR, hn, hc⟩
  · exact Or.inl rfl
  · exact Or.inr ⟨g, n, cap, rfl, Nat.le_trans hb hg, hR, hn, hc⟩
/-- A row of the call's own that has no room behind. -/
theorem R_full {w : World} {base e : Nat} {A : Option Addr} {n : Nat} {r : List Int} (h : Kd.R (Kd.int k) e w base (fun _ => True) (.slice A n n) r) : Full k w base (.slice A n n) := by
  obtain ⟨hn, _, hC⟩ := Kd.R_reads' h
  obtain ⟨inner, ho⟩ := Kd.R_own h
  rcases ho.2 with ⟨e, _⟩ | ⟨g, cap, cur, e, hg, hh, _⟩
  · exact Or.inl e
  · injection e with e1 e2 e3
    subst e1
    have hl : r.length ≤ 9223372036854775807 := hC.2.1
    refine Or.inr ⟨g, n, n, rfl, hg, ⟨(Array.getElem?_eq_some_iff.1 hh).1, fun i hi => ?_⟩, Nat.le_refl _, by unfold maxLen; omega⟩
    obtain ⟨c1, c2⟩ := Kd.R_celln 0 h (i : Int) (by omega) (by omega)
    rw [Int.toNat_natCast] at c1 c2
    exact ⟨⟨_, c1⟩, c2⟩
theorem zero_cells (q i : Nat) (hi : i < q) : (Builtin.zeroCells (Value.cells (.int k 0)) q)[i]? = some (.int k 0) := by
  have hz : (Value.cells (.int k 0)) = #[.int k 0] := rfl
  rw [hz]
  simp [Builtin.zeroCells, hi, Nat.mod_one]
section
variable {P : Program}
theorem C_cells {W : World} {l : List Int} {q : Nat} {ad : Addr} (h : Kd.C (Kd.int k) W (some ad) q l) : ∀ j u, (l.map (fun x => Value.int k x))[j]? = some u → W.cell? (ad.add j) = some u := by
  intro j u hj
  rw [List.getElem?_map] at hj
  obtain ⟨x, hx, rfl⟩ := Option.map_eq_some_iff.1 hj
  obtain ⟨hlt, hxe⟩ := List.getElem?_eq_some_iff.1 hx
  have hq : l.length = q := h.1
  obtain ⟨ad', e, hcell⟩ := Kd.at_int h (j : Int) (by omega) (by omega)
  cases e
  rw [Int.toNat_natCast] at hcell
  rw [hcell]
  unfold rd
  rw [Int.toNat_natCast, List.getD_eq_getElem?_getD, hx]
  rfl
/-- Numbers behind such a row: such a row again. -/
theorem app_both (t e : TypeId) (bytes : Nat) (ht : P.underlying t = some (.slice e)) (hinfo : (P.info? e).map (fun i => (i.zero, i.size, i.bytes)) = some (some (.int k 0), 1, bytes)) (hb0 : 0 < bytes)
    (W : World) (base : Nat) (v : Value) (A : Option Addr) (m c : Nat) (xs ys : List Int) (ty : TypeId) (HO : Kd.R (Kd.int k) e W base (fun _ => True) v xs) (HF : Full k W base v) (HC : Kd.C (Kd.int k) W A m ys) (hl : (xs.length + m) * bytes ≤ 140737488355328) (hb : base ≤ W.heap.size) :
    ∃ v' w', (Builtin.append_ #[t, t] ty #[v, .slice A m c]).run P W = .ok v' w' ∧ Kd.R (Kd.int k) e w' base (fun _ => True) v' (xs ++ ys) ∧ Full k w' base v' ∧ W.grownBy w' v.ownBlock ∧ (v'.ownBlock = v.ownBlock ∨ ∃ b, v'.ownBlock = some b ∧ W.heap.size ≤ b) := by
  obtain ⟨i0, hi, hzz⟩ := Option.map_eq_some_iff.1 hinfo
  simp only [Prod.mk.injEq] at hzz
  obtain ⟨hz0, hz1, hz2⟩ := hzz
  have hml : ys.length = m := HC.1
  have hlen : xs.length + m ≤ 140737488355328 := Nat.le_trans (Nat.le_mul_of_pos_right _ hb0) hl
  by_cases h0 : m = 0
  · subst h0
    obtain rfl : ys = [] := List.eq_nil_of_length_eq_zero hml
    refine ⟨v, W, ?_, by rw [List.append_nil]; exact HO, HF, World.grownBy.refl W _, .inl rfl⟩
    have hf : (Builtin.firstCells i0.size 0 (.slice A 0 c)).run P W = .ok #[] W := by
      cases A with
      | none => rfl
      | some ad => exact run_firstCells_some (P := P) W i0.size 0 ad 0 c [] (by simp) (fun j u h => by simp at h)
    rw [hz1] at hf
    rcases HF with rfl | ⟨g, n, cap, rfl, _, _, hnc, _⟩
    · simp [Builtin.append_, run_underlying ht, sizeOf, typeInfo, hi, hz1, Builtin.lenOf, hf]
    · simp [Builtin.append_, run_underlying ht, sizeOf, typeInfo, hi, hz1, Builtin.lenOf, hf, hnc, storeCells]
  · obtain ⟨ad, rfl, _⟩ := Kd.at_int HC 0 (by omega) (by omega)
    have hnc := C_cells HC
    have hone : ∀ u ∈ ys.map (fun x => Value.int k x), u.oneCell' = true := fun u h => by obtain ⟨_, _, rfl⟩ := List.mem_map.1 h; rfl
    have hown := Kd.own_of_R HO
    obtain ⟨v1, w1, hrun, h2, hg, _, hat⟩ := run_append_ownC_at (P := P) W base t ty e i0 (.int k 0) 1 bytes ht hi hz0 hz1 hz2 rfl (by omega) v xs.length _ hown ad m c (ys.map (fun x => Value.int k x)) (by rw [List.length_map, Nat.mul_one, hml]) hnc hone (by simp only [maxLen]; omega) hl hb
    have hlm : (xs ++ ys).length = xs.length + m := by rw [List.length_append, hml]
    have hem : encs (Value.int k) (xs ++ ys) = encs (Value.int k) xs ++ ys.map (fun x => Value.int k x) := by simp [encs]
    refine ⟨v1, w1, hrun, Kd.R_of_own (h1 := fun _ => rfl) (by rw [hlm, hem]; exact h2) (fun _ _ => trivial), ?_, hg, hat⟩
    have hs : Src P i0.size t (.slice (some ad) m c) m (ys.map (fun x => Value.int k x)) W := Src.ofSlice W ht ad m c _ (by rw [List.length_map, hz1, Nat.mul_one, hml]) hnc hone
    by_cases hroom : ∃ g n cap, v = .slice (some ⟨g, 0, none⟩) n cap ∧ n + m ≤ cap
    · obtain ⟨g, n, cap, rfl, hnm⟩ := hroom
      rcases HF with e | ⟨g', n', cap', e, hg', hR, hn', hc'⟩
      · injection e with e1; cases e1
      · injection e with e1 e2 e3
        injection e1 with e1
        injection e1 with e1
        subst e1
        subst e2
        subst e3
        have hr := run_append_room_src (P := P) W t t ty e i0 ht hi g 0 n cap (.slice (some ad) m c) m _ hs hnm
          (fun j hj => by rw [List.length_map, hml] at hj; rw [hz1]; obtain ⟨⟨x, hx⟩, _⟩ := hR.2 (0 + n * 1 + j) (by omega); rw [hx]; rfl)
          (fun j hj => by rw [List.length_map, hml] at hj; rw [hz1]; exact (hR.2 (0 + n * 1 + j) (by omega)).2)
        rw [hr] at hrun
        injection hrun with e1 e2
        subst e1
        subst e2
        exact Or.inr ⟨g, n + m, cap, rfl, hg', Room.sets ys _ hR, hnm, hc'⟩
    · have hold : ∃ (B : Option Addr) (n cap : Nat), v = .slice B n cap ∧ n = xs.length ∧ cap < n + m ∧ (Builtin.firstCells i0.size n (.slice B n cap)).run P W.drew = .ok (xs.map (fun x => Value.int k x)).toArray W.drew := by
        rcases HF with rfl | ⟨g', n', cap', rfl, hg', hR, hn', hc'⟩
        · obtain ⟨hn, _⟩ := Kd.R_reads' HO
          obtain rfl : xs = [] := List.eq_nil_of_length_eq_zero hn.symm
          exact ⟨none, 0, 0, rfl, rfl, by omega, rfl⟩
        · obtain ⟨hn, _, hCt⟩ := Kd.R_reads' HO
          refine ⟨_, n', cap', rfl, hn, ?_, run_firstCells_some (P := P) W.drew i0.size n' ⟨g', 0, none⟩ n' cap' (xs.map (fun x => Value.int k x)) (by rw [List.length_map, hz1, Nat.mul_one, hn]) (C_cells hCt)⟩
          have : ¬ n' + m ≤ cap' := fun h => hroom ⟨g', n', cap', rfl, h⟩
          omega
      obtain ⟨B, n, cap, rfl, hnx, hcap, hold⟩ := hold
      have hr := run_append_grow_src (P := P) W t t ty e i0 (.int k 0) ht hi hz0 B n cap (xs.map (fun x => Value.int k x)) hold (.slice (some ad) m c) m _ hs hcap (by omega) (growslice_fits hcap (by rw [hz2, hnx]; exact hl))
      rw [hr] at hrun
      injection hrun with e1 e2
      subst e1
      subst e2
      refine Or.inr ⟨W.heap.size, n + m, _, rfl, hb, ⟨by simp [World.alloc], fun i hi2 => ?_⟩, grownCap_ge _ _ _ _, grownCap_le_maxLen _ _ _ _ (by unfold maxLen; omega)⟩
      have hg2 : (W.drew.alloc (.cells ((xs.map (fun x => Value.int k x) ++ ys.map (fun x => Value.int k x)).toArray ++ Builtin.zeroCells (Value.cells (.int k 0)) (grownCap W (n + m) cap e - (n + m))) e)).heap[W.heap.size]? = some (.cells ((xs.map (fun x => Value.int k x) ++ ys.map (fun x => Value.int k x)).toArray ++ Builtin.zeroCells (Value.cells (.int k 0)) (grownCap W (n + m) cap e - (n + m))) e (0, 0)) := heap_alloc_new W.drew _
      refine ⟨?_, frozen_of_row _ _ _ _ _ hg2⟩
      rw [cell_of_row _ _ _ _ _ _ hg2]
      have hsz : ((xs.map (fun x => Value.int k x) ++ ys.map (fun x => Value.int k x)).toArray).size = n + m := by
        rw [List.size_toArray, List.length_append, List.length_map, List.length_map, hnx, hml]
      by_cases hlt : i < n + m
      · rw [Array.getElem?_append_left (by rw [hsz]; exact hlt), List.getElem?_toArray, ← List.map_append, List.getElem?_map]
        have : i < (xs ++ ys).length := by rw [List.length_append]; omega
        rw [List.getElem?_eq_getElem this]
        exact ⟨_, rfl⟩
      · rw [Array.getElem?_append_right (by rw [hsz]; omega), hsz, zero_cells _ _ (by omega)]
        exact ⟨_, rfl⟩
theorem app_rows {w0 W : World} {ops : Array Oper} {rest : List Oper} {o : Oper} {a : Act} {Q : Exit → Act → World → Prop} (base : Nat) (hgd : o.guard = none) (s x : Operand) (t e : TypeId) (bytes : Nat)
    (ho : o.op = .call { callee := .builtin .append, args := #[s, x], argTypes := #[t, t] })
    (ht : P.underlying t = some (.slice e)) (hinfo : (P.info? e).map (fun i => (i.zero, i.size, i.bytes)) = some (some (.int k 0), 1, bytes)) (hb0 : 0 < bytes)
    (v : Value) (xs ys : List Int) (A : Option Addr) (m c : Nat) (hs : a.eval s = v) (hx : a.eval x = .slice A m c)
    (HO : Kd.R (Kd.int k) e W base (fun _ => True) v xs) (HF : Full k W base v) (HC : Kd.C (Kd.int k) W A m ys)
    (HB : Below base w0 W) (hbase : base ≤ W.heap.size) (hl : (xs.length + m) * bytes ≤ 140737488355328)
    (h : ∀ v1 w1, Kd.R (Kd.int k) e w1 base (fun _ => True) v1 (xs ++ ys) → Full k w1 base v1 → Below base w0 w1 → W.grownBy w1 v.ownBlock → (v1.ownBlock = v.ownBlock ∨ ∃ b, v1.ownBlock = some b ∧ W.heap.size ≤ b) → wpList P ops Q rest (a.put o.dst v1) w1) :
    wpList P ops Q (o :: rest) a W := by
  obtain ⟨v1, w1, hr1, h1, hf, hg, hat⟩ := app_both (P := P) t e bytes ht hinfo hb0 W base v A m c xs ys o.type HO HF HC hl hbase
  obtain ⟨inner, hown⟩ := Kd.R_own HO
  refine wpList_plain hgd fun K hK => ?_
  unfold Oper.wp execOp
  simp only [ho, resolve, invoke, builtin, Sem.run_bind, Sem.run_pure, Result.andThen_ok, List.map_toArray, List.map_cons, List.map_nil, hs, hx, hr1]
  exact hK _ _ (h v1 w1 h1 hf (HB.grown hg hbase (own_base hown)) hg hat)
/-- One number behind such a row. -/
theorem app_one {w0 W : World} {ops : Array Oper} {rest : List Oper} {o : Oper} {a : Act} {Q : Exit → Act → World → Prop} (base : Nat) (hgd : o.guard = none) (s x : Operand) (t e : TypeId) (bytes : Nat)
    (ho : o.op = .call { callee := .builtin .append, args := #[s, x], argTypes := #[t, t] })
    (ht : P.underlying t = some (.slice e)) (hinfo : (P.info? e).map (fun i => (i.zero, i.size, i.bytes)) = some (some (.int k 0), 1, bytes)) (hb0 : 0 < bytes)
    (v : Value) (xs : List Int) (p : Int) (hs : a.eval s = v) (hx : a.eval x = .slice (some ⟨W.heap.size, 0, none⟩) 1 1)
    (HO : Kd.R (Kd.int k) e W base (fun _ => True) v xs) (HF : Full k W base v)
    (HB : Below base w0 W) (hbase : base ≤ W.heap.size) (hl : (xs.length + 1) * bytes ≤ 140737488355328)
    (h : ∀ v1 w1, Kd.R (Kd.int k) e w1 base (fun _ => True) v1 (xs ++ [p]) → Full k w1 base v1 → Below base w0 w1 → wpList P ops Q rest (a.put o.dst v1) w1) :
    wpList P ops Q (o :: rest) a (W.alloc (.cells #[.int k p] e)) := by
  have hC : Kd.C (Kd.int k) (W.alloc (.cells #[.int k p] e)) (some ⟨W.heap.size, 0, none⟩) 1 [p] := Kd.C_of_reads (d := (0 : Int)) (h1 := fun _ => rfl) ⟨rfl, by decide, fun _ => ⟨_, rfl, fun j hj => by
    have : j = 0 := by omega
    subst this
    rw [addr_add_plain]
    exact cell_of_row _ _ _ _ _ _ (heap_alloc_new W _)⟩⟩
  exact app_rows base hgd s x t e bytes ho ht hinfo hb0 v xs [p] _ 1 1 hs hx (Kd.R_alloc HO _) (HF.below (below_alloc (Below.refl _ _) _)) hC (HB.alloc hbase _) (Nat.le_trans hbase (below_alloc (Below.refl W.heap.size W) _).size) hl (fun v1 w1 h1 h2 h3 _ _ => h v1 w1 h1 h2 h3)
/-- Both: the row, and the room behind it. -/
def RF (k : IntKind) (e : Nat) (w : World) (base : Nat) (v : Value) (xs : List Int) : Prop := Kd.R (Kd.int k) e w base (fun _ => True) v xs ∧ Full k w base v
theorem RF.below {w w' : World} {e base : Nat} {v : Value} {xs : List Int} (h : RF k e w base v xs) (hb : Below w.heap.size w w') : RF k e w' base v xs := ⟨Kd.R_below h.1 hb, h.2.below hb⟩
theorem RF_alloc {w : World} {e base : Nat} {v : Value} {xs : List Int} (h : RF k e w base v xs) (o : Obj) : RF k e (w.alloc o) base v xs := h.below (below_alloc (Below.refl _ _) o)
theorem RF_drew {w : World} {e base : Nat} {v : Value} {xs : List Int} (h : RF k e w base v xs) : RF k e w.drew base v xs := h.below (below_drew1 (Below.refl _ _))
theorem RF_drewN {w : World} {e base : Nat} {v : Value} {xs : List Int} (h : RF k e w base v xs) (n : Nat) : RF k e (w.drewN n) base v xs := h.below (pw_below_drewN (Below.refl _ _) n)
theorem RF_nil (e : Nat) (w : World) (base : Nat) : RF k e w base (.slice none 0 0) [] := ⟨Kd.R_nil _ _ _ _ _, Or.inl rfl⟩
end
end Go.Proofs.Ytkecgmoaojklbaa.PAll
