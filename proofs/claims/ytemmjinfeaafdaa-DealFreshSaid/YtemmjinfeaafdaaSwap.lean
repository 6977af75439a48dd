/- The closure of deal.Back, by a contract of its own: what it makes of the two rows that it has captured. -/
import Derived.Test.YtemmjinfeaafdaaExt
import Derived.Test.YtemmjinfeaafdaaProg
import Derived.BigRegion
import Derived.RegionTactic
import Derived.ChangeAlike
import Derived.WalkKit
import Derived.Test.YtemmjinfeaafdaaPerm
set_option linter.unusedVariables false
set_option linter.unusedSimpArgs false
namespace Go.Proofs.Ytemmjinfeaafdaa.Hand
open Go.RowKit Go.Proofs.YtemmjinfeaafdaaVW.PrintWords Go.Proofs.YtemmjinfeaafdaaVW.PrintLast Go.Proofs.YtemmjinfeaafdaaVW.PrintMore

def cellsOf (l : List Int) : Array Value := (l.map (Value.int .i64)).toArray
/-- A block that holds numbers. -/
def Row (w : World) (g : Nat) (l : List Int) : Prop := w.heap[g]? = some (.cells (cellsOf l) 3 (0, 0))
/-- A variable that holds such a row. -/
def Box (w : World) (b g n : Nat) : Prop := w.heap[b]? = some (.cells #[.slice (some ⟨g, 0, none⟩) n n] 22 (0, 0))
section
variable {w : World} {g b n i : Nat} {l : List Int}
theorem Row.cell (h : Row w g l) (hi : i < l.length) : w.cell? ⟨g, i, none⟩ = some (.int .i64 (l.getD i 0)) := by
  rw [cell_of_row w g i _ 3 (0, 0) h]
  simp [cellsOf, hi]
theorem Row.free (h : Row w g l) (i : Nat) : w.frozen? ⟨g, i, none⟩ = false := frozen_of_row w g i _ 3 h
theorem Row.set (h : Row w g l) (i : Nat) (v : Int) : Row (w.setCell ⟨g, i, none⟩ (.int .i64 v)) g (l.set i v) := by
  unfold Row
  rw [setCell_rowF h i]
  simp [cellsOf, List.map_set]
theorem Row.far (h : Row w g l) {a : Addr} (ha : g ≠ a.block) (u : Value) : Row (w.setCell a u) g l := (Below.heap_setCell w a u g ha).trans h
theorem Box.far (h : Box w b g n) {a : Addr} (ha : b ≠ a.block) (u : Value) : Box (w.setCell a u) b g n := (Below.heap_setCell w a u b ha).trans h
theorem Box.cell (h : Box w b g n) : w.cell? ⟨b, 0, none⟩ = some (.slice (some ⟨g, 0, none⟩) n n) := cell_of_one h
theorem Box.free (h : Box w b g n) : w.frozen? ⟨b, 0, none⟩ = false := free_of_one h
end

/-- What stands while the steps are found: two rows, each in a variable; nothing of what was there has changed. -/
structure St (w0 : World) (s n : Nat) (la lb : List Int) (w : World) : Prop where
  rn : Row w s la
  bn : Box w (s + 1) s n
  rw : Row w (s + 1 + 1) lb
  bw : Box w (s + 1 + 1 + 1) (s + 1 + 1) n
  ha : la.length = n
  hb : lb.length = n
  be : Below w0.heap.size w0 w
  lo : w0.heap.size ≤ s
section
variable {w0 w w' : World} {s n : Nat} {la lb : List Int}
theorem St.lt (h : St w0 s n la lb w) : s + 4 ≤ w.heap.size := lt_of_block h.bw
theorem St.grown (h : St w0 s n la lb w) {row : Option Nat} (hg : w.grownBy w' row) (hr : ∀ k, row = some k → s + 4 ≤ k) : St w0 s n la lb w' := by
  have hl := h.lt
  have hm : ∀ j, j < s + 4 → w'.heap[j]? = w.heap[j]? := fun j hj => hg.block j (by omega) (fun e => by have := hr j e.symm; omega)
  exact ⟨(hm s (by omega)).trans h.rn, (hm (s + 1) (by omega)).trans h.bn, (hm (s + 1 + 1) (by omega)).trans h.rw, (hm (s + 1 + 1 + 1) (by omega)).trans h.bw, h.ha, h.hb, h.be.grown hg (by have := h.lo; omega) (fun k hk => by have := hr k hk; have := h.lo; omega), h.lo⟩
theorem St.alloc (h : St w0 s n la lb w) (o : Obj) : St w0 s n la lb (w.alloc o) := h.grown (World.grownBy_alloc w o none) (fun _ h => by cases h)
theorem St.drew (h : St w0 s n la lb w) : St w0 s n la lb w.drew := ⟨h.rn, h.bn, h.rw, h.bw, h.ha, h.hb, h.be.drew, h.lo⟩
theorem St.two (h : St w0 s n la lb w) (i j : Nat) (u v : Int) : St w0 s n (la.set i u) (lb.set j v) ((w.setCell ⟨s, i, none⟩ (.int .i64 u)).setCell ⟨s + 1 + 1, j, none⟩ (.int .i64 v)) :=
  ⟨(h.rn.set i u).far (by dsimp only; omega) _, (h.bn.far (by dsimp only; omega) _).far (by dsimp only; omega) _, (h.rw.far (by dsimp only; omega) _).set j v, (h.bw.far (by dsimp only; omega) _).far (by dsimp only; omega) _, by simp [h.ha], by simp [h.hb],
    (h.be.setCell (p := ⟨s, i, none⟩) h.lo _).setCell (p := ⟨s + 1 + 1, j, none⟩) (Nat.le_trans h.lo (by simp; omega)) _, h.lo⟩
end
/-- The numbers in their order, as far as they are laid. -/
def laid (n k : Nat) : List Int := Perm.tab n (fun y => if y < k then (y : Int) else 0)
theorem laid_len (n k : Nat) : (laid n k).length = n := Perm.tab_len _ _
theorem laid_zero (n : Nat) : laid n 0 = List.replicate n 0 := by
  unfold laid
  rw [Perm.tab_const]
  exact Perm.tab_congr (fun x _ => by rw [if_neg (by omega)])
theorem laid_set (n k : Nat) : (laid n k).set k (k : Int) = laid n (k + 1) := by
  unfold laid
  rw [Perm.tab_set]
  refine Perm.tab_congr (fun x _ => ?_)
  by_cases e : x = k
  · rw [e, Perm.upd_same, if_pos (by omega)]
  · rw [Perm.upd_other _ _ e]
    by_cases h : x < k
    · rw [if_pos h, if_pos (by omega)]
    · rw [if_neg h, if_neg (by omega)]
theorem laid_all (n : Nat) : laid n n = Perm.tab n (fun y => (y : Int)) := Perm.tab_congr (fun x hx => by rw [if_pos hx])
/-- The rows as they are made. -/
theorem made_cells (n : Nat) : madeCells (Value.int .i64 0).cells (n * 1) = cellsOf (List.replicate n 0) := by
  apply Array.ext_getElem?
  intro i
  unfold madeCells cellsOf
  by_cases h : i < n
  · simp [Value.cells, h, Nat.mod_one]
  · simp [Value.cells, h]
theorem start_st {w0 w1 : World} (hb : Below w0.heap.size w0 w1) (n : Nat) :
    St w0 w1.heap.size n (List.replicate n 0) (List.replicate n 0)
      (((((w1.alloc (.cells (cellsOf (List.replicate n 0)) 3)).alloc (.cells #[.slice (some ⟨w1.heap.size, 0, none⟩) n n] 22)).alloc (.cells (cellsOf (List.replicate n 0)) 3)).alloc (.cells #[.slice (some ⟨w1.heap.size + 1 + 1, 0, none⟩) n n] 22))) := by
  have hs := hb.size
  have g : ∀ (w : World) (o : Obj) (k : Nat), k < w.heap.size → (w.alloc o).heap[k]? = w.heap[k]? := fun w o k h => Below.heap_alloc w o k h
  have z : ∀ (w : World) (o : Obj), (w.alloc o).heap.size = w.heap.size + 1 := fun w o => by simp
  have new : ∀ (w : World) (o : Obj) (k : Nat), k = w.heap.size → (w.alloc o).heap[k]? = some o := fun w o k h => by rw [h]; exact heap_alloc_new w o
  refine ⟨?_, ?_, ?_, ?_, by simp, by simp, (((hb.alloc hs _).alloc ?_ _).alloc ?_ _).alloc ?_ _, hs⟩
  · exact (g _ _ _ (by simp only [z]; omega)).trans ((g _ _ _ (by simp only [z]; omega)).trans ((g _ _ _ (by simp only [z]; omega)).trans (new _ _ _ rfl)))
  · exact (g _ _ _ (by simp only [z]; omega)).trans ((g _ _ _ (by simp only [z]; omega)).trans (new _ _ _ (by simp only [z])))
  · exact (g _ _ _ (by simp only [z]; omega)).trans (new _ _ _ (by simp only [z]))
  · exact new _ _ _ (by simp only [z])
  · simp only [z]; omega
  · simp only [z]; omega
  · simp only [z]; omega
set_option maxHeartbeats 4000000 in
set_option maxRecDepth 100000 in
theorem swap_any (gn bn gw bw n i k na nb : Nat) (la lb : List Int) (w : World) (hn : n ≤ 65536) (ha : la.length = n) (hb : lb.length = n) (hi : i < n) (hk : k < n)
    (h1 : la.getD i 0 = na) (h2 : la.getD k 0 = nb) (h3 : na < n) (h4 : nb < n)
    (R1 : Row w gn la) (R2 : Row w gw lb) (B1 : Box w bn gn n) (B2 : Box w bw gw n) (n1 : gn ≠ gw) (n2 : gn ≠ bn) (n3 : gn ≠ bw) (n4 : gw ≠ bn) (n5 : gw ≠ bw) (n6 : bn ≠ bw) :
    Calls Try.prog 34 #[.int .i64 i, .int .i64 k, .pointer (some ⟨bn, 0, none⟩), .pointer (some ⟨bw, 0, none⟩)] w fun e w' => e = .returned (.tuple #[]) ∧
      Row w' gn ((la.set i nb).set k na) ∧ Row w' gw ((lb.set nb i).set na k) ∧ Box w' bn gn n ∧ Box w' bw gw n ∧ (∀ B, B ≤ gn → B ≤ gw → Below B w w') ∧ ∀ j, j ≠ gn → j ≠ gw → w'.heap[j]? = w.heap[j]? := by
  have cB1 := B1.cell
  have cB2 := B2.cell
  have ci : w.cell? ⟨gn, i, none⟩ = some (.int .i64 na) := by rw [R1.cell (by omega), h1]
  have ck : w.cell? ⟨gn, k, none⟩ = some (.int .i64 nb) := by rw [R1.cell (by omega), h2]
  have fi := R1.free i
  have fk := R1.free k
  have fi2 : (w.setCell ⟨gn, i, none⟩ (.int .i64 nb)).frozen? ⟨gn, k, none⟩ = false := (R1.set i nb).free k
  obtain ⟨x1, ck2⟩ : ∃ x, (w.setCell ⟨gn, i, none⟩ (.int .i64 nb)).cell? ⟨gn, k, none⟩ = some (.int .i64 x) := ⟨_, (R1.set i nb).cell (by simp; omega)⟩
  have q1 : (0 : Int) ≤ i := by omega
  have q2 : (i : Int) < n := by omega
  have q3 : (0 : Int) ≤ k := by omega
  have q4 : (k : Int) < n := by omega
  go_enter Try.func34, Try.ntmps34
  go_wp2
  go_region
  have R1' : Row (((w.setCell ⟨gn, i, none⟩ (.int .i64 nb)).setCell ⟨gn, k, none⟩ (.int .i64 na)).drew) gn ((la.set i nb).set k na) := (R1.set i nb).set k na
  have R2' : Row (((w.setCell ⟨gn, i, none⟩ (.int .i64 nb)).setCell ⟨gn, k, none⟩ (.int .i64 na)).drew) gw lb := (R2.far n1.symm _).far n1.symm _
  have B1' : Box (((w.setCell ⟨gn, i, none⟩ (.int .i64 nb)).setCell ⟨gn, k, none⟩ (.int .i64 na)).drew) bn gn n := (B1.far n2.symm _).far n2.symm _
  have B2' : Box (((w.setCell ⟨gn, i, none⟩ (.int .i64 nb)).setCell ⟨gn, k, none⟩ (.int .i64 na)).drew) bw gw n := (B2.far n3.symm _).far n3.symm _
  obtain ⟨W1, hW1⟩ : ∃ W1, ((w.setCell ⟨gn, i, none⟩ (.int .i64 nb)).setCell ⟨gn, k, none⟩ (.int .i64 na)).drew = W1 := ⟨_, rfl⟩
  rw [hW1] at R1' R2' B1' B2' ⊢
  have hal : ∀ B, B ≤ gn → Below B w W1 := fun B hB => by subst hW1; exact (((Below.refl B w).setCell (p := ⟨gn, i, none⟩) hB _).setCell (p := ⟨gn, k, none⟩) hB _).drew
  have hot : ∀ j, j ≠ gn → W1.heap[j]? = w.heap[j]? := fun j hj => by subst hW1; exact (Below.heap_setCell _ ⟨gn, k, none⟩ _ j hj).trans (Below.heap_setCell _ ⟨gn, i, none⟩ _ j hj)
  clear cB1 cB2 ci ck fi fk fi2 ck2 hW1
  have cB1 := B1'.cell
  have cB2 := B2'.cell
  have ci : W1.cell? ⟨gn, i, none⟩ = some (.int .i64 nb) := by
    rw [R1'.cell (by simp; omega)]
    by_cases e : i = k
    · subst e
      have : (na : Int) = nb := by rw [← h1, ← h2]
      simp [ha, hi, this]
    · simp [ha, hi, Ne.symm e, e]
  have ck : W1.cell? ⟨gn, k, none⟩ = some (.int .i64 na) := by
    rw [R1'.cell (by simp; omega)]
    simp [ha, hk]
  have fi := R2'.free nb
  have fk := R2'.free na
  obtain ⟨x2, ck0⟩ : ∃ x, W1.cell? ⟨gw, nb, none⟩ = some (.int .i64 x) := ⟨_, R2'.cell (by omega)⟩
  have fi2 : (W1.setCell ⟨gw, nb, none⟩ (.int .i64 i)).frozen? ⟨gw, na, none⟩ = false := (R2'.set nb i).free na
  obtain ⟨x3, ck3⟩ : ∃ x, (W1.setCell ⟨gw, nb, none⟩ (.int .i64 i)).cell? ⟨gw, na, none⟩ = some (.int .i64 x) := ⟨_, (R2'.set nb i).cell (by simp; omega)⟩
  have q5 : (0 : Int) ≤ na := by omega
  have q6 : (na : Int) < n := by omega
  have q7 : (0 : Int) ≤ nb := by omega
  have q8 : (nb : Int) < n := by omega
  go_wp2
  go_region
  all_goals go_end0
  exact ⟨rfl, (R1'.far n1 _).far n1 _, (R2'.set nb i).set na k, (B1'.far n4.symm _).far n4.symm _, (B2'.far n5.symm _).far n5.symm _,
    fun B hB hB2 => (((hal B hB).setCell (p := ⟨gw, nb, none⟩) hB2 _).setCell (p := ⟨gw, na, none⟩) hB2 _).drew,
    fun j hj hj2 => ((Below.heap_setCell _ ⟨gw, na, none⟩ _ j hj2).trans (Below.heap_setCell _ ⟨gw, nb, none⟩ _ j hj2)).trans (hot j hj)⟩
end Go.Proofs.Ytemmjinfeaafdaa.Hand
