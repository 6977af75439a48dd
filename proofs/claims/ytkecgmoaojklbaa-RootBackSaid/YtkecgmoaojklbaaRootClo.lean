/- The closures of root.Get, by contracts of their own. -/
import Derived.Test.YtkecgmoaojklbaaRootKit
import Derived.BigRegion
import Derived.RegionTactic
import Derived.ChangeAlike
import Derived.Test.YtkecgmoaojklbaaPAllx8
set_option linter.unusedVariables false
set_option linter.unusedSimpArgs false
namespace Go.Proofs.Ytkecgmoaojklbaa.PAll
open Go.RowKit Go.Proofs.YtkecgmoaojklbaaVW.PrintWords Go.Proofs.YtkecgmoaojklbaaVW.PrintLast Go.Proofs.YtkecgmoaojklbaaVW.PrintMore
/-- The variables that root.Get's closures share: the body, the place, the flag, the first closure. -/
structure Clo (w0 w : World) (g7 g9 g10 g11 : Nat) (A : Option Addr) (c : Nat) (l : List Int) (a : Int) (b : Bool) : Prop where
  row : Kd.R (Kd.int .u8) 5 w w0.heap.size (fun _ => True) (.slice A l.length c) l
  b7 : w.heap[g7]? = some (.cells #[.slice A l.length c] 22 (0, 0))
  b9 : w.heap[g9]? = some (.cells #[.int .i64 a] 3 (0, 0))
  b10 : w.heap[g10]? = some (.cells #[.bool b] 4 (0, 0))
  b11 : w.heap[g11]? = some (.cells #[.func (.func 29) #[] #[.pointer (some ⟨g7, 0, none⟩), .pointer (some ⟨g9, 0, none⟩), .pointer (some ⟨g10, 0, none⟩)]] 53 (0, 0))
  n79 : g7 ≠ g9
  n710 : g7 ≠ g10
  n910 : g9 ≠ g10
  n119 : g11 ≠ g9
  n1110 : g11 ≠ g10
  l9 : w0.heap.size ≤ g9
  l10 : w0.heap.size ≤ g10
  be : Below w0.heap.size w0 w
section
variable {w0 w w' : World} {g7 g9 g10 g11 c : Nat} {A : Option Addr} {l : List Int} {a : Int} {b : Bool}
theorem Clo.drewN (h : Clo w0 w g7 g9 g10 g11 A c l a b) (n : Nat) : Clo w0 (w.drewN n) g7 g9 g10 g11 A c l a b :=
  ⟨Kd.R_drewN h.row n, blk_drewN h.b7 n, blk_drewN h.b9 n, blk_drewN h.b10 n, blk_drewN h.b11 n, h.n79, h.n710, h.n910, h.n119, h.n1110, h.l9, h.l10, pw_below_drewN h.be n⟩
theorem Clo.drew (h : Clo w0 w g7 g9 g10 g11 A c l a b) : Clo w0 w.drew g7 g9 g10 g11 A c l a b := h.drewN 1
theorem Clo.far (h : Clo w0 w g7 g9 g10 g11 A c l a b) {p : Addr} {u : Value} (hp : w0.heap.size ≤ p.block) (h7 : g7 ≠ p.block) (h9 : g9 ≠ p.block) (h10 : g10 ≠ p.block) (h11 : g11 ≠ p.block) (hr : Kd.R (Kd.int .u8) 5 (w.setCell p u) w0.heap.size (fun _ => True) (.slice A l.length c) l) : Clo w0 (w.setCell p u) g7 g9 g10 g11 A c l a b :=
  ⟨hr, (Below.heap_setCell w p u _ h7).trans h.b7, (Below.heap_setCell w p u _ h9).trans h.b9, (Below.heap_setCell w p u _ h10).trans h.b10, (Below.heap_setCell w p u _ h11).trans h.b11, h.n79, h.n710, h.n910, h.n119, h.n1110, h.l9, h.l10, h.be.setCell hp u⟩
theorem Clo.setBad (h : Clo w0 w g7 g9 g10 g11 A c l a b) (b' : Bool) : Clo w0 (w.setCell ⟨g10, 0, none⟩ (.bool b')) g7 g9 g10 g11 A c l a b' :=
  ⟨Kd.R_set h.row h.b10 (by decide) 0 _, (Below.heap_setCell w ⟨g10, 0, none⟩ _ _ h.n710).trans h.b7, (Below.heap_setCell w ⟨g10, 0, none⟩ _ _ h.n910).trans h.b9, blk_put (cs := #[.bool b]) h.b10 0 _ rfl, (Below.heap_setCell w ⟨g10, 0, none⟩ _ _ h.n1110).trans h.b11, h.n79, h.n710, h.n910, h.n119, h.n1110, h.l9, h.l10, h.be.setCell (p := ⟨g10, 0, none⟩) h.l10 _⟩
theorem Clo.setAt (h : Clo w0 w g7 g9 g10 g11 A c l a b) (a' : Int) : Clo w0 (w.setCell ⟨g9, 0, none⟩ (.int .i64 a')) g7 g9 g10 g11 A c l a' b :=
  ⟨Kd.R_set h.row h.b9 (by decide) 0 _, (Below.heap_setCell w ⟨g9, 0, none⟩ _ _ h.n79).trans h.b7, blk_put (cs := #[.int .i64 a]) h.b9 0 _ rfl, (Below.heap_setCell w ⟨g9, 0, none⟩ _ _ (Ne.symm h.n910)).trans h.b10, (Below.heap_setCell w ⟨g9, 0, none⟩ _ _ h.n119).trans h.b11, h.n79, h.n710, h.n910, h.n119, h.n1110, h.l9, h.l10, h.be.setCell (p := ⟨g9, 0, none⟩) h.l9 _⟩
end
set_option maxHeartbeats 4000000 in
set_option maxRecDepth 100000 in
theorem number_calls (k : Nat) {w0 : World} (w : World) (g7 g9 g10 g11 c : Nat) (A : Option Addr) (l : List Int) (a : Int) (b : Bool) (n next e : Int) (h : Clo w0 w g7 g9 g10 g11 A c l a b) (hg : leb_Get.f k l a = some (n, next, e)) :
    Calls Try.prog 29 #[.pointer (some ⟨g7, 0, none⟩), .pointer (some ⟨g9, 0, none⟩), .pointer (some ⟨g10, 0, none⟩)] w fun e' w' => e' = .returned (.int .u64 n) ∧ Clo w0 w' g7 g9 g10 g11 A c l next (b || e != 0) ∧ ∀ j, j ≠ g9 → j ≠ g10 → w'.heap[j]? = w.heap[j]? := by
  have HG := Aside0.mk hg
  have H := Aside0.mk h
  have c7 := cell_of_one h.b7
  have c9 := cell_of_one h.b9
  have c10 := cell_of_one h.b10
  have f9 := free_of_one h.b9
  have f10 := free_of_one h.b10
  have ne1 := h.n910
  clear hg h
  cases b with
  | true =>
    go_enter Try.func29, Try.ntmps29
    go_wp2_with (first | (go_at_call 30; (with_reducible refine (leb_Get.calls k A c l a n next e w (Kd.R_reads' H.out.row).2.2 (Kd.R_reads' H.out.row).2.1 HG.out).mono ?_); rintro e w' ⟨rfl, ⟨n1, rfl⟩⟩))
    go_ret
    exact ⟨rfl, ((H.out.drewN n1).setBad true).setAt next, fun j h9 h10 => (Below.heap_setCell _ ⟨g9, 0, none⟩ _ _ h9).trans (Below.heap_setCell _ ⟨g10, 0, none⟩ _ _ h10)⟩
  | false =>
    obtain ⟨eb, heb⟩ : ∃ eb, (e != 0) = eb := ⟨_, rfl⟩
    rw [show (false || e != 0) = eb from heb]
    go_enter Try.func29, Try.ntmps29
    go_wp2_with (first | (go_at_call 30; (with_reducible refine (leb_Get.calls k A c l a n next e w (Kd.R_reads' H.out.row).2.2 (Kd.R_reads' H.out.row).2.1 HG.out).mono ?_); rintro e w' ⟨rfl, ⟨n1, rfl⟩⟩))
    go_ret
    exact ⟨rfl, ((H.out.drewN n1).setBad eb).setAt next, fun j h9 h10 => (Below.heap_setCell _ ⟨g9, 0, none⟩ _ _ h9).trans (Below.heap_setCell _ ⟨g10, 0, none⟩ _ _ h10)⟩
/-- What a small number's closure makes of a number. -/
def low32 (n : Int) : Int := wrap64 (bits .and .u64 n 4294967295)
set_option maxHeartbeats 4000000 in
set_option maxRecDepth 100000 in
theorem small_calls (k : Nat) {w0 : World} (w : World) (g7 g9 g10 g11 c : Nat) (A : Option Addr) (l : List Int) (a : Int) (b : Bool) (n next e : Int) (h : Clo w0 w g7 g9 g10 g11 A c l a b) (hg : leb_Get.f k l a = some (n, next, e)) :
    Calls Try.prog 31 #[.pointer (some ⟨g11, 0, none⟩), .pointer (some ⟨g10, 0, none⟩)] w fun e' w' => e' = .returned (.int .i64 (low32 n)) ∧ Clo w0 w' g7 g9 g10 g11 A c l next ((b || e != 0) || decide (n > 2147483648)) ∧ ∀ j, j ≠ g9 → j ≠ g10 → w'.heap[j]? = w.heap[j]? := by
  have HG := Aside0.mk hg
  have H := Aside0.mk h
  have c11 := cell_of_one h.b11
  obtain ⟨b1, hb1⟩ : ∃ b1, (b || e != 0) = b1 := ⟨_, rfl⟩
  have HB1 := Aside0.mk hb1
  rw [hb1]
  clear hg h hb1
  cases b1 with
  | true =>
    go_enter Try.func31, Try.ntmps31
    go_wp2_with (first | (go_at_call 29; (with_reducible refine (number_calls k w g7 g9 g10 g11 c A l a b n next e H.out HG.out).mono ?_); rintro e' w' ⟨rfl, hq, hj⟩; rw [HB1.out] at hq; have HQ := Aside0.mk hq; have HJ := Aside0.mk hj; have c10 := cell_of_one hq.b10; have f10 := free_of_one hq.b10; clear hq hj))
    go_ret
    exact ⟨rfl, HQ.out.setBad true, fun j h9 h10 => (Below.heap_setCell w' ⟨g10, 0, none⟩ _ _ h10).trans (HJ.out j h9 h10)⟩
  | false =>
    obtain ⟨eb, heb⟩ : ∃ eb, decide (n > 2147483648) = eb := ⟨_, rfl⟩
    rw [show (false || decide (n > 2147483648)) = eb from heb]
    go_enter Try.func31, Try.ntmps31
    go_wp2_with (first | (go_at_call 29; (with_reducible refine (number_calls k w g7 g9 g10 g11 c A l a b n next e H.out HG.out).mono ?_); rintro e' w' ⟨rfl, hq, hj⟩; rw [HB1.out] at hq; have HQ := Aside0.mk hq; have HJ := Aside0.mk hj; have c10 := cell_of_one hq.b10; have f10 := free_of_one hq.b10; clear hq hj))
    go_ret
    exact ⟨rfl, HQ.out.setBad eb, fun j h9 h10 => (Below.heap_setCell w' ⟨g10, 0, none⟩ _ _ h10).trans (HJ.out j h9 h10)⟩
/-- These variables with the box of the result and that of the root that is read. -/
structure Clo2 (w0 w : World) (g7 g9 g10 g11 g4 gr : Nat) (A : Option Addr) (c : Nat) (l : List Int) (a : Int) (b : Bool) (cs : Array Value) : Prop where
  clo : Clo w0 w g7 g9 g10 g11 A c l a b
  rb : w.heap[gr]? = some (.cells cs 34 (0, 0))
  r4 : Rootb w g4 (.int .u64 0) (.int .i64 0) (.int .i64 0) (.int .u64 0) (.int .u64 0) (.int .i64 0) (.int .i64 0)
  r7 : g7 ≠ gr
  r9 : g9 ≠ gr
  r10 : g10 ≠ gr
  r11 : g11 ≠ gr
  r44 : g4 ≠ gr
  s9 : g4 ≠ g9
  s10 : g4 ≠ g10
  lr : w0.heap.size ≤ gr
  l4 : w0.heap.size ≤ g4
section
variable {w0 w w' : World} {g7 g9 g10 g11 g4 gr c : Nat} {A : Option Addr} {l : List Int} {a : Int} {b : Bool} {cs : Array Value}
theorem Clo2.put (h : Clo2 w0 w g7 g9 g10 g11 g4 gr A c l a b cs) (i : Nat) (u : Value) : Clo2 w0 (w.setCell ⟨gr, i, none⟩ u) g7 g9 g10 g11 g4 gr A c l a b (cs.setIfInBounds i u) :=
  ⟨h.clo.far h.lr h.r7 h.r9 h.r10 h.r11 (Kd.R_set h.clo.row h.rb (by decide) i _), blk_put h.rb i u rfl, h.r4.far h.r44 _, h.r7, h.r9, h.r10, h.r11, h.r44, h.s9, h.s10, h.lr, h.l4⟩
theorem Clo2.step (h : Clo2 w0 w g7 g9 g10 g11 g4 gr A c l a b cs) {a' : Int} {b' : Bool} (hc : Clo w0 w' g7 g9 g10 g11 A c l a' b') (hj : ∀ j, j ≠ g9 → j ≠ g10 → w'.heap[j]? = w.heap[j]?) : Clo2 w0 w' g7 g9 g10 g11 g4 gr A c l a' b' cs :=
  ⟨hc, (hj gr (Ne.symm h.r9) (Ne.symm h.r10)).trans h.rb, (hj g4 h.s9 h.s10).trans h.r4, h.r7, h.r9, h.r10, h.r11, h.r44, h.s9, h.s10, h.lr, h.l4⟩
theorem Clo2.drew (h : Clo2 w0 w g7 g9 g10 g11 g4 gr A c l a b cs) : Clo2 w0 w.drew g7 g9 g10 g11 g4 gr A c l a b cs :=
  ⟨h.clo.drew, blk_drew h.rb, h.r4.drew, h.r7, h.r9, h.r10, h.r11, h.r44, h.s9, h.s10, h.lr, h.l4⟩
theorem Clo2.cellr (h : Clo2 w0 w g7 g9 g10 g11 g4 gr A c l a b cs) {i : Nat} {u : Value} (hi : cs[i]? = some u) : w.cell? ⟨gr, i, none⟩ = some u := (blk_cell h.rb i).trans hi
theorem number2 (k : Nat) (n next e : Int) (b' : Bool) (h : Clo2 w0 w g7 g9 g10 g11 g4 gr A c l a b cs) (hg : leb_Get.f k l a = some (n, next, e)) (hb : (b || e != 0) = b') :
    Calls Try.prog 29 #[.pointer (some ⟨g7, 0, none⟩), .pointer (some ⟨g9, 0, none⟩), .pointer (some ⟨g10, 0, none⟩)] w fun e' w' => e' = .returned (.int .u64 n) ∧ Clo2 w0 w' g7 g9 g10 g11 g4 gr A c l next b' cs :=
  (number_calls k w g7 g9 g10 g11 c A l a b n next e h.clo hg).mono fun e' w' ⟨h1, h2, h3⟩ => ⟨h1, h.step (hb ▸ h2) h3⟩
theorem small2 (k : Nat) (n next e : Int) (b' : Bool) (h : Clo2 w0 w g7 g9 g10 g11 g4 gr A c l a b cs) (hg : leb_Get.f k l a = some (n, next, e)) (hb : ((b || e != 0) || decide (n > 2147483648)) = b') :
    Calls Try.prog 31 #[.pointer (some ⟨g11, 0, none⟩), .pointer (some ⟨g10, 0, none⟩)] w fun e' w' => e' = .returned (.int .i64 (low32 n)) ∧ Clo2 w0 w' g7 g9 g10 g11 g4 gr A c l next b' cs :=
  (small_calls k w g7 g9 g10 g11 c A l a b n next e h.clo hg).mono fun e' w' ⟨h1, h2, h3⟩ => ⟨h1, h.step (hb ▸ h2) h3⟩
end
/-- How the variables are made. -/
theorem clo_start {w w2 : World} (g4 : Nat) (A : Option Addr) (c : Nat) (l : List Int) (b : Bool) (hb : Below w.heap.size w w2) (hr : Kd.R (Kd.int .u8) 5 w2 w.heap.size (fun _ => True) (.slice A l.length c) l) (h4 : Rootb w2 g4 (.int .u64 0) (.int .i64 0) (.int .i64 0) (.int .u64 0) (.int .u64 0) (.int .i64 0) (.int .i64 0)) (l4 : w.heap.size ≤ g4) :
    Clo2 w (((((w2.alloc (.cells #[.slice A l.length c] 22)).alloc (.cells #[.int .i64 0] 3)).alloc (.cells #[.bool b] 4)).alloc (.cells #[.func (.func 29) #[] #[.pointer (some ⟨w2.heap.size, 0, none⟩), .pointer (some ⟨w2.heap.size + 1, 0, none⟩), .pointer (some ⟨w2.heap.size + 1 + 1, 0, none⟩)]] 53)).alloc (.cells #[.int .u64 0, .int .i64 0, .int .i64 0, .int .u64 0, .int .u64 0, .int .i64 0, .int .i64 0] 34))
      w2.heap.size (w2.heap.size + 1) (w2.heap.size + 1 + 1) (w2.heap.size + 1 + 1 + 1) g4 (w2.heap.size + 1 + 1 + 1 + 1) A c l 0 b #[.int .u64 0, .int .i64 0, .int .i64 0, .int .u64 0, .int .u64 0, .int .i64 0, .int .i64 0] := by
  have hs := hb.size
  have hlt := h4.lt
  have g : ∀ (w : World) (o : Obj) (k : Nat), k < w.heap.size → (w.alloc o).heap[k]? = w.heap[k]? := fun w o k h => Below.heap_alloc w o k h
  have z : ∀ (w : World) (o : Obj), (w.alloc o).heap.size = w.heap.size + 1 := fun w o => by simp
  have new : ∀ (w : World) (o : Obj) (k : Nat), k = w.heap.size → (w.alloc o).heap[k]? = some o := fun w o k h => by rw [h]; exact heap_alloc_new w o
  refine ⟨⟨?_, ?_, ?_, ?_, ?_, by omega, by omega, by omega, by omega, by omega, by omega, by omega, ?_⟩, ?_, ?_, by omega, by omega, by omega, by omega, by omega, by omega, by omega, by omega, l4⟩
  · exact Kd.R_alloc (Kd.R_alloc (Kd.R_alloc (Kd.R_alloc (Kd.R_alloc hr _) _) _) _) _
  · exact (g _ _ _ (by simp only [z]; omega)).trans ((g _ _ _ (by simp only [z]; omega)).trans ((g _ _ _ (by simp only [z]; omega)).trans ((g _ _ _ (by simp only [z]; omega)).trans (new _ _ _ rfl))))
  · exact (g _ _ _ (by simp only [z]; omega)).trans ((g _ _ _ (by simp only [z]; omega)).trans ((g _ _ _ (by simp only [z]; omega)).trans (new _ _ _ (by simp only [z]))))
  · exact (g _ _ _ (by simp only [z]; omega)).trans ((g _ _ _ (by simp only [z]; omega)).trans (new _ _ _ (by simp only [z])))
  · exact (g _ _ _ (by simp only [z]; omega)).trans (new _ _ _ (by simp only [z]))
  · exact ((((hb.alloc hs _).alloc (by simp only [z]; omega) _).alloc (by simp only [z]; omega) _).alloc (by simp only [z]; omega) _).alloc (by simp only [z]; omega) _
  · exact new _ _ _ (by simp only [z])
  · exact blk_alloc (blk_alloc (blk_alloc (blk_alloc (blk_alloc h4 _) _) _) _) _
end Go.Proofs.Ytkecgmoaojklbaa.PAll
