/- Blocks of seven cells (api.Root): how they are read, written and kept. -/
import Derived.Test.YtkecgmoaojklbaaVWMost
import Derived.Test.YtkecgmoaojklbaaProg
import Derived.WalkKit
set_option linter.unusedVariables false
namespace Go.Proofs.Ytkecgmoaojklbaa.PAll
open Go.RowKit Go.Proofs.YtkecgmoaojklbaaVW.PrintWords Go.Proofs.YtkecgmoaojklbaaVW.PrintLast Go.Proofs.YtkecgmoaojklbaaVW.PrintMore
/-- A block that holds a root. -/
def Rootb (w : World) (g : Nat) (a b c d e f h : Value) : Prop := w.heap[g]? = some (.cells #[a, b, c, d, e, f, h] 34 (0, 0))
section
variable {w w' : World} {g : Nat} {a b c d e f h a' b' c' d' e' f' h' : Value}
theorem Rootb.c0 (H : Rootb w g a b c d e f h) : w.cell? ⟨g, 0, none⟩ = some a := (blk_cell H 0).trans rfl
theorem Rootb.c1 (H : Rootb w g a b c d e f h) : w.cell? ⟨g, 1, none⟩ = some b := (blk_cell H 1).trans rfl
theorem Rootb.c2 (H : Rootb w g a b c d e f h) : w.cell? ⟨g, 2, none⟩ = some c := (blk_cell H 2).trans rfl
theorem Rootb.c3 (H : Rootb w g a b c d e f h) : w.cell? ⟨g, 3, none⟩ = some d := (blk_cell H 3).trans rfl
theorem Rootb.c4 (H : Rootb w g a b c d e f h) : w.cell? ⟨g, 4, none⟩ = some e := (blk_cell H 4).trans rfl
theorem Rootb.c5 (H : Rootb w g a b c d e f h) : w.cell? ⟨g, 5, none⟩ = some f := (blk_cell H 5).trans rfl
theorem Rootb.c6 (H : Rootb w g a b c d e f h) : w.cell? ⟨g, 6, none⟩ = some h := (blk_cell H 6).trans rfl
theorem Rootb.fr (H : Rootb w g a b c d e f h) (i : Nat) : w.frozen? ⟨g, i, none⟩ = false := blk_frozen H i
theorem Rootb.put (H : Rootb w g a b c d e f h) (a' b' c' d' e' f' h' : Value) : Rootb (((((((w.setCell ⟨g, 0, none⟩ a').setCell ⟨g, 1, none⟩ b').setCell ⟨g, 2, none⟩ c').setCell ⟨g, 3, none⟩ d').setCell ⟨g, 4, none⟩ e').setCell ⟨g, 5, none⟩ f').setCell ⟨g, 6, none⟩ h') g a' b' c' d' e' f' h' := by
  refine blk_put (cs := #[a', b', c', d', e', f', h]) ?_ 6 _ rfl
  refine blk_put (cs := #[a', b', c', d', e', f, h]) ?_ 5 _ rfl
  refine blk_put (cs := #[a', b', c', d', e, f, h]) ?_ 4 _ rfl
  refine blk_put (cs := #[a', b', c', d, e, f, h]) ?_ 3 _ rfl
  refine blk_put (cs := #[a', b', c, d, e, f, h]) ?_ 2 _ rfl
  refine blk_put (cs := #[a', b, c, d, e, f, h]) ?_ 1 _ rfl
  exact blk_put (cs := #[a, b, c, d, e, f, h]) H 0 _ rfl
theorem Rootb.below (H : Rootb w g a b c d e f h) (hb : Below w.heap.size w w') : Rootb w' g a b c d e f h := blk_below H hb
theorem Rootb.far (H : Rootb w g a b c d e f h) {p : Addr} (hp : g ≠ p.block) (u : Value) : Rootb (w.setCell p u) g a b c d e f h := (Below.heap_setCell w p u g hp).trans H
theorem Rootb.drew (H : Rootb w g a b c d e f h) : Rootb w.drew g a b c d e f h := blk_drew H
theorem Rootb.drewN (H : Rootb w g a b c d e f h) (n : Nat) : Rootb (w.drewN n) g a b c d e f h := blk_drewN H n
theorem Rootb.lt (H : Rootb w g a b c d e f h) : g < w.heap.size := (Array.getElem?_eq_some_iff.1 H).1
theorem below_put7 {B : Nat} {w0 : World} (hb : Below B w0 w) (hg : B ≤ g) (a' b' c' d' e' f' h' : Value) : Below B w0 (((((((w.setCell ⟨g, 0, none⟩ a').setCell ⟨g, 1, none⟩ b').setCell ⟨g, 2, none⟩ c').setCell ⟨g, 3, none⟩ d').setCell ⟨g, 4, none⟩ e').setCell ⟨g, 5, none⟩ f').setCell ⟨g, 6, none⟩ h') :=
  ((((((hb.setCell (p := ⟨g, 0, none⟩) hg _).setCell (p := ⟨g, 1, none⟩) hg _).setCell (p := ⟨g, 2, none⟩) hg _).setCell (p := ⟨g, 3, none⟩) hg _).setCell (p := ⟨g, 4, none⟩) hg _).setCell (p := ⟨g, 5, none⟩) hg _).setCell (p := ⟨g, 6, none⟩) hg _
end
theorem rootb_new (w : World) (a b c d e f h : Value) : Rootb (w.alloc (.cells #[a, b, c, d, e, f, h] 34)) w.heap.size a b c d e f h := heap_alloc_new w _
theorem root_size : (Try.prog.info? 34).map (·.size) = some 7 := by kernel_rfl
end Go.Proofs.Ytkecgmoaojklbaa.PAll
