/- A parameter that is a root: its opening and its shutting. -/
import Derived.Test.YtkecgmoaojklbaaProg
import Derived.WalkKit
import Derived.ProofKit
import Derived.OpenShut
import Derived.ChangeSame
import Derived.RowKit3
import Derived.Lib.SmallJoins
set_option linter.unusedVariables false
set_option linter.unusedSimpArgs false
namespace Go.Proofs.Ytkecgmoaojklbaa.Open
open Go.Joins Go.ChangeShapes Go.WideShapes Go.ChangeAt Go.RowKit Go.Deep
theorem list7 {α : Type} (l : List α) (h : (⟨l⟩ : Array α).size = 7) : ∃ a b c d e f g, l = [a, b, c, d, e, f, g] := by
  match l, h with
  | [a, b, c, d, e, f, g], _ => exact ⟨a, b, c, d, e, f, g, rfl⟩
theorem cellsR : Try.prog.cellsOf 34 = 7 := by kernel_rfl
theorem cells3 : Try.prog.cellsOf 3 = 1 := by kernel_rfl
theorem cellsU : Try.prog.cellsOf 32 = 1 := by kernel_rfl
theorem open_root {H : Type} {enc : TypeId × Value → H} {w : World} {base b0 : Nat} {r : Reach} {spare : Nat → Bool} {held : Bool} {v : Value} {d : DataW H} {p : List MemPlace}
    (hv : Value.okWide Try.prog w r b0 34 v) (h : DataW.Trod enc Try.prog w base spare held 34 v d p) :
    ∃ x0 x1 x2 x3 x4 x5 x6 : Int, v = .agg #[.int .u64 x0, .int .i64 x1, .int .i64 x2, .int .u64 x3, .int .u64 x4, .int .i64 x5, .int .i64 x6] ∧ d = .agg [.lit (.int .u64 x0), .lit (.int .i64 x1), .lit (.int .i64 x2), .lit (.int .u64 x3), .lit (.int .u64 x4), .lit (.int .i64 x5), .lit (.int .i64 x6)] ∧ p = [] ∧
      (Lit.int .u64 x0).wf = true ∧ (Lit.int .i64 x1).wf = true ∧ (Lit.int .i64 x2).wf = true ∧ (Lit.int .u64 x3).wf = true ∧ (Lit.int .u64 x4).wf = true ∧ (Lit.int .i64 x5).wf = true ∧ (Lit.int .i64 x6).wf = true := by
  obtain ⟨cs, rfl, hsz⟩ := okWide_struct Try.underlying34 hv
  rw [cellsR] at hsz
  obtain ⟨l⟩ := cs
  obtain ⟨c0, c1, c2, c3, c4, c5, c6, rfl⟩ := list7 l hsz
  obtain ⟨fuel, hf⟩ := h
  obtain ⟨xs, n, _, hx, _, hlen, hg⟩ := DataW.trod_struct Try.underlying34 hf
  obtain ⟨y0, y1, y2, y3, y4, y5, y6, rfl⟩ := list7 xs hlen
  have g0 := hg 0 _ rfl
  have g1 := hg 1 _ rfl
  have g2 := hg 2 _ rfl
  have g3 := hg 3 _ rfl
  have g4 := hg 4 _ rfl
  have g5 := hg 5 _ rfl
  have g6 := hg 6 _ rfl
  obtain ⟨x0, e0, z0, w0⟩ := DataW.trod_int Try.underlying32 g0
  obtain ⟨x1, e1, z1, w1⟩ := DataW.trod_int Try.underlying3 g1
  obtain ⟨x2, e2, z2, w2⟩ := DataW.trod_int Try.underlying3 g2
  obtain ⟨x3, e3, z3, w3⟩ := DataW.trod_int Try.underlying32 g3
  obtain ⟨x4, e4, z4, w4⟩ := DataW.trod_int Try.underlying32 g4
  obtain ⟨x5, e5, z5, w5⟩ := DataW.trod_int Try.underlying3 g5
  obtain ⟨x6, e6, z6, w6⟩ := DataW.trod_int Try.underlying3 g6
  simp [Value.cells, cells3, cellsU] at e0 e1 e2 e3 e4 e5 e6
  subst e0 e1 e2 e3 e4 e5 e6
  simp only [Prod.mk.injEq] at hx
  obtain ⟨rfl, rfl⟩ := hx
  exact ⟨x0, x1, x2, x3, x4, x5, x6, rfl, by simp [z0, z1, z2, z3, z4, z5, z6], by simp [z0, z1, z2, z3, z4, z5, z6], w0, w1, w2, w3, w4, w5, w6⟩
theorem shut_root {H : Type} {enc : TypeId × Value → H} {w : World} {base : Nat} {spare : Nat → Bool} {held : Bool} {x0 x1 x2 x3 x4 x5 x6 : Int} (w0 : (Lit.int .u64 x0).wf = true) (w1 : (Lit.int .i64 x1).wf = true) (w2 : (Lit.int .i64 x2).wf = true) (w3 : (Lit.int .u64 x3).wf = true) (w4 : (Lit.int .u64 x4).wf = true) (w5 : (Lit.int .i64 x5).wf = true) (w6 : (Lit.int .i64 x6).wf = true) :
    DataW.Trod enc Try.prog w base spare held 34 (.agg #[.int .u64 x0, .int .i64 x1, .int .i64 x2, .int .u64 x3, .int .u64 x4, .int .i64 x5, .int .i64 x6]) (.agg [.lit (.int .u64 x0), .lit (.int .i64 x1), .lit (.int .i64 x2), .lit (.int .u64 x3), .lit (.int .u64 x4), .lit (.int .i64 x5), .lit (.int .i64 x6)]) [] :=
  ⟨2, by
    refine (trod_struct_mk (n := 1) (xs := [(.lit (.int .u64 x0), []), (.lit (.int .i64 x1), []), (.lit (.int .i64 x2), []), (.lit (.int .u64 x3), []), (.lit (.int .u64 x4), []), (.lit (.int .i64 x5), []), (.lit (.int .i64 x6), [])]) Try.underlying34 (by rw [cellsR]; rfl) ?_).trans (by simp)
    simp [DataW.trod, Value.cells, Try.underlying3, Try.underlying32, cells3, cellsU, w0, w1, w2, w3, w4, w5, w6]⟩
end Go.Proofs.Ytkecgmoaojklbaa.Open
