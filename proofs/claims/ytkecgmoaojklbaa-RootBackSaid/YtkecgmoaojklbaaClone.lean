/- slices.Clone of bytes, walked by hand. -/
import Derived.Test.YtkecgmoaojklbaaLaid
import Derived.Test.YtkecgmoaojklbaaFullK
import Derived.Lib.LazyBuf
set_option linter.unusedVariables false
set_option linter.unusedSimpArgs false
namespace Go.Proofs.Ytkecgmoaojklbaa.PAll
open Go.RowKit Go.Proofs.YtkecgmoaojklbaaVW.PrintWords Go.Proofs.YtkecgmoaojklbaaVW.PrintLast Go.Proofs.YtkecgmoaojklbaaVW.PrintMore
attribute [local go_sem] max2_int min2_int max_two min_two max_three min_three max_four min_four   -- for this text's walks alone
theorem empty_RF (W : World) (base : Nat) (hb : base ≤ W.heap.size) : RF .u8 5 (W.alloc (.cells #[] 5)) base (.slice (some ⟨W.heap.size, 0, none⟩) 0 0) [] := by
  have hh : (W.alloc (.cells #[] 5)).heap[W.heap.size]? = some (.cells #[] 5 (0, 0)) := heap_alloc_new W _
  exact ⟨Kd.R_of_own (h1 := fun _ => rfl) ⟨rfl, .inr ⟨W.heap.size, 0, _, rfl, hb, hh, Nat.le_refl _, Nat.zero_le _, Nat.zero_le _, rfl⟩⟩ (fun _ _ => trivial),
    Or.inr ⟨W.heap.size, 0, 0, rfl, hb, ⟨(Array.getElem?_eq_some_iff.1 hh).1, fun i hi => absurd hi (Nat.not_lt_zero _)⟩, Nat.le_refl _, Nat.zero_le _⟩⟩
set_option maxHeartbeats 8000000 in
set_option maxRecDepth 100000 in
theorem clone_calls (ad : Addr) (n c : Nat) (xs : List Int) (w : World) (hC : Kd.C (Kd.int .u8) w (some ad) n xs) (hl : xs.length ≤ 1000000) :
    Calls Try.prog 22 #[.slice (some ad) n c] w fun e w' => ∃ v : Value, e = .returned v ∧ RF .u8 5 w' w.heap.size v xs ∧ Below w.heap.size w w' := by
  have HC := Aside0.mk hC
  have hn : n = xs.length := hC.1.symm
  clear hC
  have HF := Aside0.mk (empty_RF w w.heap.size (Nat.le_refl _))
  have HB := Aside0.mk (below_alloc (Below.refl w.heap.size w) (.cells #[] 5))
  have HN := Aside0.mk hn
  clear hn
  have heq : ∀ W : World, (binOp .eql 22 (.slice (some ad) n c) (.slice none 0 0)).run Try.prog W = .ok (.bool false) W := fun W => run_eql_slice_nil W 22 5 (some ad) n c Try.underlying22
  go_enter Try.func22, Try.ntmps22
  go_wp2_with (first | ((with_reducible refine gate_builtin (b := .append) (xs := #[.tmp 5, .tmp 6]) rfl ?_); at_builtin; refine app_rows (k := .u8) (w0 := w) w.heap.size rfl (.tmp 5) (.tmp 6) 22 5 1 rfl Try.underlying22 info5 (by omega) _ [] xs _ _ _ rfl rfl HF.out.1 HF.out.2 (Kd.C_alloc HC.out _) HB.out HB.out.size (by have := HN.out; simp; omega) ?_; intro v1 w1 ho hf hb hg hat; have HO := Aside0.mk (show RF .u8 5 w1 w.heap.size v1 xs from ⟨ho, hf⟩); have HB1 := Aside0.mk hb; clear ho hf hb hg hat))
  go_ret
  exact ⟨_, rfl, HO.out, HB1.out⟩
end Go.Proofs.Ytkecgmoaojklbaa.PAll
