/- lives, whatever number of rounds was given: it can answer nothing but true. -/
import Derived.Test.YtjefgdggjchhbaaShardLives
import Derived.Test.YtjefgdggjchhbaaPShardThree
set_option linter.unusedVariables false
namespace Go.Proofs.Ytjefgdggjchhbaa.PAll
open Go.RowKit Go.Proofs.YtjefgdggjchhbaaVW.PrintWords Go.Proofs.YtjefgdggjchhbaaVW.PrintLast Go.Proofs.YtjefgdggjchhbaaVW.PrintMore
theorem lives_up (k : Nat) (r : Bool) (h : stooklaw21_lives.f k = some r) : ∀ d, stooklaw21_lives.f (k + d) = some r
  | 0 => h
  | d + 1 => stooklaw21_lives.mono _ _ (lives_up k r h d)
theorem lives_any (k : Nat) (r : Bool) (w : World) (h : stooklaw21_lives.f k = some r) : Calls Try.prog 15 #[] w fun e w' => e = .returned (.bool r) ∧ Below w.heap.size w w' := by
  have h1 := lives_up k r h 100001
  have h2 := Pure.shardlives_f (k + 100001) (by omega)
  rw [h1] at h2
  obtain rfl := Option.some.inj h2
  exact lives_calls (k + 100001) w h1
/-- A row, cut behind: as it runs. -/
theorem cut_to {P : Program} (t e : TypeId) (kh : IntKind) {i : TypeInfo} (ht : P.underlying t = some (.slice e)) (hi : P.info? e = some i) (A : Option Addr) (n c : Nat) (j : Int) (h0 : 0 ≤ j) (hm : j ≤ n) (hc : n ≤ c) (W : World) :
    (Instr.slice t (.slice A n c) none (some (.int kh j)) none).run P W = .ok (.slice A j.toNat c) W := by
  have he : P.elem t = e := by simp [Program.elem, ht]
  rw [run_slice_h W t A n c (by rw [he]; exact ht) kh j h0 (by omega), he]
  have hA : (A.map fun x => x.add 0) = A := by cases A <;> simp [Addr.add]
  simp [sizeOf, typeInfo, hi, sliced, Result.andThen, hA]
/-- The first ones of a row, as they are read. -/
theorem Kd.C_take {α : Type} {k : Go.Proofs.YtjefgdggjchhbaaVW.PrintWords.Kd α} {w : World} {A : Option Addr} {xs : List α} {m : Nat} (h : k.C w A xs.length xs) (hm : m ≤ xs.length) : k.C w A (xs.take m).length (xs.take m) := by
  have hl : (xs.take m).length = m := by rw [List.length_take]; omega
  obtain ⟨h1, h2, h3⟩ := h
  refine ⟨rfl, ?_, ?_⟩
  · rw [hl]
    omega
  · intro hp
    obtain ⟨x, hx, hc⟩ := h3 (by omega)
    refine ⟨x, hx, fun j p hj => hc j p ?_⟩
    rw [List.getElem?_take] at hj
    split at hj
    · exact hj
    · cases hj
end Go.Proofs.Ytjefgdggjchhbaa.PAll
