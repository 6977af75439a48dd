/- The program's own words, read once: its first three words tell all that a row asks; the rest is not read. No condition. -/
import Derived.Test.YtipfcibdkbneoaaRows
import Derived.WalkKit
import Derived.ProofKit
namespace Go.Proofs.Ytipfcibdkbneoaa.Door
open Go
theorem word (r : List Char) : ∀ w : List Char, (∀ c ∈ w, c ≠ ' ') → wordsSigns (w ++ ' ' :: r) = w :: wordsSigns r
  | [], _ => by rw [List.nil_append, wordsSigns]
  | c :: w, h => by
    rw [List.cons_append, wordsSigns]
    · rw [word r w (fun d hd => h d (List.mem_cons_of_mem _ hd))]
    · exact h c List.mem_cons_self
def rest : List Char := ['a', 't', ' ', 's', 't', 'o', 'o', 'k', '/', 's', 't', 'o', 'o', 'k', 'l', 'a', 'w', '0', '2', '.', 'C', 'r', 'c', 'S', 't', 'e', 'p', 's', ' ', 's', 't', 'o', 'o', 'k', '/', 's', 't', 'o', 'o', 'k', 'l', 'a', 'w', '0', '2', '.', 'C', 'r', 'c', 'S', 'u', 'm', 's', ' ', 's', 't', 'o', 'o', 'k', '/', 's', 't', 'o', 'o', 'k', 'l', 'a', 'w', '0', '2', '.', 'C', 'r', 'c', 'B', 'u', 'r', 's', 't', ' ', 's', 't', 'o', 'o', 'k', '/', 's', 't', 'o', 'o', 'k', 'l', 'a', 'w', '0', '2', '.', 'C', 'r', 'c', 'O', 'n', 'e', ' ', 's', 't', 'o', 'o', 'k', '/', 's', 't', 'o', 'o', 'k', 'l', 'a', 'w', '0', '2', '.', 'C', 'r', 'c', 'L', 'i', 'n', 'e', 'a', 'r', ' ', 's', 't', 'o', 'o', 'k', '/', 's', 't', 'o', 'o', 'k', 'l', 'a', 'w', '0', '2', '.', 'C', 'r', 'c', 'J', 'o', 'i', 'n', 's', ' ', 's', 't', 'o', 'o', 'k', '/', 's', 't', 'o', 'o', 'k', 'l', 'a', 'w', '0', '2', '.', 'C', 'r', 'c', 'P', 'a', 'r', 't', 's', ' ', 's', 't', 'o', 'o', 'k', '/', 's', 't', 'o', 'o', 'k', 'l', 'a', 'w', '0', '1', '.', 'L', 'e', 'b', 'N', 'u', 'm', 'b', 'e', 'r', 's', ' ', 's', 't', 'o', 'o', 'k', '/', 's', 't', 'o', 'o', 'k', 'l', 'a', 'w', '0', '1', '.', 'L', 'e', 'b', 'R', 'e', 'a', 'd', 's', ' ', 's', 't', 'o', 'o', 'k', '/', 's', 't', 'o', 'o', 'k', 'l', 'a', 'w', '0', '1', '.', 'L', 'e', 'b', 'B', 'a', 'c', 'k', ' ', 's', 't', 'o', 'o', 'k', '/', 's', 't', 'o', 'o', 'k', 'l', 'a', 'w', '0', '1', '.', 'L', 'e', 'b', 'O', 'n', 'e', ' ', 's', 't', 'o', 'o', 'k', '/', 's', 't', 'o', 'o', 'k', 'l', 'a', 'w', '0', '1', '.', 'L', 'e', 'b', 'F', 'r', 'e', 'e', ' ', 's', 't', 'o', 'o', 'k', '/', 's', 't', 'o', 'o', 'k', 'l', 'a', 'w', '0', '1', '.', 'L', 'e', 'b', 'L', 'e', 'n', 's', ' ', 's', 't', 'o', 'o', 'k', '/', 's', 't', 'o', 'o', 'k', 'l', 'a', 'w', '0', '1', '.', 'L', 'e', 'b', 'R', 'o', 'w', 's', ' ', 's', 't', 'o', 'o', 'k', '/', 's', 't', 'o', 'o', 'k', 'l', 'a', 'w', '0', '1', '.', 'L', 'e', 'b', 'L', 'i', 's', 't', 's', ' ', 's', 't', 'o', 'o', 'k', '/', 's', 't', 'o', 'o', 'k', 'l', 'a', 'w', '0', '1', '.', 'L', 'e', 'b', 'R', 'o', 'w', 's', 'B', 'a', 'c', 'k', ' ', 's', 't', 'o', 'o', 'k', '/', 's', 't', 'o', 'o', 'k', 'l', 'a', 'w', '0', '1', '.', 'L', 'e', 'b', 'F', 'r', 'e', 's', 'h', ' ', 's', 't', 'o', 'o', 'k', '/', 's', 't', 'o', 'o', 'k', 'l', 'a', 'w', '0', '1', '.', 'L', 'e', 'b', 'R', 'o', 'w', 'O', 'n', 'e', ' ', 's', 't', 'o', 'o', 'k', '/', 's', 't', 'o', 'o', 'k', 'l', 'a', 'w', '1', '2', '.', 'P', 'a', 'c', 'k', 'F', 'o', 'l', 'd', 's', ' ', 's', 't', 'o', 'o', 'k', '/', 's', 't', 'o', 'o', 'k', 'l', 'a', 'w', '1', '2', '.', 'P', 'a', 'c', 'k', 'G', 'e', 't', 's', ' ', 's', 't', 'o', 'o', 'k', '/', 's', 't', 'o', 'o', 'k', 'l', 'a', 'w', '1', '2', '.', 'P', 'a', 'c', 'k', 'B', 'a', 'c', 'k', ' ', 's', 't', 'o', 'o', 'k', '/', 's', 't', 'o', 'o', 'k', 'l', 'a', 'w', '1', '2', '.', 'P', 'a', 'c', 'k', 'O', 'n', 'e', ' ', 's', 't', 'o', 'o', 'k', '/', 's', 't', 'o', 'o', 'k', 'l', 'a', 'w', '1', '2', '.', 'P', 'a', 'c', 'k', 'F', 'r', 'e', 's', 'h', ' ', 's', 't', 'o', 'o', 'k', '/', 's', 't', 'o', 'o', 'k', 'l', 'a', 'w', '1', '2', '.', 'P', 'a', 'c', 'k', 'P', 'u', 't', 's', ' ', 's', 't', 'o', 'o', 'k', '/', 's', 't', 'o', 'o', 'k', 'l', 'a', 'w', '1', '2', '.', 'P', 'a', 'c', 'k', 'S', 'm', 'a', 'l', 'l', ' ', 's', 't', 'o', 'o', 'k', '/', 's', 't', 'o', 'o', 'k', 'l', 'a', 'w', '0', '3', '.', 'F', 'r', 'a', 'm', 'e', 'P', 'u', 't', 's', ' ', 's', 't', 'o', 'o', 'k', '/', 's', 't', 'o', 'o', 'k', 'l', 'a', 'w', '0', '3', '.', 'F', 'r', 'a', 'm', 'e', 'G', 'e', 't', 's', ' ', 's', 't', 'o', 'o', 'k', '/', 's', 't', 'o', 'o', 'k', 'l', 'a', 'w', '0', '3', '.', 'F', 'r', 'a', 'm', 'e', 'B', 'u', 'r', 's', 't', ' ', 's', 't', 'o', 'o', 'k', '/', 's', 't', 'o', 'o', 'k', 'l', 'a', 'w', '0', '3', '.', 'F', 'r', 'a', 'm', 'e', 'A', 'h', 'e', 'a', 'd', ' ', 's', 't', 'o', 'o', 'k', '/', 's', 't', 'o', 'o', 'k', 'l', 'a', 'w', '0', '3', '.', 'F', 'r', 'a', 'm', 'e', 'F', 'r', 'e', 's', 'h', ' ', 's', 't', 'o', 'o', 'k', '/', 's', 't', 'o', 'o', 'k', 'l', 'a', 'w', '0', '3', '.', 'F', 'r', 'a', 'm', 'e', 'O', 'n', 'e', ' ', 's', 't', 'o', 'o', 'k', '/', 's', 't', 'o', 'o', 'k', 'l', 'a', 'w', '0', '3', '.', 'F', 'r', 'a', 'm', 'e', 'S', 'c', 'a', 'n', 's', ' ', 's', 't', 'o', 'o', 'k', '/', 's', 't', 'o', 'o', 'k', 'l', 'a', 'w', '0', '3', '.', 'F', 'r', 'a', 'm', 'e', 'B', 'a', 'c', 'k', ' ', 's', 't', 'o', 'o', 'k', '/', 's', 't', 'o', 'o', 'k', 'l', 'a', 'w', '1', '5', '.', 'P', 'a', 'g', 'e', 'P', 'u', 't', 's', ' ', 's', 't', 'o', 'o', 'k', '/', 's', 't', 'o', 'o', 'k', 'l', 'a', 'w', '1', '5', '.', 'P', 'a', 'g', 'e', 'G', 'e', 't', 's', ' ', 's', 't', 'o', 'o', 'k', '/', 's', 't', 'o', 'o', 'k', 'l', 'a', 'w', '1', '5', '.', 'P', 'a', 'g', 'e', 'B', 'a', 'c', 'k', ' ', 's', 't', 'o', 'o', 'k', '/', 's', 't', 'o', 'o', 'k', 'l', 'a', 'w', '1', '6', '.', 'R', 'o', 'o', 't', 'P', 'u', 't', 's', ' ', 's', 't', 'o', 'o', 'k', '/', 's', 't', 'o', 'o', 'k', 'l', 'a', 'w', '1', '6', '.', 'R', 'o', 'o', 't', 'P', 'i', 'c', 'k', 's', ' ', 's', 't', 'o', 'o', 'k', '/', 's', 't', 'o', 'o', 'k', 'l', 'a', 'w', '1', '6', '.', 'R', 'o', 'o', 't', 'B', 'a', 'c', 'k']
def own : List Char := ['4', 'd', '3', '7', '0', '3', '2', 'e', 'a', '5', '8', 'e', '4', 'a', '2', '5', 'd', 'b', '0', '2', 'f', 'd', 'b', '2', '8', '5', '0', '4', 'f', '5', 'a', '5', '8', 'b', '6', '7', 'a', '6', '5', '5', 'c', 'b', '2', 'd', '8', '5', '9', 'e', 'd', '6', '7', 'a', '6', '4', '3', '0', '0', 'f', '6', 'c', '7', '2', '3', '9']
theorem order0 : Try.pinned.checked.prog.initOrder = String.ofList (['h', 'a', 'r', 'n', 'e', 's', 's'] ++ ' ' :: (own ++ ' ' :: (['c', 'u', 't'] ++ ' ' :: rest))) := by kernel_rfl
theorem order : Try.pinned.checked.prog.initOrder.toList = ['h', 'a', 'r', 'n', 'e', 's', 's'] ++ ' ' :: (own ++ ' ' :: (['c', 'u', 't'] ++ ' ' :: rest)) :=
  (congrArg String.toList order0).trans String.toList_ofList
theorem words : ∃ r, behindMainWord (wordsSigns Try.pinned.checked.prog.initOrder.toList) = ['c', 'u', 't'] :: r := by
  refine ⟨wordsSigns rest, ?_⟩
  rw [order, word _ _ (by decide), word _ own (by decide +kernel), word _ _ (by decide)]
  generalize wordsSigns rest = r
  unfold behindMainWord
  exact if_pos (by kernel_rfl)
theorem strip0 (r : List (List Char)) : ∀ l : List String, (∀ o ∈ l, o.toList ≠ ['c', 'u', 't']) → stripLifts l (['c', 'u', 't'] :: r) = ([], if l = [] then ['c', 'u', 't'] :: r else ['c', 'u', 't'] :: r)
  | [], _ => rfl
  | o :: l, h => by
    unfold stripLifts
    rw [if_neg (by intro e; exact h o List.mem_cons_self (beq_iff_eq.1 e).symm), strip0 r l (fun d hd => h d (List.mem_cons_of_mem _ hd))]
    simp
theorem strip (r : List (List Char)) : stripLifts liftWords (['c', 'u', 't'] :: r) = ([], ['c', 'u', 't'] :: r) := by
  rw [strip0 r _ (by decide +kernel)]
  simp
theorem may0 (P : Program) (r : List (List Char)) (h : behindMainWord (wordsSigns P.initOrder.toList) = ['c', 'u', 't'] :: r)
    (e4 : ((([] : List String).contains "finals" || !P.laysLater) && (([] : List String).contains "reflectrows" || !P.bearsReflect) && (([] : List String).contains "reflectrows" || !([] : List String).contains "leanrows") && P.doorFits []) = true) : P.mayEnter = true := by
  unfold Program.mayEnter
  rw [h]
  simp only [strip]
  have e1 : (['c', 'u', 't'] == "gc".toList || ['c', 'u', 't'] == "spec".toList) = false := by decide +kernel
  have e2 : (['c', 'u', 't'] == "carried".toList) = false := by decide +kernel
  have e3 : ((['c', 'u', 't'] :: r).head? == some "cut".toList) = true := by
    rw [List.head?_cons]; decide +kernel
  rw [e1, e2, e3]
  simp only [Bool.false_and, Bool.false_or, Bool.true_and]
  exact e4
theorem head0 (P : Program) (r : List (List Char)) (h : behindMainWord (wordsSigns P.initOrder.toList) = ['c', 'u', 't'] :: r) : P.headLifts = [] := by
  unfold Program.headLifts
  rw [h]
  simp only [strip]
  exact ite_self _
theorem lifts0 (P : Program) (r : List (List Char)) (h : behindMainWord (wordsSigns P.initOrder.toList) = ['c', 'u', 't'] :: r) : P.liftsFinal = false := by
  unfold Program.liftsFinal
  rw [h, head0 P r h]
  have e : ((['c', 'u', 't'] :: r).head? == some "carried".toList) = false := by rw [List.head?_cons]; decide +kernel
  simp only [e, Bool.false_and, Bool.false_or]
  rfl
theorem make0 (P : Program) (r : List (List Char)) (h : behindMainWord (wordsSigns P.initOrder.toList) = ['c', 'u', 't'] :: r) : P.make = some .cut := by
  unfold Program.make
  rw [h]
  have e1 : ¬ (['c', 'u', 't'] == "gc".toList || ['c', 'u', 't'] == "spec".toList) = true := by decide +kernel
  have e2 : (['c', 'u', 't'] == "cut".toList) = true := by decide +kernel
  simp only [if_neg e1, e2, Bool.true_or, if_true]
theorem may : Try.pinned.checked.prog.mayEnter = true := by
  obtain ⟨r, h⟩ := words
  exact may0 _ r h (by kernel_rfl)
theorem lifts : Try.pinned.checked.prog.liftsFinal = false := by
  obtain ⟨r, h⟩ := words
  exact lifts0 _ r h
theorem make : Try.pinned.checked.prog.make = some .cut := by
  obtain ⟨r, h⟩ := words
  exact make0 _ r h
end Go.Proofs.Ytipfcibdkbneoaa.Door
