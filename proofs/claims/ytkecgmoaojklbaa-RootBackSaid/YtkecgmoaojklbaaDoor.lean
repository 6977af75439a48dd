/- The program's own words, read once: its first three words tell all that a row asks; the rest is not read. No condition. -/
import Derived.Test.YtkecgmoaojklbaaRows
import Derived.WalkKit
import Derived.ProofKit
namespace Go.Proofs.Ytkecgmoaojklbaa.Door
open Go
theorem word (r : List Char) : ∀ w : List Char, (∀ c ∈ w, c ≠ Char.ofNat (nat_lit 32)) → wordsSigns (w ++ Char.ofNat (nat_lit 32) :: r) = w :: wordsSigns r
  | [], _ => by rw [List.nil_append, wordsSigns]
  | c :: w, h => by
    rw [List.cons_append, wordsSigns]
    · rw [word r w (fun d hd => h d (List.mem_cons_of_mem _ hd))]
    · exact h c List.mem_cons_self
def rest : List Char := ([97, 116, 32, 115, 116, 111, 111, 107, 47, 115, 116, 111, 111, 107, 108, 97, 119, 49, 53, 46, 80, 97, 103, 101, 66, 97, 99, 107, 32, 115, 116, 111, 111, 107, 47, 115, 116, 111, 111, 107, 108, 97, 119, 49, 54, 46, 82, 111, 111, 116, 80, 117, 116, 115, 32, 115, 116, 111, 111, 107, 47, 115, 116, 111, 111, 107, 108, 97, 119, 49, 54, 46, 82, 111, 111, 116, 80, 105, 99, 107, 115, 32, 115, 116, 111, 111, 107, 47, 115, 116, 111, 111, 107, 108, 97, 119, 49, 54, 46, 82, 111, 111, 116, 66, 97, 99, 107] : List Nat).map Char.ofNat
def own : List Char := ([99, 101, 53, 102, 48, 53, 51, 51, 99, 98, 98, 51, 51, 55, 53, 52, 53, 49, 97, 50, 52, 57, 48, 97, 49, 98, 98, 50, 48, 102, 99, 57, 48, 102, 55, 98, 101, 98, 100, 102, 97, 97, 50, 49, 53, 50, 100, 101, 100, 54, 53, 48, 51, 50, 50, 53, 100, 49, 98, 50, 51, 100, 54, 52] : List Nat).map Char.ofNat
def home : List Char := ([104, 97, 114, 110, 101, 115, 115] : List Nat).map Char.ofNat
def cut : List Char := ([99, 117, 116] : List Nat).map Char.ofNat
theorem order0 : Try.pinned.checked.prog.initOrder = String.ofList (home ++ Char.ofNat (nat_lit 32) :: (own ++ Char.ofNat (nat_lit 32) :: (cut ++ Char.ofNat (nat_lit 32) :: rest))) := by kernel_rfl
theorem order : Try.pinned.checked.prog.initOrder.toList = home ++ Char.ofNat (nat_lit 32) :: (own ++ Char.ofNat (nat_lit 32) :: (cut ++ Char.ofNat (nat_lit 32) :: rest)) :=
  (congrArg String.toList order0).trans String.toList_ofList
theorem words : ∃ r, behindMainWord (wordsSigns Try.pinned.checked.prog.initOrder.toList) = cut :: r := by
  refine ⟨wordsSigns rest, ?_⟩
  rw [order, word _ home (by decide +kernel), word _ own (by decide +kernel), word _ cut (by decide +kernel)]
  generalize wordsSigns rest = r
  unfold behindMainWord
  exact if_pos (by kernel_rfl)
theorem strip0 (r : List (List Char)) : ∀ l : List String, (∀ o ∈ l, o.toList ≠ cut) → stripLifts l (cut :: r) = ([], cut :: r)
  | [], _ => rfl
  | o :: l, h => by
    unfold stripLifts
    rw [if_neg (by intro e; exact h o List.mem_cons_self (beq_iff_eq.1 e).symm), strip0 r l (fun d hd => h d (List.mem_cons_of_mem _ hd))]
theorem strip (r : List (List Char)) : stripLifts liftWords (cut :: r) = ([], cut :: r) := strip0 r _ (by decide +kernel)
theorem may0 (P : Program) (r : List (List Char)) (h : behindMainWord (wordsSigns P.initOrder.toList) = cut :: r)
    (e4 : ((([] : List String).contains "finals" || !P.laysLater) && (([] : List String).contains "reflectrows" || !P.bearsReflect) && (([] : List String).contains "reflectrows" || !([] : List String).contains "leanrows") && P.doorFits []) = true) : P.mayEnter = true := by
  unfold Program.mayEnter
  rw [h]
  simp only [strip]
  have e1 : (cut == "gc".toList || cut == "spec".toList) = false := by decide +kernel
  have e2 : (cut == "carried".toList) = false := by decide +kernel
  have e3 : ((cut :: r).head? == some "cut".toList) = true := by
    rw [List.head?_cons]; decide +kernel
  rw [e1, e2, e3]
  simp only [Bool.false_and, Bool.false_or, Bool.true_and]
  exact e4
theorem head0 (P : Program) (r : List (List Char)) (h : behindMainWord (wordsSigns P.initOrder.toList) = cut :: r) : P.headLifts = [] := by
  unfold Program.headLifts
  rw [h]
  simp only [strip]
  exact ite_self _
theorem lifts0 (P : Program) (r : List (List Char)) (h : behindMainWord (wordsSigns P.initOrder.toList) = cut :: r) : P.liftsFinal = false := by
  unfold Program.liftsFinal
  rw [h, head0 P r h]
  have e : ((cut :: r).head? == some "carried".toList) = false := by rw [List.head?_cons]; decide +kernel
  simp only [e, Bool.false_and, Bool.false_or]
  rfl
theorem make0 (P : Program) (r : List (List Char)) (h : behindMainWord (wordsSigns P.initOrder.toList) = cut :: r) : P.make = some .cut := by
  unfold Program.make
  rw [h]
  have e1 : ¬ (cut == "gc".toList || cut == "spec".toList) = true := by decide +kernel
  have e2 : (cut == "cut".toList) = true := by decide +kernel
  simp only [if_neg e1, e2, Bool.true_or, if_true]
theorem may : Try.pinned.checked.prog.mayEnter = true := by
  obtain ⟨r, h⟩ := words
  exact may0 _ r h (by kernel_rfl)
theorem lifts : Try.pinned.checked.prog.liftsFinal = false := by
  obtain ⟨r, h⟩ := words
  exact lifts0 _ r h
theorem make : Try.pinned.checked.prog.make = some .cut := by
  obtain ⟨r, h⟩ := words
  exact make0 _ r h
end Go.Proofs.Ytkecgmoaojklbaa.Door
