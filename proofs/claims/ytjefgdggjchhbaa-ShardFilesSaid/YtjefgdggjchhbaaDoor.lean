/- The program's own words, read once: its first three words tell all that a row asks; the rest is not read. No condition. -/
import Derived.Test.YtjefgdggjchhbaaRows
import Derived.WalkKit
import Derived.ProofKit
namespace Go.Proofs.Ytjefgdggjchhbaa.Door
open Go
theorem word (r : List Char) : ∀ w : List Char, (∀ c ∈ w, c ≠ Char.ofNat (nat_lit 32)) → wordsSigns (w ++ Char.ofNat (nat_lit 32) :: r) = w :: wordsSigns r
  | [], _ => by rw [List.nil_append, wordsSigns]
  | c :: w, h => by
    rw [List.cons_append, wordsSigns]
    · rw [word r w (fun d hd => h d (List.mem_cons_of_mem _ hd))]
    · exact h c List.mem_cons_self
def rest : List Char := ([97, 116, 32, 115, 116, 111, 111, 107, 47, 115, 116, 111, 111, 107, 108, 97, 119, 50, 49, 46, 83, 104, 97, 114, 100, 70, 114, 97, 109, 101, 115, 32, 115, 116, 111, 111, 107, 47, 115, 116, 111, 111, 107, 108, 97, 119, 50, 49, 46, 83, 104, 97, 114, 100, 83, 99, 97, 110, 115, 32, 115, 116, 111, 111, 107, 47, 115, 116, 111, 111, 107, 108, 97, 119, 50, 49, 46, 83, 104, 97, 114, 100, 67, 117, 116, 32, 115, 116, 111, 111, 107, 47, 115, 116, 111, 111, 107, 108, 97, 119, 50, 49, 46, 83, 104, 97, 114, 100, 78, 105, 108, 32, 115, 116, 111, 111, 107, 47, 115, 116, 111, 111, 107, 108, 97, 119, 50, 49, 46, 83, 104, 97, 114, 100, 70, 105, 108, 101, 115] : List Nat).map Char.ofNat
def own : List Char := ([101, 101, 55, 54, 98, 53, 102, 53, 49, 50, 54, 48, 102, 49, 55, 101, 56, 55, 51, 57, 101, 53, 56, 97, 50, 54, 53, 53, 57, 50, 52, 102, 98, 97, 52, 102, 50, 100, 54, 99, 99, 50, 52, 102, 55, 56, 99, 101, 97, 57, 54, 57, 99, 55, 52, 98, 56, 98, 97, 101, 54, 100, 55, 56] : List Nat).map Char.ofNat
def home : List Char := ([104, 97, 114, 110, 101, 115, 115] : List Nat).map Char.ofNat
def cut : List Char := ([99, 117, 116] : List Nat).map Char.ofNat
theorem order0 : Try.pinned.checked.prog.initOrder = String.ofList (home ++ Char.ofNat (nat_lit 32) :: (own ++ Char.ofNat (nat_lit 32) :: (cut ++ Char.ofNat (nat_lit 32) :: rest))) := by kernel_rfl
theorem order : Try.pinned.checked.prog.initOrder.toList = home ++ Char.ofNat (nat_lit 32) :: (own ++ Char.ofNat (nat_lit 32) :: (cut ++ Char.ofNat (nat_lit 32) :: rest)) :=
  (congrArg String.toList order0).trans String.toList_ofList
theorem words : ∃ r, behindMainWord (wordsSigns Try.pinned.checked.prog.initOrder.toList) = cut :: r := by
  refine ⟨wordsSigns rest, ?_⟩
  rw [order, word _ home (by decide +kernel), word _ own (by decide +kernel), word _ cut (by decide +kernel)]
  generalize wordsSigns rest = r
  unfold behindMainWord
  exact if_pos (by kernel_rfl)
theorem strip0 (r : List (List Char)) : ∀ l : List String, (∀ o ∈ l, o.toList ≠ cut) → stripLifts l (cut :: r) = ([], cut :: r)
  | [], _ => rfl
  | o :: l, h => by
    unfold stripLifts
    rw [if_neg (by intro e; exact h o List.mem_cons_self (beq_iff_eq.1 e).symm), strip0 r l (fun d hd => h d (List.mem_cons_of_mem _ hd))]
theorem strip (r : List (List Char)) : stripLifts liftWords (cut :: r) = ([], cut :: r) := strip0 r _ (by decide +kernel)
theorem may0 (P : Program) (r : List (List Char)) (h : behindMainWord (wordsSigns P.initOrder.toList) = cut :: r)
    (e4 : ((([] : List String).contains "finals" || !P.laysLater) && (([] : List String).contains "reflectrows" || !P.bearsReflect) && (([] : List String).contains "reflectrows" || !([] : List String).contains "leanrows") && P.doorFits []) = true) : P.mayEnter = true := by
  unfold Program.mayEnter
  rw [h]
  simp only [strip]
  have e1 : (cut == "gc".toList || cut == "spec".toList) = false := by decide +kernel
  have e2 : (cut == "carried".toList) = false := by decide +kernel
  have e3 : ((cut :: r).head? == some "cut".toList) = true := by
    rw [List.head?_cons]; decide +kernel
  rw [e1, e2, e3]
  simp only [Bool.false_and, Bool.false_or, Bool.true_and]
  exact e4
theorem head0 (P : Program) (r : List (List Char)) (h : behindMainWord (wordsSigns P.initOrder.toList) = cut :: r) : P.headLifts = [] := by
  unfold Program.headLifts
  rw [h]
  simp only [strip]
  exact ite_self _
theorem lifts0 (P : Program) (r : List (List Char)) (h : behindMainWord (wordsSigns P.initOrder.toList) = cut :: r) : P.liftsFinal = false := by
  unfold Program.liftsFinal
  rw [h, head0 P r h]
  have e : ((cut :: r).head? == some "carried".toList) = false := by rw [List.head?_cons]; decide +kernel
  simp only [e, Bool.false_and, Bool.false_or]
  rfl
theorem make0 (P : Program) (r : List (List Char)) (h : behindMainWord (wordsSigns P.initOrder.toList) = cut :: r) : P.make = some .cut := by
  unfold Program.make
  rw [h]
  have e1 : ¬ (cut == "gc".toList || cut == "spec".toList) = true := by decide +kernel
  have e2 : (cut == "cut".toList) = true := by decide +kernel
  simp only [if_neg e1, e2, Bool.true_or, if_true]
theorem may : Try.pinned.checked.prog.mayEnter = true := by
  obtain ⟨r, h⟩ := words
  exact may0 _ r h (by kernel_rfl)
theorem lifts : Try.pinned.checked.prog.liftsFinal = false := by
  obtain ⟨r, h⟩ := words
  exact lifts0 _ r h
theorem make : Try.pinned.checked.prog.make = some .cut := by
  obtain ⟨r, h⟩ := words
  exact make0 _ r h
end Go.Proofs.Ytjefgdggjchhbaa.Door
