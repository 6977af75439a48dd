/-
  No cell of these rows narrows 'for every input' (looked for: loops, veiled, ifaces, maps, wideKeys, modest, calm, conditions, laid).
  DERIVED. THE GIVEN ROWS OF THIS SEAT. 7 by the template 'for every input the law returns true; each argument reads behind the call as it read before'; 0 by the template 'total and deterministic' (their statements: YtckpangkdlpmcaaTotals.lean).
  GIVEN WITH THE SEED: the statements are not yours to turn. If you find one false, say at which input.
  Laid BY PROGRAM, IN A SANDBOX (cutbox-rows.mjs): the forced cells as the released guide's own fill.sh prints them over the translation 6ec243967d374ec4… (all of the seat's roots in one cut). By AI agents, Wed Nov 11 2026. No macro, syntax, notation, axiom, sorry.
-/
import Derived.Test.YtckpangkdlpmcaaChecked
import GoSem.Claim
import GoSem.ClaimJoined
import GoSem.ClaimMapViews
import Derived.JoinedTies
import Derived.KernelRfl
namespace Go.Proofs.Ytckpangkdlpmcaa
/- THE CELL 'sum', in the pinned program and in every row, IS THE sha256 OF THE DUMP (.gsa) THAT YtckpangkdlpmcaaProg.lean LOADS. Nothing in Lean hashes anything: it is a label: what it is worth is what the hold of that sum in a sandbox is worth. -/
noncomputable def Try.pinned : Pinned := { name := "ytckpangkdlpmcaa", sum := "6ec243967d374ec4062fd0957ee4c625e0135a75d5054692e3af6a15fdf905ee", checked := Try.checked }
namespace Rows
def none {H : Type} : Left H := { results := [], args := [] }

/-- 'stooklaw05.DrawMixes': WHATEVER THE INPUT: true; the input reads as it did. -/
def drawMixesSpec : ChangeSpec := { name := "drawMixes", fn := fun _ => fun
  | [d] => { results := [.lit (.bool true)], args := [d] }
  | _ => none }
def drawMixesRow : OpenClaim := { program := "ytckpangkdlpmcaa", sum := "6ec243967d374ec4062fd0957ee4c625e0135a75d5054692e3af6a15fdf905ee", func := "stook/stooklaw05.DrawMixes", spec := "drawMixes", apart := false }
def DrawMixesSaid : Prop := drawMixesRow.holds Try.pinned (OpenSpec.ofChange drawMixesSpec)

/-- ITS FALSE NEIGHBOUR: 'it returns false'. Refute it at one input. -/
def drawMixesWrong : ChangeSpec := { name := "drawMixes", fn := fun _ => fun
  | [d] => { results := [.lit (.bool false)], args := [d] }
  | _ => none }
def DrawMixesWrongFalsely : Prop := drawMixesRow.holds Try.pinned (OpenSpec.ofChange drawMixesWrong)

/-- 'stooklaw05.DrawOne': WHATEVER THE INPUT: true; the input reads as it did. -/
def drawOneSpec : ChangeSpec := { name := "drawOne", fn := fun _ => fun
  | [d1, d2] => { results := [.lit (.bool true)], args := [d1, d2] }
  | _ => none }
def drawOneRow : OpenClaim := { program := "ytckpangkdlpmcaa", sum := "6ec243967d374ec4062fd0957ee4c625e0135a75d5054692e3af6a15fdf905ee", func := "stook/stooklaw05.DrawOne", spec := "drawOne", apart := false }
def DrawOneSaid : Prop := drawOneRow.holds Try.pinned (OpenSpec.ofChange drawOneSpec)

/-- ITS FALSE NEIGHBOUR: 'it returns false'. Refute it at one input. -/
def drawOneWrong : ChangeSpec := { name := "drawOne", fn := fun _ => fun
  | [d1, d2] => { results := [.lit (.bool false)], args := [d1, d2] }
  | _ => none }
def DrawOneWrongFalsely : Prop := drawOneRow.holds Try.pinned (OpenSpec.ofChange drawOneWrong)

/-- 'stooklaw05.DrawStates': WHATEVER THE INPUT: true; the input reads as it did. -/
def drawStatesSpec : ChangeSpec := { name := "drawStates", fn := fun _ => fun
  | [d1, d2] => { results := [.lit (.bool true)], args := [d1, d2] }
  | _ => none }
def drawStatesRow : OpenClaim := { program := "ytckpangkdlpmcaa", sum := "6ec243967d374ec4062fd0957ee4c625e0135a75d5054692e3af6a15fdf905ee", func := "stook/stooklaw05.DrawStates", spec := "drawStates", apart := false }
def DrawStatesSaid : Prop := drawStatesRow.holds Try.pinned (OpenSpec.ofChange drawStatesSpec)

/-- ITS FALSE NEIGHBOUR: 'it returns false'. Refute it at one input. -/
def drawStatesWrong : ChangeSpec := { name := "drawStates", fn := fun _ => fun
  | [d1, d2] => { results := [.lit (.bool false)], args := [d1, d2] }
  | _ => none }
def DrawStatesWrongFalsely : Prop := drawStatesRow.holds Try.pinned (OpenSpec.ofChange drawStatesWrong)

/-- 'stooklaw05.DrawWords': WHATEVER THE INPUT: true; the input reads as it did. -/
def drawWordsSpec : ChangeSpec := { name := "drawWords", fn := fun _ => fun
  | [d1, d2] => { results := [.lit (.bool true)], args := [d1, d2] }
  | _ => none }
def drawWordsRow : OpenClaim := { program := "ytckpangkdlpmcaa", sum := "6ec243967d374ec4062fd0957ee4c625e0135a75d5054692e3af6a15fdf905ee", func := "stook/stooklaw05.DrawWords", spec := "drawWords", apart := false }
def DrawWordsSaid : Prop := drawWordsRow.holds Try.pinned (OpenSpec.ofChange drawWordsSpec)

/-- ITS FALSE NEIGHBOUR: 'it returns false'. Refute it at one input. -/
def drawWordsWrong : ChangeSpec := { name := "drawWords", fn := fun _ => fun
  | [d1, d2] => { results := [.lit (.bool false)], args := [d1, d2] }
  | _ => none }
def DrawWordsWrongFalsely : Prop := drawWordsRow.holds Try.pinned (OpenSpec.ofChange drawWordsWrong)

/-- 'stooklaw05.DrawRow': WHATEVER THE INPUT: true; the input reads as it did. -/
def drawRowSpec : ChangeSpec := { name := "drawRow", fn := fun _ => fun
  | [d1, d2] => { results := [.lit (.bool true)], args := [d1, d2] }
  | _ => none }
def drawRowRow : OpenClaim := { program := "ytckpangkdlpmcaa", sum := "6ec243967d374ec4062fd0957ee4c625e0135a75d5054692e3af6a15fdf905ee", func := "stook/stooklaw05.DrawRow", spec := "drawRow", apart := false }
def DrawRowSaid : Prop := drawRowRow.holds Try.pinned (OpenSpec.ofChange drawRowSpec)

/-- ITS FALSE NEIGHBOUR: 'it returns false'. Refute it at one input. -/
def drawRowWrong : ChangeSpec := { name := "drawRow", fn := fun _ => fun
  | [d1, d2] => { results := [.lit (.bool false)], args := [d1, d2] }
  | _ => none }
def DrawRowWrongFalsely : Prop := drawRowRow.holds Try.pinned (OpenSpec.ofChange drawRowWrong)

/-- 'stooklaw05.DrawBelow': WHATEVER THE INPUT: true; the input reads as it did. -/
def drawBelowSpec : ChangeSpec := { name := "drawBelow", fn := fun _ => fun
  | [d1, d2] => { results := [.lit (.bool true)], args := [d1, d2] }
  | _ => none }
def drawBelowRow : OpenClaim := { program := "ytckpangkdlpmcaa", sum := "6ec243967d374ec4062fd0957ee4c625e0135a75d5054692e3af6a15fdf905ee", func := "stook/stooklaw05.DrawBelow", spec := "drawBelow", apart := false }
def DrawBelowSaid : Prop := drawBelowRow.holds Try.pinned (OpenSpec.ofChange drawBelowSpec)

/-- ITS FALSE NEIGHBOUR: 'it returns false'. Refute it at one input. -/
def drawBelowWrong : ChangeSpec := { name := "drawBelow", fn := fun _ => fun
  | [d1, d2] => { results := [.lit (.bool false)], args := [d1, d2] }
  | _ => none }
def DrawBelowWrongFalsely : Prop := drawBelowRow.holds Try.pinned (OpenSpec.ofChange drawBelowWrong)

/-- 'stooklaw05.DrawWithin': WHATEVER THE INPUT: true; the input reads as it did. -/
def drawWithinSpec : ChangeSpec := { name := "drawWithin", fn := fun _ => fun
  | [d1, d2] => { results := [.lit (.bool true)], args := [d1, d2] }
  | _ => none }
def drawWithinRow : OpenClaim := { program := "ytckpangkdlpmcaa", sum := "6ec243967d374ec4062fd0957ee4c625e0135a75d5054692e3af6a15fdf905ee", func := "stook/stooklaw05.DrawWithin", spec := "drawWithin", apart := false }
def DrawWithinSaid : Prop := drawWithinRow.holds Try.pinned (OpenSpec.ofChange drawWithinSpec)

/-- ITS FALSE NEIGHBOUR: 'it returns false'. Refute it at one input. -/
def drawWithinWrong : ChangeSpec := { name := "drawWithin", fn := fun _ => fun
  | [d1, d2] => { results := [.lit (.bool false)], args := [d1, d2] }
  | _ => none }
def DrawWithinWrongFalsely : Prop := drawWithinRow.holds Try.pinned (OpenSpec.ofChange drawWithinWrong)

/- THE SECOND FORM. 'bulk': how many values and letters a reading holds, each counted each time it is reached (what is shared counts as often as it is met; a slice's spare places count too). A statement '..UptoSaid' is the law's where the arguments, and the package variables that the reading takes, are together of bulk at most 1048576: NARROWER than '..Said'. Prove '..Said' where nothing that the law and all that it calls make is longer than what came in: it says more and counts as full. Else prove '..UptoSaid'. A law counts once. -/
mutual
def uptoBulk {H : Type} : DataW H → Nat
  | .lit (.string bytes) => bytes.length + 1
  | .lit _ => 1
  | .nil => 1
  | .ptr d => uptoBulk d + 1
  | .slice elems spare => uptoBulkAll elems + uptoBulkAll spare + 1
  | .agg parts => uptoBulkAll parts + 1
  | .iface _ d => uptoBulk d + 1
  | .map entries => uptoBulkEntries entries + 1
  | .held _ => 1
def uptoBulkAll {H : Type} : List (DataW H) → Nat
  | [] => 0
  | d :: r => uptoBulk d + uptoBulkAll r
def uptoBulkEntries {H : Type} : List (Lit × DataW H) → Nat
  | [] => 0
  | x :: r => uptoBulkEntry x + uptoBulkEntries r
def uptoBulkEntry {H : Type} : Lit × DataW H → Nat
  | (.string bytes, d) => bytes.length + uptoBulk d + 1
  | (_, d) => uptoBulk d + 1
 end
def uptoSmall : (H : Type) → List (DataW H) → Bool := fun _ ds => decide (uptoBulkAll ds ≤ 1048576)
def OpenSpec.upto (s : _root_.Go.ChangeSpec) : _root_.Go.OpenSpec := { _root_.Go.OpenSpec.ofChange s with cond := some uptoSmall }

/-- 'stooklaw05.DrawMixes', WHERE WHAT IT READS IS OF BULK AT MOST 1048576: true; the input reads as it did. -/
def drawMixesUptoRow : OpenClaim := { program := "ytckpangkdlpmcaa", sum := "6ec243967d374ec4062fd0957ee4c625e0135a75d5054692e3af6a15fdf905ee", func := "stook/stooklaw05.DrawMixes", spec := "drawMixes", apart := false, narrowed := true }
def DrawMixesUptoSaid : Prop := drawMixesUptoRow.holds Try.pinned (OpenSpec.upto drawMixesSpec)

/-- 'stooklaw05.DrawOne', WHERE WHAT IT READS IS OF BULK AT MOST 1048576: true; the input reads as it did. -/
def drawOneUptoRow : OpenClaim := { program := "ytckpangkdlpmcaa", sum := "6ec243967d374ec4062fd0957ee4c625e0135a75d5054692e3af6a15fdf905ee", func := "stook/stooklaw05.DrawOne", spec := "drawOne", apart := false, narrowed := true }
def DrawOneUptoSaid : Prop := drawOneUptoRow.holds Try.pinned (OpenSpec.upto drawOneSpec)

/-- 'stooklaw05.DrawStates', WHERE WHAT IT READS IS OF BULK AT MOST 1048576: true; the input reads as it did. -/
def drawStatesUptoRow : OpenClaim := { program := "ytckpangkdlpmcaa", sum := "6ec243967d374ec4062fd0957ee4c625e0135a75d5054692e3af6a15fdf905ee", func := "stook/stooklaw05.DrawStates", spec := "drawStates", apart := false, narrowed := true }
def DrawStatesUptoSaid : Prop := drawStatesUptoRow.holds Try.pinned (OpenSpec.upto drawStatesSpec)

/-- 'stooklaw05.DrawWords', WHERE WHAT IT READS IS OF BULK AT MOST 1048576: true; the input reads as it did. -/
def drawWordsUptoRow : OpenClaim := { program := "ytckpangkdlpmcaa", sum := "6ec243967d374ec4062fd0957ee4c625e0135a75d5054692e3af6a15fdf905ee", func := "stook/stooklaw05.DrawWords", spec := "drawWords", apart := false, narrowed := true }
def DrawWordsUptoSaid : Prop := drawWordsUptoRow.holds Try.pinned (OpenSpec.upto drawWordsSpec)

/-- 'stooklaw05.DrawRow', WHERE WHAT IT READS IS OF BULK AT MOST 1048576: true; the input reads as it did. -/
def drawRowUptoRow : OpenClaim := { program := "ytckpangkdlpmcaa", sum := "6ec243967d374ec4062fd0957ee4c625e0135a75d5054692e3af6a15fdf905ee", func := "stook/stooklaw05.DrawRow", spec := "drawRow", apart := false, narrowed := true }
def DrawRowUptoSaid : Prop := drawRowUptoRow.holds Try.pinned (OpenSpec.upto drawRowSpec)

/-- 'stooklaw05.DrawBelow', WHERE WHAT IT READS IS OF BULK AT MOST 1048576: true; the input reads as it did. -/
def drawBelowUptoRow : OpenClaim := { program := "ytckpangkdlpmcaa", sum := "6ec243967d374ec4062fd0957ee4c625e0135a75d5054692e3af6a15fdf905ee", func := "stook/stooklaw05.DrawBelow", spec := "drawBelow", apart := false, narrowed := true }
def DrawBelowUptoSaid : Prop := drawBelowUptoRow.holds Try.pinned (OpenSpec.upto drawBelowSpec)

/-- 'stooklaw05.DrawWithin', WHERE WHAT IT READS IS OF BULK AT MOST 1048576: true; the input reads as it did. -/
def drawWithinUptoRow : OpenClaim := { program := "ytckpangkdlpmcaa", sum := "6ec243967d374ec4062fd0957ee4c625e0135a75d5054692e3af6a15fdf905ee", func := "stook/stooklaw05.DrawWithin", spec := "drawWithin", apart := false, narrowed := true }
def DrawWithinUptoSaid : Prop := drawWithinUptoRow.holds Try.pinned (OpenSpec.upto drawWithinSpec)

end Rows
end Go.Proofs.Ytckpangkdlpmcaa
