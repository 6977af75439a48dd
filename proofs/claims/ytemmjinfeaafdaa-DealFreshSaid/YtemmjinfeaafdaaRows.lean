/-
  No cell of these rows narrows 'for every input' (looked for: loops, veiled, ifaces, maps, wideKeys, modest, calm, conditions, laid).
  DERIVED. THE GIVEN ROWS OF THIS SEAT. 9 by the template 'for every input the law returns true; each argument reads behind the call as it read before'; 0 by the template 'total and deterministic' (their statements: YtemmjinfeaafdaaTotals.lean).
  GIVEN WITH THE SEED: the statements are not yours to turn. If you find one false, say at which input.
  Laid BY PROGRAM, IN A SANDBOX (cutbox-rows.mjs): the forced cells as the released guide's own fill.sh prints them over the translation 6103c7fa77c9e87d… (all of the seat's roots in one cut). By AI agents, Wed Nov 11 2026. No macro, syntax, notation, axiom, sorry.
-/
import Derived.Test.YtemmjinfeaafdaaChecked
import GoSem.Claim
import GoSem.ClaimJoined
import GoSem.ClaimMapViews
import Derived.JoinedTies
import Derived.KernelRfl
namespace Go.Proofs.Ytemmjinfeaafdaa
/- THE CELL 'sum', in the pinned program and in every row, IS THE sha256 OF THE DUMP (.gsa) THAT YtemmjinfeaafdaaProg.lean LOADS. Nothing in Lean hashes anything: it is a label: what it is worth is what the hold of that sum in a sandbox is worth. -/
noncomputable def Try.pinned : Pinned := { name := "ytemmjinfeaafdaa", sum := "6103c7fa77c9e87df8a44b7c17a7440d3e4d281c953be1f5c43c1bd668dab524", checked := Try.checked }
namespace Rows
def none {H : Type} : Left H := { results := [], args := [] }

/-- 'stooklaw06.DealOrders': WHATEVER THE INPUT: true; the input reads as it did. -/
def dealOrdersSpec : ChangeSpec := { name := "dealOrders", fn := fun _ => fun
  | [d1, d2] => { results := [.lit (.bool true)], args := [d1, d2] }
  | _ => none }
def dealOrdersRow : OpenClaim := { program := "ytemmjinfeaafdaa", sum := "6103c7fa77c9e87df8a44b7c17a7440d3e4d281c953be1f5c43c1bd668dab524", func := "stook/stooklaw06.DealOrders", spec := "dealOrders", unfollowed := true, recurses := true, apart := false }
def DealOrdersSaid : Prop := dealOrdersRow.holds Try.pinned (OpenSpec.ofChange dealOrdersSpec)

/-- ITS FALSE NEIGHBOUR: 'it returns false'. Refute it at one input. -/
def dealOrdersWrong : ChangeSpec := { name := "dealOrders", fn := fun _ => fun
  | [d1, d2] => { results := [.lit (.bool false)], args := [d1, d2] }
  | _ => none }
def DealOrdersWrongFalsely : Prop := dealOrdersRow.holds Try.pinned (OpenSpec.ofChange dealOrdersWrong)

/-- 'stooklaw06.DealBacks': WHATEVER THE INPUT: true; the input reads as it did. -/
def dealBacksSpec : ChangeSpec := { name := "dealBacks", fn := fun _ => fun
  | [d] => { results := [.lit (.bool true)], args := [d] }
  | _ => none }
def dealBacksRow : OpenClaim := { program := "ytemmjinfeaafdaa", sum := "6103c7fa77c9e87df8a44b7c17a7440d3e4d281c953be1f5c43c1bd668dab524", func := "stook/stooklaw06.DealBacks", spec := "dealBacks", unfollowed := true, recurses := true, apart := false }
def DealBacksSaid : Prop := dealBacksRow.holds Try.pinned (OpenSpec.ofChange dealBacksSpec)

/-- ITS FALSE NEIGHBOUR: 'it returns false'. Refute it at one input. -/
def dealBacksWrong : ChangeSpec := { name := "dealBacks", fn := fun _ => fun
  | [d] => { results := [.lit (.bool false)], args := [d] }
  | _ => none }
def DealBacksWrongFalsely : Prop := dealBacksRow.holds Try.pinned (OpenSpec.ofChange dealBacksWrong)

/-- 'stooklaw06.DealBack': WHATEVER THE INPUT: true; the input reads as it did. -/
def dealBackSpec : ChangeSpec := { name := "dealBack", fn := fun _ => fun
  | [d1, d2, d3] => { results := [.lit (.bool true)], args := [d1, d2, d3] }
  | _ => none }
def dealBackRow : OpenClaim := { program := "ytemmjinfeaafdaa", sum := "6103c7fa77c9e87df8a44b7c17a7440d3e4d281c953be1f5c43c1bd668dab524", func := "stook/stooklaw06.DealBack", spec := "dealBack", unfollowed := true, recurses := true, apart := false }
def DealBackSaid : Prop := dealBackRow.holds Try.pinned (OpenSpec.ofChange dealBackSpec)

/-- ITS FALSE NEIGHBOUR: 'it returns false'. Refute it at one input. -/
def dealBackWrong : ChangeSpec := { name := "dealBack", fn := fun _ => fun
  | [d1, d2, d3] => { results := [.lit (.bool false)], args := [d1, d2, d3] }
  | _ => none }
def DealBackWrongFalsely : Prop := dealBackRow.holds Try.pinned (OpenSpec.ofChange dealBackWrong)

/-- 'stooklaw06.DealTakes': WHATEVER THE INPUT: true; the input reads as it did. -/
def dealTakesSpec : ChangeSpec := { name := "dealTakes", fn := fun _ => fun
  | [d1, d2] => { results := [.lit (.bool true)], args := [d1, d2] }
  | _ => none }
def dealTakesRow : OpenClaim := { program := "ytemmjinfeaafdaa", sum := "6103c7fa77c9e87df8a44b7c17a7440d3e4d281c953be1f5c43c1bd668dab524", func := "stook/stooklaw06.DealTakes", spec := "dealTakes", unfollowed := true, recurses := true, apart := false }
def DealTakesSaid : Prop := dealTakesRow.holds Try.pinned (OpenSpec.ofChange dealTakesSpec)

/-- ITS FALSE NEIGHBOUR: 'it returns false'. Refute it at one input. -/
def dealTakesWrong : ChangeSpec := { name := "dealTakes", fn := fun _ => fun
  | [d1, d2] => { results := [.lit (.bool false)], args := [d1, d2] }
  | _ => none }
def DealTakesWrongFalsely : Prop := dealTakesRow.holds Try.pinned (OpenSpec.ofChange dealTakesWrong)

/-- 'stooklaw06.DealFresh': WHATEVER THE INPUT: true; the input reads as it did. -/
def dealFreshSpec : ChangeSpec := { name := "dealFresh", fn := fun _ => fun
  | [d1, d2] => { results := [.lit (.bool true)], args := [d1, d2] }
  | _ => none }
def dealFreshRow : OpenClaim := { program := "ytemmjinfeaafdaa", sum := "6103c7fa77c9e87df8a44b7c17a7440d3e4d281c953be1f5c43c1bd668dab524", func := "stook/stooklaw06.DealFresh", spec := "dealFresh", unfollowed := true, recurses := true, apart := false }
def DealFreshSaid : Prop := dealFreshRow.holds Try.pinned (OpenSpec.ofChange dealFreshSpec)

/-- ITS FALSE NEIGHBOUR: 'it returns false'. Refute it at one input. -/
def dealFreshWrong : ChangeSpec := { name := "dealFresh", fn := fun _ => fun
  | [d1, d2] => { results := [.lit (.bool false)], args := [d1, d2] }
  | _ => none }
def DealFreshWrongFalsely : Prop := dealFreshRow.holds Try.pinned (OpenSpec.ofChange dealFreshWrong)

/-- 'stooklaw06.DealTwice': WHATEVER THE INPUT: true; the input reads as it did. -/
def dealTwiceSpec : ChangeSpec := { name := "dealTwice", fn := fun _ => fun
  | [d1, d2, d3] => { results := [.lit (.bool true)], args := [d1, d2, d3] }
  | _ => none }
def dealTwiceRow : OpenClaim := { program := "ytemmjinfeaafdaa", sum := "6103c7fa77c9e87df8a44b7c17a7440d3e4d281c953be1f5c43c1bd668dab524", func := "stook/stooklaw06.DealTwice", spec := "dealTwice", unfollowed := true, recurses := true, apart := false }
def DealTwiceSaid : Prop := dealTwiceRow.holds Try.pinned (OpenSpec.ofChange dealTwiceSpec)

/-- ITS FALSE NEIGHBOUR: 'it returns false'. Refute it at one input. -/
def dealTwiceWrong : ChangeSpec := { name := "dealTwice", fn := fun _ => fun
  | [d1, d2, d3] => { results := [.lit (.bool false)], args := [d1, d2, d3] }
  | _ => none }
def DealTwiceWrongFalsely : Prop := dealTwiceRow.holds Try.pinned (OpenSpec.ofChange dealTwiceWrong)

/-- 'stooklaw06.DealSteps': WHATEVER THE INPUT: true; the input reads as it did. -/
def dealStepsSpec : ChangeSpec := { name := "dealSteps", fn := fun _ => fun
  | [d1, d2] => { results := [.lit (.bool true)], args := [d1, d2] }
  | _ => none }
def dealStepsRow : OpenClaim := { program := "ytemmjinfeaafdaa", sum := "6103c7fa77c9e87df8a44b7c17a7440d3e4d281c953be1f5c43c1bd668dab524", func := "stook/stooklaw06.DealSteps", spec := "dealSteps", unfollowed := true, recurses := true, apart := false }
def DealStepsSaid : Prop := dealStepsRow.holds Try.pinned (OpenSpec.ofChange dealStepsSpec)

/-- ITS FALSE NEIGHBOUR: 'it returns false'. Refute it at one input. -/
def dealStepsWrong : ChangeSpec := { name := "dealSteps", fn := fun _ => fun
  | [d1, d2] => { results := [.lit (.bool false)], args := [d1, d2] }
  | _ => none }
def DealStepsWrongFalsely : Prop := dealStepsRow.holds Try.pinned (OpenSpec.ofChange dealStepsWrong)

/-- 'stooklaw06.DealWhole': WHATEVER THE INPUT: true; the input reads as it did. -/
def dealWholeSpec : ChangeSpec := { name := "dealWhole", fn := fun _ => fun
  | [d1, d2] => { results := [.lit (.bool true)], args := [d1, d2] }
  | _ => none }
def dealWholeRow : OpenClaim := { program := "ytemmjinfeaafdaa", sum := "6103c7fa77c9e87df8a44b7c17a7440d3e4d281c953be1f5c43c1bd668dab524", func := "stook/stooklaw06.DealWhole", spec := "dealWhole", unfollowed := true, recurses := true, apart := false }
def DealWholeSaid : Prop := dealWholeRow.holds Try.pinned (OpenSpec.ofChange dealWholeSpec)

/-- ITS FALSE NEIGHBOUR: 'it returns false'. Refute it at one input. -/
def dealWholeWrong : ChangeSpec := { name := "dealWhole", fn := fun _ => fun
  | [d1, d2] => { results := [.lit (.bool false)], args := [d1, d2] }
  | _ => none }
def DealWholeWrongFalsely : Prop := dealWholeRow.holds Try.pinned (OpenSpec.ofChange dealWholeWrong)

/-- 'stooklaw06.DealTurned': WHATEVER THE INPUT: true; the input reads as it did. -/
def dealTurnedSpec : ChangeSpec := { name := "dealTurned", fn := fun _ => fun
  | [d1, d2] => { results := [.lit (.bool true)], args := [d1, d2] }
  | _ => none }
def dealTurnedRow : OpenClaim := { program := "ytemmjinfeaafdaa", sum := "6103c7fa77c9e87df8a44b7c17a7440d3e4d281c953be1f5c43c1bd668dab524", func := "stook/stooklaw06.DealTurned", spec := "dealTurned", unfollowed := true, recurses := true, apart := false }
def DealTurnedSaid : Prop := dealTurnedRow.holds Try.pinned (OpenSpec.ofChange dealTurnedSpec)

/-- ITS FALSE NEIGHBOUR: 'it returns false'. Refute it at one input. -/
def dealTurnedWrong : ChangeSpec := { name := "dealTurned", fn := fun _ => fun
  | [d1, d2] => { results := [.lit (.bool false)], args := [d1, d2] }
  | _ => none }
def DealTurnedWrongFalsely : Prop := dealTurnedRow.holds Try.pinned (OpenSpec.ofChange dealTurnedWrong)

/- THE SECOND FORM. 'bulk': how many values and letters a reading holds, each counted each time it is reached (what is shared counts as often as it is met; a slice's spare places count too). A statement '..UptoSaid' is the law's where the arguments, and the package variables that the reading takes, are together of bulk at most 1048576: NARROWER than '..Said'. Prove '..Said' where nothing that the law and all that it calls make is longer than what came in: it says more and counts as full. Else prove '..UptoSaid'. A law counts once. -/
mutual
def uptoBulk {H : Type} : DataW H → Nat
  | .lit (.string bytes) => bytes.length + 1
  | .lit _ => 1
  | .nil => 1
  | .ptr d => uptoBulk d + 1
  | .slice elems spare => uptoBulkAll elems + uptoBulkAll spare + 1
  | .agg parts => uptoBulkAll parts + 1
  | .iface _ d => uptoBulk d + 1
  | .map entries => uptoBulkEntries entries + 1
  | .held _ => 1
def uptoBulkAll {H : Type} : List (DataW H) → Nat
  | [] => 0
  | d :: r => uptoBulk d + uptoBulkAll r
def uptoBulkEntries {H : Type} : List (Lit × DataW H) → Nat
  | [] => 0
  | x :: r => uptoBulkEntry x + uptoBulkEntries r
def uptoBulkEntry {H : Type} : Lit × DataW H → Nat
  | (.string bytes, d) => bytes.length + uptoBulk d + 1
  | (_, d) => uptoBulk d + 1
 end
def uptoSmall : (H : Type) → List (DataW H) → Bool := fun _ ds => decide (uptoBulkAll ds ≤ 1048576)
def OpenSpec.upto (s : _root_.Go.ChangeSpec) : _root_.Go.OpenSpec := { _root_.Go.OpenSpec.ofChange s with cond := some uptoSmall }

/-- 'stooklaw06.DealOrders', WHERE WHAT IT READS IS OF BULK AT MOST 1048576: true; the input reads as it did. -/
def dealOrdersUptoRow : OpenClaim := { program := "ytemmjinfeaafdaa", sum := "6103c7fa77c9e87df8a44b7c17a7440d3e4d281c953be1f5c43c1bd668dab524", func := "stook/stooklaw06.DealOrders", spec := "dealOrders", unfollowed := true, recurses := true, apart := false, narrowed := true }
def DealOrdersUptoSaid : Prop := dealOrdersUptoRow.holds Try.pinned (OpenSpec.upto dealOrdersSpec)

/-- 'stooklaw06.DealBacks', WHERE WHAT IT READS IS OF BULK AT MOST 1048576: true; the input reads as it did. -/
def dealBacksUptoRow : OpenClaim := { program := "ytemmjinfeaafdaa", sum := "6103c7fa77c9e87df8a44b7c17a7440d3e4d281c953be1f5c43c1bd668dab524", func := "stook/stooklaw06.DealBacks", spec := "dealBacks", unfollowed := true, recurses := true, apart := false, narrowed := true }
def DealBacksUptoSaid : Prop := dealBacksUptoRow.holds Try.pinned (OpenSpec.upto dealBacksSpec)

/-- 'stooklaw06.DealBack', WHERE WHAT IT READS IS OF BULK AT MOST 1048576: true; the input reads as it did. -/
def dealBackUptoRow : OpenClaim := { program := "ytemmjinfeaafdaa", sum := "6103c7fa77c9e87df8a44b7c17a7440d3e4d281c953be1f5c43c1bd668dab524", func := "stook/stooklaw06.DealBack", spec := "dealBack", unfollowed := true, recurses := true, apart := false, narrowed := true }
def DealBackUptoSaid : Prop := dealBackUptoRow.holds Try.pinned (OpenSpec.upto dealBackSpec)

/-- 'stooklaw06.DealTakes', WHERE WHAT IT READS IS OF BULK AT MOST 1048576: true; the input reads as it did. -/
def dealTakesUptoRow : OpenClaim := { program := "ytemmjinfeaafdaa", sum := "6103c7fa77c9e87df8a44b7c17a7440d3e4d281c953be1f5c43c1bd668dab524", func := "stook/stooklaw06.DealTakes", spec := "dealTakes", unfollowed := true, recurses := true, apart := false, narrowed := true }
def DealTakesUptoSaid : Prop := dealTakesUptoRow.holds Try.pinned (OpenSpec.upto dealTakesSpec)

/-- 'stooklaw06.DealFresh', WHERE WHAT IT READS IS OF BULK AT MOST 1048576: true; the input reads as it did. -/
def dealFreshUptoRow : OpenClaim := { program := "ytemmjinfeaafdaa", sum := "6103c7fa77c9e87df8a44b7c17a7440d3e4d281c953be1f5c43c1bd668dab524", func := "stook/stooklaw06.DealFresh", spec := "dealFresh", unfollowed := true, recurses := true, apart := false, narrowed := true }
def DealFreshUptoSaid : Prop := dealFreshUptoRow.holds Try.pinned (OpenSpec.upto dealFreshSpec)

/-- 'stooklaw06.DealTwice', WHERE WHAT IT READS IS OF BULK AT MOST 1048576: true; the input reads as it did. -/
def dealTwiceUptoRow : OpenClaim := { program := "ytemmjinfeaafdaa", sum := "6103c7fa77c9e87df8a44b7c17a7440d3e4d281c953be1f5c43c1bd668dab524", func := "stook/stooklaw06.DealTwice", spec := "dealTwice", unfollowed := true, recurses := true, apart := false, narrowed := true }
def DealTwiceUptoSaid : Prop := dealTwiceUptoRow.holds Try.pinned (OpenSpec.upto dealTwiceSpec)

/-- 'stooklaw06.DealSteps', WHERE WHAT IT READS IS OF BULK AT MOST 1048576: true; the input reads as it did. -/
def dealStepsUptoRow : OpenClaim := { program := "ytemmjinfeaafdaa", sum := "6103c7fa77c9e87df8a44b7c17a7440d3e4d281c953be1f5c43c1bd668dab524", func := "stook/stooklaw06.DealSteps", spec := "dealSteps", unfollowed := true, recurses := true, apart := false, narrowed := true }
def DealStepsUptoSaid : Prop := dealStepsUptoRow.holds Try.pinned (OpenSpec.upto dealStepsSpec)

/-- 'stooklaw06.DealWhole', WHERE WHAT IT READS IS OF BULK AT MOST 1048576: true; the input reads as it did. -/
def dealWholeUptoRow : OpenClaim := { program := "ytemmjinfeaafdaa", sum := "6103c7fa77c9e87df8a44b7c17a7440d3e4d281c953be1f5c43c1bd668dab524", func := "stook/stooklaw06.DealWhole", spec := "dealWhole", unfollowed := true, recurses := true, apart := false, narrowed := true }
def DealWholeUptoSaid : Prop := dealWholeUptoRow.holds Try.pinned (OpenSpec.upto dealWholeSpec)

/-- 'stooklaw06.DealTurned', WHERE WHAT IT READS IS OF BULK AT MOST 1048576: true; the input reads as it did. -/
def dealTurnedUptoRow : OpenClaim := { program := "ytemmjinfeaafdaa", sum := "6103c7fa77c9e87df8a44b7c17a7440d3e4d281c953be1f5c43c1bd668dab524", func := "stook/stooklaw06.DealTurned", spec := "dealTurned", unfollowed := true, recurses := true, apart := false, narrowed := true }
def DealTurnedUptoSaid : Prop := dealTurnedUptoRow.holds Try.pinned (OpenSpec.upto dealTurnedSpec)

end Rows
end Go.Proofs.Ytemmjinfeaafdaa
