/-
  No cell of these rows narrows 'for every input' (looked for: loops, veiled, ifaces, maps, wideKeys, modest, calm, conditions, laid).
  DERIVED. THE GIVEN ROWS OF THIS SEAT. 39 by the template 'for every input the law returns true; each argument reads behind the call as it read before'; 0 by the template 'total and deterministic' (their statements: YtipfcibdkbneoaaTotals.lean).
  GIVEN WITH THE SEED: the statements are not yours to turn. If you find one false, say at which input.
  Laid BY PROGRAM, IN A SANDBOX (cutbox-rows.mjs): the forced cells as the released guide's own fill.sh prints them over the translation 421ff7ed6b983e28… (all of the seat's roots in one cut). By AI agents, Wed Nov 11 2026. No macro, syntax, notation, axiom, sorry.
-/
import Derived.Test.YtipfcibdkbneoaaChecked
import GoSem.Claim
import GoSem.ClaimJoined
import GoSem.ClaimMapViews
import Derived.JoinedTies
import Derived.KernelRfl
namespace Go.Proofs.Ytipfcibdkbneoaa
/- THE CELL 'sum', in the pinned program and in every row, IS THE sha256 OF THE DUMP (.gsa) THAT YtipfcibdkbneoaaProg.lean LOADS. Nothing in Lean hashes anything: it is a label: what it is worth is what the hold of that sum in a sandbox is worth. -/
noncomputable def Try.pinned : Pinned := { name := "ytipfcibdkbneoaa", sum := "421ff7ed6b983e281a75770dd3f0e0ac23efa264c716cd11ce73b3be2a936638", checked := Try.checked }
namespace Rows
def none {H : Type} : Left H := { results := [], args := [] }

/-- 'stooklaw02.CrcSteps': WHATEVER THE INPUT: true; the input reads as it did. -/
def crcStepsSpec : ChangeSpec := { name := "crcSteps", fn := fun _ => fun
  | [d1, d2] => { results := [.lit (.bool true)], args := [d1, d2] }
  | _ => none }
def crcStepsRow : OpenClaim := { program := "ytipfcibdkbneoaa", sum := "421ff7ed6b983e281a75770dd3f0e0ac23efa264c716cd11ce73b3be2a936638", func := "stook/stooklaw02.CrcSteps", spec := "crcSteps", apart := false }
def CrcStepsSaid : Prop := crcStepsRow.holds Try.pinned (OpenSpec.ofChange crcStepsSpec)

/-- ITS FALSE NEIGHBOUR: 'it returns false'. Refute it at one input. -/
def crcStepsWrong : ChangeSpec := { name := "crcSteps", fn := fun _ => fun
  | [d1, d2] => { results := [.lit (.bool false)], args := [d1, d2] }
  | _ => none }
def CrcStepsWrongFalsely : Prop := crcStepsRow.holds Try.pinned (OpenSpec.ofChange crcStepsWrong)

/-- 'stooklaw02.CrcSums': WHATEVER THE INPUT: true; the input reads as it did. -/
def crcSumsSpec : ChangeSpec := { name := "crcSums", fn := fun _ => fun
  | [d1, d2] => { results := [.lit (.bool true)], args := [d1, d2] }
  | _ => none }
def crcSumsRow : OpenClaim := { program := "ytipfcibdkbneoaa", sum := "421ff7ed6b983e281a75770dd3f0e0ac23efa264c716cd11ce73b3be2a936638", func := "stook/stooklaw02.CrcSums", spec := "crcSums", apart := false }
def CrcSumsSaid : Prop := crcSumsRow.holds Try.pinned (OpenSpec.ofChange crcSumsSpec)

/-- ITS FALSE NEIGHBOUR: 'it returns false'. Refute it at one input. -/
def crcSumsWrong : ChangeSpec := { name := "crcSums", fn := fun _ => fun
  | [d1, d2] => { results := [.lit (.bool false)], args := [d1, d2] }
  | _ => none }
def CrcSumsWrongFalsely : Prop := crcSumsRow.holds Try.pinned (OpenSpec.ofChange crcSumsWrong)

/-- 'stooklaw02.CrcBurst': WHATEVER THE INPUT: true; the input reads as it did. -/
def crcBurstSpec : ChangeSpec := { name := "crcBurst", fn := fun _ => fun
  | [d1, d2, d3] => { results := [.lit (.bool true)], args := [d1, d2, d3] }
  | _ => none }
def crcBurstRow : OpenClaim := { program := "ytipfcibdkbneoaa", sum := "421ff7ed6b983e281a75770dd3f0e0ac23efa264c716cd11ce73b3be2a936638", func := "stook/stooklaw02.CrcBurst", spec := "crcBurst", apart := false }
def CrcBurstSaid : Prop := crcBurstRow.holds Try.pinned (OpenSpec.ofChange crcBurstSpec)

/-- ITS FALSE NEIGHBOUR: 'it returns false'. Refute it at one input. -/
def crcBurstWrong : ChangeSpec := { name := "crcBurst", fn := fun _ => fun
  | [d1, d2, d3] => { results := [.lit (.bool false)], args := [d1, d2, d3] }
  | _ => none }
def CrcBurstWrongFalsely : Prop := crcBurstRow.holds Try.pinned (OpenSpec.ofChange crcBurstWrong)

/-- 'stooklaw02.CrcOne': WHATEVER THE INPUT: true; the input reads as it did. -/
def crcOneSpec : ChangeSpec := { name := "crcOne", fn := fun _ => fun
  | [d1, d2, d3] => { results := [.lit (.bool true)], args := [d1, d2, d3] }
  | _ => none }
def crcOneRow : OpenClaim := { program := "ytipfcibdkbneoaa", sum := "421ff7ed6b983e281a75770dd3f0e0ac23efa264c716cd11ce73b3be2a936638", func := "stook/stooklaw02.CrcOne", spec := "crcOne", apart := false }
def CrcOneSaid : Prop := crcOneRow.holds Try.pinned (OpenSpec.ofChange crcOneSpec)

/-- ITS FALSE NEIGHBOUR: 'it returns false'. Refute it at one input. -/
def crcOneWrong : ChangeSpec := { name := "crcOne", fn := fun _ => fun
  | [d1, d2, d3] => { results := [.lit (.bool false)], args := [d1, d2, d3] }
  | _ => none }
def CrcOneWrongFalsely : Prop := crcOneRow.holds Try.pinned (OpenSpec.ofChange crcOneWrong)

/-- 'stooklaw02.CrcLinear': WHATEVER THE INPUT: true; the input reads as it did. -/
def crcLinearSpec : ChangeSpec := { name := "crcLinear", fn := fun _ => fun
  | [d1, d2, d3] => { results := [.lit (.bool true)], args := [d1, d2, d3] }
  | _ => none }
def crcLinearRow : OpenClaim := { program := "ytipfcibdkbneoaa", sum := "421ff7ed6b983e281a75770dd3f0e0ac23efa264c716cd11ce73b3be2a936638", func := "stook/stooklaw02.CrcLinear", spec := "crcLinear", apart := false }
def CrcLinearSaid : Prop := crcLinearRow.holds Try.pinned (OpenSpec.ofChange crcLinearSpec)

/-- ITS FALSE NEIGHBOUR: 'it returns false'. Refute it at one input. -/
def crcLinearWrong : ChangeSpec := { name := "crcLinear", fn := fun _ => fun
  | [d1, d2, d3] => { results := [.lit (.bool false)], args := [d1, d2, d3] }
  | _ => none }
def CrcLinearWrongFalsely : Prop := crcLinearRow.holds Try.pinned (OpenSpec.ofChange crcLinearWrong)

/-- 'stooklaw02.CrcJoins': WHATEVER THE INPUT: true; the input reads as it did. -/
def crcJoinsSpec : ChangeSpec := { name := "crcJoins", fn := fun _ => fun
  | [d1, d2, d3] => { results := [.lit (.bool true)], args := [d1, d2, d3] }
  | _ => none }
def crcJoinsRow : OpenClaim := { program := "ytipfcibdkbneoaa", sum := "421ff7ed6b983e281a75770dd3f0e0ac23efa264c716cd11ce73b3be2a936638", func := "stook/stooklaw02.CrcJoins", spec := "crcJoins", apart := false }
def CrcJoinsSaid : Prop := crcJoinsRow.holds Try.pinned (OpenSpec.ofChange crcJoinsSpec)

/-- ITS FALSE NEIGHBOUR: 'it returns false'. Refute it at one input. -/
def crcJoinsWrong : ChangeSpec := { name := "crcJoins", fn := fun _ => fun
  | [d1, d2, d3] => { results := [.lit (.bool false)], args := [d1, d2, d3] }
  | _ => none }
def CrcJoinsWrongFalsely : Prop := crcJoinsRow.holds Try.pinned (OpenSpec.ofChange crcJoinsWrong)

/-- 'stooklaw02.CrcParts': WHATEVER THE INPUT: true; the input reads as it did. -/
def crcPartsSpec : ChangeSpec := { name := "crcParts", fn := fun _ => fun
  | [d1, d2] => { results := [.lit (.bool true)], args := [d1, d2] }
  | _ => none }
def crcPartsRow : OpenClaim := { program := "ytipfcibdkbneoaa", sum := "421ff7ed6b983e281a75770dd3f0e0ac23efa264c716cd11ce73b3be2a936638", func := "stook/stooklaw02.CrcParts", spec := "crcParts", apart := false }
def CrcPartsSaid : Prop := crcPartsRow.holds Try.pinned (OpenSpec.ofChange crcPartsSpec)

/-- ITS FALSE NEIGHBOUR: 'it returns false'. Refute it at one input. -/
def crcPartsWrong : ChangeSpec := { name := "crcParts", fn := fun _ => fun
  | [d1, d2] => { results := [.lit (.bool false)], args := [d1, d2] }
  | _ => none }
def CrcPartsWrongFalsely : Prop := crcPartsRow.holds Try.pinned (OpenSpec.ofChange crcPartsWrong)

/-- 'stooklaw01.LebNumbers': WHATEVER THE INPUT: true; the input reads as it did. -/
def lebNumbersSpec : ChangeSpec := { name := "lebNumbers", fn := fun _ => fun
  | [d] => { results := [.lit (.bool true)], args := [d] }
  | _ => none }
def lebNumbersRow : OpenClaim := { program := "ytipfcibdkbneoaa", sum := "421ff7ed6b983e281a75770dd3f0e0ac23efa264c716cd11ce73b3be2a936638", func := "stook/stooklaw01.LebNumbers", spec := "lebNumbers", recurses := true, apart := false }
def LebNumbersSaid : Prop := lebNumbersRow.holds Try.pinned (OpenSpec.ofChange lebNumbersSpec)

/-- ITS FALSE NEIGHBOUR: 'it returns false'. Refute it at one input. -/
def lebNumbersWrong : ChangeSpec := { name := "lebNumbers", fn := fun _ => fun
  | [d] => { results := [.lit (.bool false)], args := [d] }
  | _ => none }
def LebNumbersWrongFalsely : Prop := lebNumbersRow.holds Try.pinned (OpenSpec.ofChange lebNumbersWrong)

/-- 'stooklaw01.LebReads': WHATEVER THE INPUT: true; the input reads as it did. -/
def lebReadsSpec : ChangeSpec := { name := "lebReads", fn := fun _ => fun
  | [d1, d2] => { results := [.lit (.bool true)], args := [d1, d2] }
  | _ => none }
def lebReadsRow : OpenClaim := { program := "ytipfcibdkbneoaa", sum := "421ff7ed6b983e281a75770dd3f0e0ac23efa264c716cd11ce73b3be2a936638", func := "stook/stooklaw01.LebReads", spec := "lebReads", apart := false }
def LebReadsSaid : Prop := lebReadsRow.holds Try.pinned (OpenSpec.ofChange lebReadsSpec)

/-- ITS FALSE NEIGHBOUR: 'it returns false'. Refute it at one input. -/
def lebReadsWrong : ChangeSpec := { name := "lebReads", fn := fun _ => fun
  | [d1, d2] => { results := [.lit (.bool false)], args := [d1, d2] }
  | _ => none }
def LebReadsWrongFalsely : Prop := lebReadsRow.holds Try.pinned (OpenSpec.ofChange lebReadsWrong)

/-- 'stooklaw01.LebBack': WHATEVER THE INPUT: true; the input reads as it did. -/
def lebBackSpec : ChangeSpec := { name := "lebBack", fn := fun _ => fun
  | [d1, d2, d3] => { results := [.lit (.bool true)], args := [d1, d2, d3] }
  | _ => none }
def lebBackRow : OpenClaim := { program := "ytipfcibdkbneoaa", sum := "421ff7ed6b983e281a75770dd3f0e0ac23efa264c716cd11ce73b3be2a936638", func := "stook/stooklaw01.LebBack", spec := "lebBack", apart := false }
def LebBackSaid : Prop := lebBackRow.holds Try.pinned (OpenSpec.ofChange lebBackSpec)

/-- ITS FALSE NEIGHBOUR: 'it returns false'. Refute it at one input. -/
def lebBackWrong : ChangeSpec := { name := "lebBack", fn := fun _ => fun
  | [d1, d2, d3] => { results := [.lit (.bool false)], args := [d1, d2, d3] }
  | _ => none }
def LebBackWrongFalsely : Prop := lebBackRow.holds Try.pinned (OpenSpec.ofChange lebBackWrong)

/-- 'stooklaw01.LebOne': WHATEVER THE INPUT: true; the input reads as it did. -/
def lebOneSpec : ChangeSpec := { name := "lebOne", fn := fun _ => fun
  | [d1, d2] => { results := [.lit (.bool true)], args := [d1, d2] }
  | _ => none }
def lebOneRow : OpenClaim := { program := "ytipfcibdkbneoaa", sum := "421ff7ed6b983e281a75770dd3f0e0ac23efa264c716cd11ce73b3be2a936638", func := "stook/stooklaw01.LebOne", spec := "lebOne", apart := false }
def LebOneSaid : Prop := lebOneRow.holds Try.pinned (OpenSpec.ofChange lebOneSpec)

/-- ITS FALSE NEIGHBOUR: 'it returns false'. Refute it at one input. -/
def lebOneWrong : ChangeSpec := { name := "lebOne", fn := fun _ => fun
  | [d1, d2] => { results := [.lit (.bool false)], args := [d1, d2] }
  | _ => none }
def LebOneWrongFalsely : Prop := lebOneRow.holds Try.pinned (OpenSpec.ofChange lebOneWrong)

/-- 'stooklaw01.LebFree': WHATEVER THE INPUT: true; the input reads as it did. -/
def lebFreeSpec : ChangeSpec := { name := "lebFree", fn := fun _ => fun
  | [d1, d2] => { results := [.lit (.bool true)], args := [d1, d2] }
  | _ => none }
def lebFreeRow : OpenClaim := { program := "ytipfcibdkbneoaa", sum := "421ff7ed6b983e281a75770dd3f0e0ac23efa264c716cd11ce73b3be2a936638", func := "stook/stooklaw01.LebFree", spec := "lebFree", apart := false }
def LebFreeSaid : Prop := lebFreeRow.holds Try.pinned (OpenSpec.ofChange lebFreeSpec)

/-- ITS FALSE NEIGHBOUR: 'it returns false'. Refute it at one input. -/
def lebFreeWrong : ChangeSpec := { name := "lebFree", fn := fun _ => fun
  | [d1, d2] => { results := [.lit (.bool false)], args := [d1, d2] }
  | _ => none }
def LebFreeWrongFalsely : Prop := lebFreeRow.holds Try.pinned (OpenSpec.ofChange lebFreeWrong)

/-- 'stooklaw01.LebLens': WHATEVER THE INPUT: true; the input reads as it did. -/
def lebLensSpec : ChangeSpec := { name := "lebLens", fn := fun _ => fun
  | [d1, d2] => { results := [.lit (.bool true)], args := [d1, d2] }
  | _ => none }
def lebLensRow : OpenClaim := { program := "ytipfcibdkbneoaa", sum := "421ff7ed6b983e281a75770dd3f0e0ac23efa264c716cd11ce73b3be2a936638", func := "stook/stooklaw01.LebLens", spec := "lebLens", apart := false }
def LebLensSaid : Prop := lebLensRow.holds Try.pinned (OpenSpec.ofChange lebLensSpec)

/-- ITS FALSE NEIGHBOUR: 'it returns false'. Refute it at one input. -/
def lebLensWrong : ChangeSpec := { name := "lebLens", fn := fun _ => fun
  | [d1, d2] => { results := [.lit (.bool false)], args := [d1, d2] }
  | _ => none }
def LebLensWrongFalsely : Prop := lebLensRow.holds Try.pinned (OpenSpec.ofChange lebLensWrong)

/-- 'stooklaw01.LebRows': WHATEVER THE INPUT: true; the input reads as it did. -/
def lebRowsSpec : ChangeSpec := { name := "lebRows", fn := fun _ => fun
  | [d1, d2, d3, d4] => { results := [.lit (.bool true)], args := [d1, d2, d3, d4] }
  | _ => none }
def lebRowsRow : OpenClaim := { program := "ytipfcibdkbneoaa", sum := "421ff7ed6b983e281a75770dd3f0e0ac23efa264c716cd11ce73b3be2a936638", func := "stook/stooklaw01.LebRows", spec := "lebRows", recurses := true, apart := false }
def LebRowsSaid : Prop := lebRowsRow.holds Try.pinned (OpenSpec.ofChange lebRowsSpec)

/-- ITS FALSE NEIGHBOUR: 'it returns false'. Refute it at one input. -/
def lebRowsWrong : ChangeSpec := { name := "lebRows", fn := fun _ => fun
  | [d1, d2, d3, d4] => { results := [.lit (.bool false)], args := [d1, d2, d3, d4] }
  | _ => none }
def LebRowsWrongFalsely : Prop := lebRowsRow.holds Try.pinned (OpenSpec.ofChange lebRowsWrong)

/-- 'stooklaw01.LebLists': WHATEVER THE INPUT: true; the input reads as it did. -/
def lebListsSpec : ChangeSpec := { name := "lebLists", fn := fun _ => fun
  | [d1, d2, d3, d4] => { results := [.lit (.bool true)], args := [d1, d2, d3, d4] }
  | _ => none }
def lebListsRow : OpenClaim := { program := "ytipfcibdkbneoaa", sum := "421ff7ed6b983e281a75770dd3f0e0ac23efa264c716cd11ce73b3be2a936638", func := "stook/stooklaw01.LebLists", spec := "lebLists", recurses := true, apart := false }
def LebListsSaid : Prop := lebListsRow.holds Try.pinned (OpenSpec.ofChange lebListsSpec)

/-- ITS FALSE NEIGHBOUR: 'it returns false'. Refute it at one input. -/
def lebListsWrong : ChangeSpec := { name := "lebLists", fn := fun _ => fun
  | [d1, d2, d3, d4] => { results := [.lit (.bool false)], args := [d1, d2, d3, d4] }
  | _ => none }
def LebListsWrongFalsely : Prop := lebListsRow.holds Try.pinned (OpenSpec.ofChange lebListsWrong)

/-- 'stooklaw01.LebRowsBack': WHATEVER THE INPUT: true; the input reads as it did. -/
def lebRowsBackSpec : ChangeSpec := { name := "lebRowsBack", fn := fun _ => fun
  | [d1, d2, d3] => { results := [.lit (.bool true)], args := [d1, d2, d3] }
  | _ => none }
def lebRowsBackRow : OpenClaim := { program := "ytipfcibdkbneoaa", sum := "421ff7ed6b983e281a75770dd3f0e0ac23efa264c716cd11ce73b3be2a936638", func := "stook/stooklaw01.LebRowsBack", spec := "lebRowsBack", apart := false }
def LebRowsBackSaid : Prop := lebRowsBackRow.holds Try.pinned (OpenSpec.ofChange lebRowsBackSpec)

/-- ITS FALSE NEIGHBOUR: 'it returns false'. Refute it at one input. -/
def lebRowsBackWrong : ChangeSpec := { name := "lebRowsBack", fn := fun _ => fun
  | [d1, d2, d3] => { results := [.lit (.bool false)], args := [d1, d2, d3] }
  | _ => none }
def LebRowsBackWrongFalsely : Prop := lebRowsBackRow.holds Try.pinned (OpenSpec.ofChange lebRowsBackWrong)

/-- 'stooklaw01.LebFresh': WHATEVER THE INPUT: true; the input reads as it did. -/
def lebFreshSpec : ChangeSpec := { name := "lebFresh", fn := fun _ => fun
  | [d1, d2] => { results := [.lit (.bool true)], args := [d1, d2] }
  | _ => none }
def lebFreshRow : OpenClaim := { program := "ytipfcibdkbneoaa", sum := "421ff7ed6b983e281a75770dd3f0e0ac23efa264c716cd11ce73b3be2a936638", func := "stook/stooklaw01.LebFresh", spec := "lebFresh", recurses := true, apart := false }
def LebFreshSaid : Prop := lebFreshRow.holds Try.pinned (OpenSpec.ofChange lebFreshSpec)

/-- ITS FALSE NEIGHBOUR: 'it returns false'. Refute it at one input. -/
def lebFreshWrong : ChangeSpec := { name := "lebFresh", fn := fun _ => fun
  | [d1, d2] => { results := [.lit (.bool false)], args := [d1, d2] }
  | _ => none }
def LebFreshWrongFalsely : Prop := lebFreshRow.holds Try.pinned (OpenSpec.ofChange lebFreshWrong)

/-- 'stooklaw01.LebRowOne': WHATEVER THE INPUT: true; the input reads as it did. -/
def lebRowOneSpec : ChangeSpec := { name := "lebRowOne", fn := fun _ => fun
  | [d1, d2, d3] => { results := [.lit (.bool true)], args := [d1, d2, d3] }
  | _ => none }
def lebRowOneRow : OpenClaim := { program := "ytipfcibdkbneoaa", sum := "421ff7ed6b983e281a75770dd3f0e0ac23efa264c716cd11ce73b3be2a936638", func := "stook/stooklaw01.LebRowOne", spec := "lebRowOne", apart := false }
def LebRowOneSaid : Prop := lebRowOneRow.holds Try.pinned (OpenSpec.ofChange lebRowOneSpec)

/-- ITS FALSE NEIGHBOUR: 'it returns false'. Refute it at one input. -/
def lebRowOneWrong : ChangeSpec := { name := "lebRowOne", fn := fun _ => fun
  | [d1, d2, d3] => { results := [.lit (.bool false)], args := [d1, d2, d3] }
  | _ => none }
def LebRowOneWrongFalsely : Prop := lebRowOneRow.holds Try.pinned (OpenSpec.ofChange lebRowOneWrong)

/-- 'stooklaw12.PackFolds': WHATEVER THE INPUT: true; the input reads as it did. -/
def packFoldsSpec : ChangeSpec := { name := "packFolds", fn := fun _ => fun
  | [d1, d2] => { results := [.lit (.bool true)], args := [d1, d2] }
  | _ => none }
def packFoldsRow : OpenClaim := { program := "ytipfcibdkbneoaa", sum := "421ff7ed6b983e281a75770dd3f0e0ac23efa264c716cd11ce73b3be2a936638", func := "stook/stooklaw12.PackFolds", spec := "packFolds", apart := false }
def PackFoldsSaid : Prop := packFoldsRow.holds Try.pinned (OpenSpec.ofChange packFoldsSpec)

/-- ITS FALSE NEIGHBOUR: 'it returns false'. Refute it at one input. -/
def packFoldsWrong : ChangeSpec := { name := "packFolds", fn := fun _ => fun
  | [d1, d2] => { results := [.lit (.bool false)], args := [d1, d2] }
  | _ => none }
def PackFoldsWrongFalsely : Prop := packFoldsRow.holds Try.pinned (OpenSpec.ofChange packFoldsWrong)

/-- 'stooklaw12.PackGets': WHATEVER THE INPUT: true; the input reads as it did. -/
def packGetsSpec : ChangeSpec := { name := "packGets", fn := fun _ => fun
  | [d1, d2] => { results := [.lit (.bool true)], args := [d1, d2] }
  | _ => none }
def packGetsRow : OpenClaim := { program := "ytipfcibdkbneoaa", sum := "421ff7ed6b983e281a75770dd3f0e0ac23efa264c716cd11ce73b3be2a936638", func := "stook/stooklaw12.PackGets", spec := "packGets", apart := false }
def PackGetsSaid : Prop := packGetsRow.holds Try.pinned (OpenSpec.ofChange packGetsSpec)

/-- ITS FALSE NEIGHBOUR: 'it returns false'. Refute it at one input. -/
def packGetsWrong : ChangeSpec := { name := "packGets", fn := fun _ => fun
  | [d1, d2] => { results := [.lit (.bool false)], args := [d1, d2] }
  | _ => none }
def PackGetsWrongFalsely : Prop := packGetsRow.holds Try.pinned (OpenSpec.ofChange packGetsWrong)

/-- 'stooklaw12.PackBack': WHATEVER THE INPUT: true; the input reads as it did. -/
def packBackSpec : ChangeSpec := { name := "packBack", fn := fun _ => fun
  | [d1, d2, d3] => { results := [.lit (.bool true)], args := [d1, d2, d3] }
  | _ => none }
def packBackRow : OpenClaim := { program := "ytipfcibdkbneoaa", sum := "421ff7ed6b983e281a75770dd3f0e0ac23efa264c716cd11ce73b3be2a936638", func := "stook/stooklaw12.PackBack", spec := "packBack", apart := false }
def PackBackSaid : Prop := packBackRow.holds Try.pinned (OpenSpec.ofChange packBackSpec)

/-- ITS FALSE NEIGHBOUR: 'it returns false'. Refute it at one input. -/
def packBackWrong : ChangeSpec := { name := "packBack", fn := fun _ => fun
  | [d1, d2, d3] => { results := [.lit (.bool false)], args := [d1, d2, d3] }
  | _ => none }
def PackBackWrongFalsely : Prop := packBackRow.holds Try.pinned (OpenSpec.ofChange packBackWrong)

/-- 'stooklaw12.PackOne': WHATEVER THE INPUT: true; the input reads as it did. -/
def packOneSpec : ChangeSpec := { name := "packOne", fn := fun _ => fun
  | [d1, d2, d3, d4] => { results := [.lit (.bool true)], args := [d1, d2, d3, d4] }
  | _ => none }
def packOneRow : OpenClaim := { program := "ytipfcibdkbneoaa", sum := "421ff7ed6b983e281a75770dd3f0e0ac23efa264c716cd11ce73b3be2a936638", func := "stook/stooklaw12.PackOne", spec := "packOne", apart := false }
def PackOneSaid : Prop := packOneRow.holds Try.pinned (OpenSpec.ofChange packOneSpec)

/-- ITS FALSE NEIGHBOUR: 'it returns false'. Refute it at one input. -/
def packOneWrong : ChangeSpec := { name := "packOne", fn := fun _ => fun
  | [d1, d2, d3, d4] => { results := [.lit (.bool false)], args := [d1, d2, d3, d4] }
  | _ => none }
def PackOneWrongFalsely : Prop := packOneRow.holds Try.pinned (OpenSpec.ofChange packOneWrong)

/-- 'stooklaw12.PackFresh': WHATEVER THE INPUT: true; the input reads as it did. -/
def packFreshSpec : ChangeSpec := { name := "packFresh", fn := fun _ => fun
  | [d1, d2] => { results := [.lit (.bool true)], args := [d1, d2] }
  | _ => none }
def packFreshRow : OpenClaim := { program := "ytipfcibdkbneoaa", sum := "421ff7ed6b983e281a75770dd3f0e0ac23efa264c716cd11ce73b3be2a936638", func := "stook/stooklaw12.PackFresh", spec := "packFresh", apart := false }
def PackFreshSaid : Prop := packFreshRow.holds Try.pinned (OpenSpec.ofChange packFreshSpec)

/-- ITS FALSE NEIGHBOUR: 'it returns false'. Refute it at one input. -/
def packFreshWrong : ChangeSpec := { name := "packFresh", fn := fun _ => fun
  | [d1, d2] => { results := [.lit (.bool false)], args := [d1, d2] }
  | _ => none }
def PackFreshWrongFalsely : Prop := packFreshRow.holds Try.pinned (OpenSpec.ofChange packFreshWrong)

/-- 'stooklaw12.PackPuts': WHATEVER THE INPUT: true; the input reads as it did. -/
def packPutsSpec : ChangeSpec := { name := "packPuts", fn := fun _ => fun
  | [d] => { results := [.lit (.bool true)], args := [d] }
  | _ => none }
def packPutsRow : OpenClaim := { program := "ytipfcibdkbneoaa", sum := "421ff7ed6b983e281a75770dd3f0e0ac23efa264c716cd11ce73b3be2a936638", func := "stook/stooklaw12.PackPuts", spec := "packPuts", recurses := true, apart := false }
def PackPutsSaid : Prop := packPutsRow.holds Try.pinned (OpenSpec.ofChange packPutsSpec)

/-- ITS FALSE NEIGHBOUR: 'it returns false'. Refute it at one input. -/
def packPutsWrong : ChangeSpec := { name := "packPuts", fn := fun _ => fun
  | [d] => { results := [.lit (.bool false)], args := [d] }
  | _ => none }
def PackPutsWrongFalsely : Prop := packPutsRow.holds Try.pinned (OpenSpec.ofChange packPutsWrong)

/-- 'stooklaw12.PackSmall': WHATEVER THE INPUT: true; the input reads as it did. -/
def packSmallSpec : ChangeSpec := { name := "packSmall", fn := fun _ => fun
  | [d1, d2, d3] => { results := [.lit (.bool true)], args := [d1, d2, d3] }
  | _ => none }
def packSmallRow : OpenClaim := { program := "ytipfcibdkbneoaa", sum := "421ff7ed6b983e281a75770dd3f0e0ac23efa264c716cd11ce73b3be2a936638", func := "stook/stooklaw12.PackSmall", spec := "packSmall", apart := false }
def PackSmallSaid : Prop := packSmallRow.holds Try.pinned (OpenSpec.ofChange packSmallSpec)

/-- ITS FALSE NEIGHBOUR: 'it returns false'. Refute it at one input. -/
def packSmallWrong : ChangeSpec := { name := "packSmall", fn := fun _ => fun
  | [d1, d2, d3] => { results := [.lit (.bool false)], args := [d1, d2, d3] }
  | _ => none }
def PackSmallWrongFalsely : Prop := packSmallRow.holds Try.pinned (OpenSpec.ofChange packSmallWrong)

/-- 'stooklaw03.FramePuts': WHATEVER THE INPUT: true; the input reads as it did. -/
def framePutsSpec : ChangeSpec := { name := "framePuts", fn := fun _ => fun
  | [d1, d2] => { results := [.lit (.bool true)], args := [d1, d2] }
  | _ => none }
def framePutsRow : OpenClaim := { program := "ytipfcibdkbneoaa", sum := "421ff7ed6b983e281a75770dd3f0e0ac23efa264c716cd11ce73b3be2a936638", func := "stook/stooklaw03.FramePuts", spec := "framePuts", recurses := true, apart := false }
def FramePutsSaid : Prop := framePutsRow.holds Try.pinned (OpenSpec.ofChange framePutsSpec)

/-- ITS FALSE NEIGHBOUR: 'it returns false'. Refute it at one input. -/
def framePutsWrong : ChangeSpec := { name := "framePuts", fn := fun _ => fun
  | [d1, d2] => { results := [.lit (.bool false)], args := [d1, d2] }
  | _ => none }
def FramePutsWrongFalsely : Prop := framePutsRow.holds Try.pinned (OpenSpec.ofChange framePutsWrong)

/-- 'stooklaw03.FrameGets': WHATEVER THE INPUT: true; the input reads as it did. -/
def frameGetsSpec : ChangeSpec := { name := "frameGets", fn := fun _ => fun
  | [d1, d2] => { results := [.lit (.bool true)], args := [d1, d2] }
  | _ => none }
def frameGetsRow : OpenClaim := { program := "ytipfcibdkbneoaa", sum := "421ff7ed6b983e281a75770dd3f0e0ac23efa264c716cd11ce73b3be2a936638", func := "stook/stooklaw03.FrameGets", spec := "frameGets", apart := false }
def FrameGetsSaid : Prop := frameGetsRow.holds Try.pinned (OpenSpec.ofChange frameGetsSpec)

/-- ITS FALSE NEIGHBOUR: 'it returns false'. Refute it at one input. -/
def frameGetsWrong : ChangeSpec := { name := "frameGets", fn := fun _ => fun
  | [d1, d2] => { results := [.lit (.bool false)], args := [d1, d2] }
  | _ => none }
def FrameGetsWrongFalsely : Prop := frameGetsRow.holds Try.pinned (OpenSpec.ofChange frameGetsWrong)

/-- 'stooklaw03.FrameBurst': WHATEVER THE INPUT: true; the input reads as it did. -/
def frameBurstSpec : ChangeSpec := { name := "frameBurst", fn := fun _ => fun
  | [d1, d2, d3] => { results := [.lit (.bool true)], args := [d1, d2, d3] }
  | _ => none }
def frameBurstRow : OpenClaim := { program := "ytipfcibdkbneoaa", sum := "421ff7ed6b983e281a75770dd3f0e0ac23efa264c716cd11ce73b3be2a936638", func := "stook/stooklaw03.FrameBurst", spec := "frameBurst", recurses := true, apart := false }
def FrameBurstSaid : Prop := frameBurstRow.holds Try.pinned (OpenSpec.ofChange frameBurstSpec)

/-- ITS FALSE NEIGHBOUR: 'it returns false'. Refute it at one input. -/
def frameBurstWrong : ChangeSpec := { name := "frameBurst", fn := fun _ => fun
  | [d1, d2, d3] => { results := [.lit (.bool false)], args := [d1, d2, d3] }
  | _ => none }
def FrameBurstWrongFalsely : Prop := frameBurstRow.holds Try.pinned (OpenSpec.ofChange frameBurstWrong)

/-- 'stooklaw03.FrameAhead': WHATEVER THE INPUT: true; the input reads as it did. -/
def frameAheadSpec : ChangeSpec := { name := "frameAhead", fn := fun _ => fun
  | [d1, d2] => { results := [.lit (.bool true)], args := [d1, d2] }
  | _ => none }
def frameAheadRow : OpenClaim := { program := "ytipfcibdkbneoaa", sum := "421ff7ed6b983e281a75770dd3f0e0ac23efa264c716cd11ce73b3be2a936638", func := "stook/stooklaw03.FrameAhead", spec := "frameAhead", apart := false }
def FrameAheadSaid : Prop := frameAheadRow.holds Try.pinned (OpenSpec.ofChange frameAheadSpec)

/-- ITS FALSE NEIGHBOUR: 'it returns false'. Refute it at one input. -/
def frameAheadWrong : ChangeSpec := { name := "frameAhead", fn := fun _ => fun
  | [d1, d2] => { results := [.lit (.bool false)], args := [d1, d2] }
  | _ => none }
def FrameAheadWrongFalsely : Prop := frameAheadRow.holds Try.pinned (OpenSpec.ofChange frameAheadWrong)

/-- 'stooklaw03.FrameFresh': WHATEVER THE INPUT: true; the input reads as it did. -/
def frameFreshSpec : ChangeSpec := { name := "frameFresh", fn := fun _ => fun
  | [d1, d2] => { results := [.lit (.bool true)], args := [d1, d2] }
  | _ => none }
def frameFreshRow : OpenClaim := { program := "ytipfcibdkbneoaa", sum := "421ff7ed6b983e281a75770dd3f0e0ac23efa264c716cd11ce73b3be2a936638", func := "stook/stooklaw03.FrameFresh", spec := "frameFresh", apart := false }
def FrameFreshSaid : Prop := frameFreshRow.holds Try.pinned (OpenSpec.ofChange frameFreshSpec)

/-- ITS FALSE NEIGHBOUR: 'it returns false'. Refute it at one input. -/
def frameFreshWrong : ChangeSpec := { name := "frameFresh", fn := fun _ => fun
  | [d1, d2] => { results := [.lit (.bool false)], args := [d1, d2] }
  | _ => none }
def FrameFreshWrongFalsely : Prop := frameFreshRow.holds Try.pinned (OpenSpec.ofChange frameFreshWrong)

/-- 'stooklaw03.FrameOne': WHATEVER THE INPUT: true; the input reads as it did. -/
def frameOneSpec : ChangeSpec := { name := "frameOne", fn := fun _ => fun
  | [d1, d2] => { results := [.lit (.bool true)], args := [d1, d2] }
  | _ => none }
def frameOneRow : OpenClaim := { program := "ytipfcibdkbneoaa", sum := "421ff7ed6b983e281a75770dd3f0e0ac23efa264c716cd11ce73b3be2a936638", func := "stook/stooklaw03.FrameOne", spec := "frameOne", apart := false }
def FrameOneSaid : Prop := frameOneRow.holds Try.pinned (OpenSpec.ofChange frameOneSpec)

/-- ITS FALSE NEIGHBOUR: 'it returns false'. Refute it at one input. -/
def frameOneWrong : ChangeSpec := { name := "frameOne", fn := fun _ => fun
  | [d1, d2] => { results := [.lit (.bool false)], args := [d1, d2] }
  | _ => none }
def FrameOneWrongFalsely : Prop := frameOneRow.holds Try.pinned (OpenSpec.ofChange frameOneWrong)

/-- 'stooklaw03.FrameScans': WHATEVER THE INPUT: true; the input reads as it did. -/
def frameScansSpec : ChangeSpec := { name := "frameScans", fn := fun _ => fun
  | [d] => { results := [.lit (.bool true)], args := [d] }
  | _ => none }
def frameScansRow : OpenClaim := { program := "ytipfcibdkbneoaa", sum := "421ff7ed6b983e281a75770dd3f0e0ac23efa264c716cd11ce73b3be2a936638", func := "stook/stooklaw03.FrameScans", spec := "frameScans", apart := false }
def FrameScansSaid : Prop := frameScansRow.holds Try.pinned (OpenSpec.ofChange frameScansSpec)

/-- ITS FALSE NEIGHBOUR: 'it returns false'. Refute it at one input. -/
def frameScansWrong : ChangeSpec := { name := "frameScans", fn := fun _ => fun
  | [d] => { results := [.lit (.bool false)], args := [d] }
  | _ => none }
def FrameScansWrongFalsely : Prop := frameScansRow.holds Try.pinned (OpenSpec.ofChange frameScansWrong)

/-- 'stooklaw03.FrameBack': WHATEVER THE INPUT: true; the input reads as it did. -/
def frameBackSpec : ChangeSpec := { name := "frameBack", fn := fun _ => fun
  | [d1, d2, d3] => { results := [.lit (.bool true)], args := [d1, d2, d3] }
  | _ => none }
def frameBackRow : OpenClaim := { program := "ytipfcibdkbneoaa", sum := "421ff7ed6b983e281a75770dd3f0e0ac23efa264c716cd11ce73b3be2a936638", func := "stook/stooklaw03.FrameBack", spec := "frameBack", apart := false }
def FrameBackSaid : Prop := frameBackRow.holds Try.pinned (OpenSpec.ofChange frameBackSpec)

/-- ITS FALSE NEIGHBOUR: 'it returns false'. Refute it at one input. -/
def frameBackWrong : ChangeSpec := { name := "frameBack", fn := fun _ => fun
  | [d1, d2, d3] => { results := [.lit (.bool false)], args := [d1, d2, d3] }
  | _ => none }
def FrameBackWrongFalsely : Prop := frameBackRow.holds Try.pinned (OpenSpec.ofChange frameBackWrong)

/-- 'stooklaw15.PagePuts': WHATEVER THE INPUT: true; the input reads as it did. -/
def pagePutsSpec : ChangeSpec := { name := "pagePuts", fn := fun _ => fun
  | [d1, d2, d3] => { results := [.lit (.bool true)], args := [d1, d2, d3] }
  | _ => none }
def pagePutsRow : OpenClaim := { program := "ytipfcibdkbneoaa", sum := "421ff7ed6b983e281a75770dd3f0e0ac23efa264c716cd11ce73b3be2a936638", func := "stook/stooklaw15.PagePuts", spec := "pagePuts", apart := false }
def PagePutsSaid : Prop := pagePutsRow.holds Try.pinned (OpenSpec.ofChange pagePutsSpec)

/-- ITS FALSE NEIGHBOUR: 'it returns false'. Refute it at one input. -/
def pagePutsWrong : ChangeSpec := { name := "pagePuts", fn := fun _ => fun
  | [d1, d2, d3] => { results := [.lit (.bool false)], args := [d1, d2, d3] }
  | _ => none }
def PagePutsWrongFalsely : Prop := pagePutsRow.holds Try.pinned (OpenSpec.ofChange pagePutsWrong)

/-- 'stooklaw15.PageGets': WHATEVER THE INPUT: true; the input reads as it did. -/
def pageGetsSpec : ChangeSpec := { name := "pageGets", fn := fun _ => fun
  | [d1, d2] => { results := [.lit (.bool true)], args := [d1, d2] }
  | _ => none }
def pageGetsRow : OpenClaim := { program := "ytipfcibdkbneoaa", sum := "421ff7ed6b983e281a75770dd3f0e0ac23efa264c716cd11ce73b3be2a936638", func := "stook/stooklaw15.PageGets", spec := "pageGets", apart := false }
def PageGetsSaid : Prop := pageGetsRow.holds Try.pinned (OpenSpec.ofChange pageGetsSpec)

/-- ITS FALSE NEIGHBOUR: 'it returns false'. Refute it at one input. -/
def pageGetsWrong : ChangeSpec := { name := "pageGets", fn := fun _ => fun
  | [d1, d2] => { results := [.lit (.bool false)], args := [d1, d2] }
  | _ => none }
def PageGetsWrongFalsely : Prop := pageGetsRow.holds Try.pinned (OpenSpec.ofChange pageGetsWrong)

/-- 'stooklaw15.PageBack': WHATEVER THE INPUT: true; the input reads as it did. -/
def pageBackSpec : ChangeSpec := { name := "pageBack", fn := fun _ => fun
  | [d1, d2, d3, d4, d5] => { results := [.lit (.bool true)], args := [d1, d2, d3, d4, d5] }
  | _ => none }
def pageBackRow : OpenClaim := { program := "ytipfcibdkbneoaa", sum := "421ff7ed6b983e281a75770dd3f0e0ac23efa264c716cd11ce73b3be2a936638", func := "stook/stooklaw15.PageBack", spec := "pageBack", apart := false }
def PageBackSaid : Prop := pageBackRow.holds Try.pinned (OpenSpec.ofChange pageBackSpec)

/-- ITS FALSE NEIGHBOUR: 'it returns false'. Refute it at one input. -/
def pageBackWrong : ChangeSpec := { name := "pageBack", fn := fun _ => fun
  | [d1, d2, d3, d4, d5] => { results := [.lit (.bool false)], args := [d1, d2, d3, d4, d5] }
  | _ => none }
def PageBackWrongFalsely : Prop := pageBackRow.holds Try.pinned (OpenSpec.ofChange pageBackWrong)

/-- 'stooklaw16.RootPuts': WHATEVER THE INPUT: true; the input reads as it did. -/
def rootPutsSpec : ChangeSpec := { name := "rootPuts", fn := fun _ => fun
  | [d1, d2, d3] => { results := [.lit (.bool true)], args := [d1, d2, d3] }
  | _ => none }
def rootPutsRow : OpenClaim := { program := "ytipfcibdkbneoaa", sum := "421ff7ed6b983e281a75770dd3f0e0ac23efa264c716cd11ce73b3be2a936638", func := "stook/stooklaw16.RootPuts", spec := "rootPuts", unfollowed := true, recurses := true, apart := false }
def RootPutsSaid : Prop := rootPutsRow.holds Try.pinned (OpenSpec.ofChange rootPutsSpec)

/-- ITS FALSE NEIGHBOUR: 'it returns false'. Refute it at one input. -/
def rootPutsWrong : ChangeSpec := { name := "rootPuts", fn := fun _ => fun
  | [d1, d2, d3] => { results := [.lit (.bool false)], args := [d1, d2, d3] }
  | _ => none }
def RootPutsWrongFalsely : Prop := rootPutsRow.holds Try.pinned (OpenSpec.ofChange rootPutsWrong)

/-- 'stooklaw16.RootPicks': WHATEVER THE INPUT: true; the input reads as it did. -/
def rootPicksSpec : ChangeSpec := { name := "rootPicks", fn := fun _ => fun
  | [d1, d2] => { results := [.lit (.bool true)], args := [d1, d2] }
  | _ => none }
def rootPicksRow : OpenClaim := { program := "ytipfcibdkbneoaa", sum := "421ff7ed6b983e281a75770dd3f0e0ac23efa264c716cd11ce73b3be2a936638", func := "stook/stooklaw16.RootPicks", spec := "rootPicks", unfollowed := true, recurses := true, apart := false }
def RootPicksSaid : Prop := rootPicksRow.holds Try.pinned (OpenSpec.ofChange rootPicksSpec)

/-- ITS FALSE NEIGHBOUR: 'it returns false'. Refute it at one input. -/
def rootPicksWrong : ChangeSpec := { name := "rootPicks", fn := fun _ => fun
  | [d1, d2] => { results := [.lit (.bool false)], args := [d1, d2] }
  | _ => none }
def RootPicksWrongFalsely : Prop := rootPicksRow.holds Try.pinned (OpenSpec.ofChange rootPicksWrong)

/-- 'stooklaw16.RootBack': WHATEVER THE INPUT: true; the input reads as it did. -/
def rootBackSpec : ChangeSpec := { name := "rootBack", fn := fun _ => fun
  | [d1, d2, d3, d4] => { results := [.lit (.bool true)], args := [d1, d2, d3, d4] }
  | _ => none }
def rootBackRow : OpenClaim := { program := "ytipfcibdkbneoaa", sum := "421ff7ed6b983e281a75770dd3f0e0ac23efa264c716cd11ce73b3be2a936638", func := "stook/stooklaw16.RootBack", spec := "rootBack", unfollowed := true, recurses := true, apart := false }
def RootBackSaid : Prop := rootBackRow.holds Try.pinned (OpenSpec.ofChange rootBackSpec)

/-- ITS FALSE NEIGHBOUR: 'it returns false'. Refute it at one input. -/
def rootBackWrong : ChangeSpec := { name := "rootBack", fn := fun _ => fun
  | [d1, d2, d3, d4] => { results := [.lit (.bool false)], args := [d1, d2, d3, d4] }
  | _ => none }
def RootBackWrongFalsely : Prop := rootBackRow.holds Try.pinned (OpenSpec.ofChange rootBackWrong)

/- THE SECOND FORM. 'bulk': how many values and letters a reading holds, each counted each time it is reached (what is shared counts as often as it is met; a slice's spare places count too). A statement '..UptoSaid' is the law's where the arguments, and the package variables that the reading takes, are together of bulk at most 1048576: NARROWER than '..Said'. Prove '..Said' where nothing that the law and all that it calls make is longer than what came in: it says more and counts as full. Else prove '..UptoSaid'. A law counts once. -/
mutual
def uptoBulk {H : Type} : DataW H → Nat
  | .lit (.string bytes) => bytes.length + 1
  | .lit _ => 1
  | .nil => 1
  | .ptr d => uptoBulk d + 1
  | .slice elems spare => uptoBulkAll elems + uptoBulkAll spare + 1
  | .agg parts => uptoBulkAll parts + 1
  | .iface _ d => uptoBulk d + 1
  | .map entries => uptoBulkEntries entries + 1
  | .held _ => 1
def uptoBulkAll {H : Type} : List (DataW H) → Nat
  | [] => 0
  | d :: r => uptoBulk d + uptoBulkAll r
def uptoBulkEntries {H : Type} : List (Lit × DataW H) → Nat
  | [] => 0
  | x :: r => uptoBulkEntry x + uptoBulkEntries r
def uptoBulkEntry {H : Type} : Lit × DataW H → Nat
  | (.string bytes, d) => bytes.length + uptoBulk d + 1
  | (_, d) => uptoBulk d + 1
 end
def uptoSmall : (H : Type) → List (DataW H) → Bool := fun _ ds => decide (uptoBulkAll ds ≤ 1048576)
def OpenSpec.upto (s : _root_.Go.ChangeSpec) : _root_.Go.OpenSpec := { _root_.Go.OpenSpec.ofChange s with cond := some uptoSmall }

/-- 'stooklaw02.CrcSteps', WHERE WHAT IT READS IS OF BULK AT MOST 1048576: true; the input reads as it did. -/
def crcStepsUptoRow : OpenClaim := { program := "ytipfcibdkbneoaa", sum := "421ff7ed6b983e281a75770dd3f0e0ac23efa264c716cd11ce73b3be2a936638", func := "stook/stooklaw02.CrcSteps", spec := "crcSteps", apart := false, narrowed := true }
def CrcStepsUptoSaid : Prop := crcStepsUptoRow.holds Try.pinned (OpenSpec.upto crcStepsSpec)

/-- 'stooklaw02.CrcSums', WHERE WHAT IT READS IS OF BULK AT MOST 1048576: true; the input reads as it did. -/
def crcSumsUptoRow : OpenClaim := { program := "ytipfcibdkbneoaa", sum := "421ff7ed6b983e281a75770dd3f0e0ac23efa264c716cd11ce73b3be2a936638", func := "stook/stooklaw02.CrcSums", spec := "crcSums", apart := false, narrowed := true }
def CrcSumsUptoSaid : Prop := crcSumsUptoRow.holds Try.pinned (OpenSpec.upto crcSumsSpec)

/-- 'stooklaw02.CrcBurst', WHERE WHAT IT READS IS OF BULK AT MOST 1048576: true; the input reads as it did. -/
def crcBurstUptoRow : OpenClaim := { program := "ytipfcibdkbneoaa", sum := "421ff7ed6b983e281a75770dd3f0e0ac23efa264c716cd11ce73b3be2a936638", func := "stook/stooklaw02.CrcBurst", spec := "crcBurst", apart := false, narrowed := true }
def CrcBurstUptoSaid : Prop := crcBurstUptoRow.holds Try.pinned (OpenSpec.upto crcBurstSpec)

/-- 'stooklaw02.CrcOne', WHERE WHAT IT READS IS OF BULK AT MOST 1048576: true; the input reads as it did. -/
def crcOneUptoRow : OpenClaim := { program := "ytipfcibdkbneoaa", sum := "421ff7ed6b983e281a75770dd3f0e0ac23efa264c716cd11ce73b3be2a936638", func := "stook/stooklaw02.CrcOne", spec := "crcOne", apart := false, narrowed := true }
def CrcOneUptoSaid : Prop := crcOneUptoRow.holds Try.pinned (OpenSpec.upto crcOneSpec)

/-- 'stooklaw02.CrcLinear', WHERE WHAT IT READS IS OF BULK AT MOST 1048576: true; the input reads as it did. -/
def crcLinearUptoRow : OpenClaim := { program := "ytipfcibdkbneoaa", sum := "421ff7ed6b983e281a75770dd3f0e0ac23efa264c716cd11ce73b3be2a936638", func := "stook/stooklaw02.CrcLinear", spec := "crcLinear", apart := false, narrowed := true }
def CrcLinearUptoSaid : Prop := crcLinearUptoRow.holds Try.pinned (OpenSpec.upto crcLinearSpec)

/-- 'stooklaw02.CrcJoins', WHERE WHAT IT READS IS OF BULK AT MOST 1048576: true; the input reads as it did. -/
def crcJoinsUptoRow : OpenClaim := { program := "ytipfcibdkbneoaa", sum := "421ff7ed6b983e281a75770dd3f0e0ac23efa264c716cd11ce73b3be2a936638", func := "stook/stooklaw02.CrcJoins", spec := "crcJoins", apart := false, narrowed := true }
def CrcJoinsUptoSaid : Prop := crcJoinsUptoRow.holds Try.pinned (OpenSpec.upto crcJoinsSpec)

/-- 'stooklaw02.CrcParts', WHERE WHAT IT READS IS OF BULK AT MOST 1048576: true; the input reads as it did. -/
def crcPartsUptoRow : OpenClaim := { program := "ytipfcibdkbneoaa", sum := "421ff7ed6b983e281a75770dd3f0e0ac23efa264c716cd11ce73b3be2a936638", func := "stook/stooklaw02.CrcParts", spec := "crcParts", apart := false, narrowed := true }
def CrcPartsUptoSaid : Prop := crcPartsUptoRow.holds Try.pinned (OpenSpec.upto crcPartsSpec)

/-- 'stooklaw01.LebNumbers', WHERE WHAT IT READS IS OF BULK AT MOST 1048576: true; the input reads as it did. -/
def lebNumbersUptoRow : OpenClaim := { program := "ytipfcibdkbneoaa", sum := "421ff7ed6b983e281a75770dd3f0e0ac23efa264c716cd11ce73b3be2a936638", func := "stook/stooklaw01.LebNumbers", spec := "lebNumbers", recurses := true, apart := false, narrowed := true }
def LebNumbersUptoSaid : Prop := lebNumbersUptoRow.holds Try.pinned (OpenSpec.upto lebNumbersSpec)

/-- 'stooklaw01.LebReads', WHERE WHAT IT READS IS OF BULK AT MOST 1048576: true; the input reads as it did. -/
def lebReadsUptoRow : OpenClaim := { program := "ytipfcibdkbneoaa", sum := "421ff7ed6b983e281a75770dd3f0e0ac23efa264c716cd11ce73b3be2a936638", func := "stook/stooklaw01.LebReads", spec := "lebReads", apart := false, narrowed := true }
def LebReadsUptoSaid : Prop := lebReadsUptoRow.holds Try.pinned (OpenSpec.upto lebReadsSpec)

/-- 'stooklaw01.LebBack', WHERE WHAT IT READS IS OF BULK AT MOST 1048576: true; the input reads as it did. -/
def lebBackUptoRow : OpenClaim := { program := "ytipfcibdkbneoaa", sum := "421ff7ed6b983e281a75770dd3f0e0ac23efa264c716cd11ce73b3be2a936638", func := "stook/stooklaw01.LebBack", spec := "lebBack", apart := false, narrowed := true }
def LebBackUptoSaid : Prop := lebBackUptoRow.holds Try.pinned (OpenSpec.upto lebBackSpec)

/-- 'stooklaw01.LebOne', WHERE WHAT IT READS IS OF BULK AT MOST 1048576: true; the input reads as it did. -/
def lebOneUptoRow : OpenClaim := { program := "ytipfcibdkbneoaa", sum := "421ff7ed6b983e281a75770dd3f0e0ac23efa264c716cd11ce73b3be2a936638", func := "stook/stooklaw01.LebOne", spec := "lebOne", apart := false, narrowed := true }
def LebOneUptoSaid : Prop := lebOneUptoRow.holds Try.pinned (OpenSpec.upto lebOneSpec)

/-- 'stooklaw01.LebFree', WHERE WHAT IT READS IS OF BULK AT MOST 1048576: true; the input reads as it did. -/
def lebFreeUptoRow : OpenClaim := { program := "ytipfcibdkbneoaa", sum := "421ff7ed6b983e281a75770dd3f0e0ac23efa264c716cd11ce73b3be2a936638", func := "stook/stooklaw01.LebFree", spec := "lebFree", apart := false, narrowed := true }
def LebFreeUptoSaid : Prop := lebFreeUptoRow.holds Try.pinned (OpenSpec.upto lebFreeSpec)

/-- 'stooklaw01.LebLens', WHERE WHAT IT READS IS OF BULK AT MOST 1048576: true; the input reads as it did. -/
def lebLensUptoRow : OpenClaim := { program := "ytipfcibdkbneoaa", sum := "421ff7ed6b983e281a75770dd3f0e0ac23efa264c716cd11ce73b3be2a936638", func := "stook/stooklaw01.LebLens", spec := "lebLens", apart := false, narrowed := true }
def LebLensUptoSaid : Prop := lebLensUptoRow.holds Try.pinned (OpenSpec.upto lebLensSpec)

/-- 'stooklaw01.LebRows', WHERE WHAT IT READS IS OF BULK AT MOST 1048576: true; the input reads as it did. -/
def lebRowsUptoRow : OpenClaim := { program := "ytipfcibdkbneoaa", sum := "421ff7ed6b983e281a75770dd3f0e0ac23efa264c716cd11ce73b3be2a936638", func := "stook/stooklaw01.LebRows", spec := "lebRows", recurses := true, apart := false, narrowed := true }
def LebRowsUptoSaid : Prop := lebRowsUptoRow.holds Try.pinned (OpenSpec.upto lebRowsSpec)

/-- 'stooklaw01.LebLists', WHERE WHAT IT READS IS OF BULK AT MOST 1048576: true; the input reads as it did. -/
def lebListsUptoRow : OpenClaim := { program := "ytipfcibdkbneoaa", sum := "421ff7ed6b983e281a75770dd3f0e0ac23efa264c716cd11ce73b3be2a936638", func := "stook/stooklaw01.LebLists", spec := "lebLists", recurses := true, apart := false, narrowed := true }
def LebListsUptoSaid : Prop := lebListsUptoRow.holds Try.pinned (OpenSpec.upto lebListsSpec)

/-- 'stooklaw01.LebRowsBack', WHERE WHAT IT READS IS OF BULK AT MOST 1048576: true; the input reads as it did. -/
def lebRowsBackUptoRow : OpenClaim := { program := "ytipfcibdkbneoaa", sum := "421ff7ed6b983e281a75770dd3f0e0ac23efa264c716cd11ce73b3be2a936638", func := "stook/stooklaw01.LebRowsBack", spec := "lebRowsBack", apart := false, narrowed := true }
def LebRowsBackUptoSaid : Prop := lebRowsBackUptoRow.holds Try.pinned (OpenSpec.upto lebRowsBackSpec)

/-- 'stooklaw01.LebFresh', WHERE WHAT IT READS IS OF BULK AT MOST 1048576: true; the input reads as it did. -/
def lebFreshUptoRow : OpenClaim := { program := "ytipfcibdkbneoaa", sum := "421ff7ed6b983e281a75770dd3f0e0ac23efa264c716cd11ce73b3be2a936638", func := "stook/stooklaw01.LebFresh", spec := "lebFresh", recurses := true, apart := false, narrowed := true }
def LebFreshUptoSaid : Prop := lebFreshUptoRow.holds Try.pinned (OpenSpec.upto lebFreshSpec)

/-- 'stooklaw01.LebRowOne', WHERE WHAT IT READS IS OF BULK AT MOST 1048576: true; the input reads as it did. -/
def lebRowOneUptoRow : OpenClaim := { program := "ytipfcibdkbneoaa", sum := "421ff7ed6b983e281a75770dd3f0e0ac23efa264c716cd11ce73b3be2a936638", func := "stook/stooklaw01.LebRowOne", spec := "lebRowOne", apart := false, narrowed := true }
def LebRowOneUptoSaid : Prop := lebRowOneUptoRow.holds Try.pinned (OpenSpec.upto lebRowOneSpec)

/-- 'stooklaw12.PackFolds', WHERE WHAT IT READS IS OF BULK AT MOST 1048576: true; the input reads as it did. -/
def packFoldsUptoRow : OpenClaim := { program := "ytipfcibdkbneoaa", sum := "421ff7ed6b983e281a75770dd3f0e0ac23efa264c716cd11ce73b3be2a936638", func := "stook/stooklaw12.PackFolds", spec := "packFolds", apart := false, narrowed := true }
def PackFoldsUptoSaid : Prop := packFoldsUptoRow.holds Try.pinned (OpenSpec.upto packFoldsSpec)

/-- 'stooklaw12.PackGets', WHERE WHAT IT READS IS OF BULK AT MOST 1048576: true; the input reads as it did. -/
def packGetsUptoRow : OpenClaim := { program := "ytipfcibdkbneoaa", sum := "421ff7ed6b983e281a75770dd3f0e0ac23efa264c716cd11ce73b3be2a936638", func := "stook/stooklaw12.PackGets", spec := "packGets", apart := false, narrowed := true }
def PackGetsUptoSaid : Prop := packGetsUptoRow.holds Try.pinned (OpenSpec.upto packGetsSpec)

/-- 'stooklaw12.PackBack', WHERE WHAT IT READS IS OF BULK AT MOST 1048576: true; the input reads as it did. -/
def packBackUptoRow : OpenClaim := { program := "ytipfcibdkbneoaa", sum := "421ff7ed6b983e281a75770dd3f0e0ac23efa264c716cd11ce73b3be2a936638", func := "stook/stooklaw12.PackBack", spec := "packBack", apart := false, narrowed := true }
def PackBackUptoSaid : Prop := packBackUptoRow.holds Try.pinned (OpenSpec.upto packBackSpec)

/-- 'stooklaw12.PackOne', WHERE WHAT IT READS IS OF BULK AT MOST 1048576: true; the input reads as it did. -/
def packOneUptoRow : OpenClaim := { program := "ytipfcibdkbneoaa", sum := "421ff7ed6b983e281a75770dd3f0e0ac23efa264c716cd11ce73b3be2a936638", func := "stook/stooklaw12.PackOne", spec := "packOne", apart := false, narrowed := true }
def PackOneUptoSaid : Prop := packOneUptoRow.holds Try.pinned (OpenSpec.upto packOneSpec)

/-- 'stooklaw12.PackFresh', WHERE WHAT IT READS IS OF BULK AT MOST 1048576: true; the input reads as it did. -/
def packFreshUptoRow : OpenClaim := { program := "ytipfcibdkbneoaa", sum := "421ff7ed6b983e281a75770dd3f0e0ac23efa264c716cd11ce73b3be2a936638", func := "stook/stooklaw12.PackFresh", spec := "packFresh", apart := false, narrowed := true }
def PackFreshUptoSaid : Prop := packFreshUptoRow.holds Try.pinned (OpenSpec.upto packFreshSpec)

/-- 'stooklaw12.PackPuts', WHERE WHAT IT READS IS OF BULK AT MOST 1048576: true; the input reads as it did. -/
def packPutsUptoRow : OpenClaim := { program := "ytipfcibdkbneoaa", sum := "421ff7ed6b983e281a75770dd3f0e0ac23efa264c716cd11ce73b3be2a936638", func := "stook/stooklaw12.PackPuts", spec := "packPuts", recurses := true, apart := false, narrowed := true }
def PackPutsUptoSaid : Prop := packPutsUptoRow.holds Try.pinned (OpenSpec.upto packPutsSpec)

/-- 'stooklaw12.PackSmall', WHERE WHAT IT READS IS OF BULK AT MOST 1048576: true; the input reads as it did. -/
def packSmallUptoRow : OpenClaim := { program := "ytipfcibdkbneoaa", sum := "421ff7ed6b983e281a75770dd3f0e0ac23efa264c716cd11ce73b3be2a936638", func := "stook/stooklaw12.PackSmall", spec := "packSmall", apart := false, narrowed := true }
def PackSmallUptoSaid : Prop := packSmallUptoRow.holds Try.pinned (OpenSpec.upto packSmallSpec)

/-- 'stooklaw03.FramePuts', WHERE WHAT IT READS IS OF BULK AT MOST 1048576: true; the input reads as it did. -/
def framePutsUptoRow : OpenClaim := { program := "ytipfcibdkbneoaa", sum := "421ff7ed6b983e281a75770dd3f0e0ac23efa264c716cd11ce73b3be2a936638", func := "stook/stooklaw03.FramePuts", spec := "framePuts", recurses := true, apart := false, narrowed := true }
def FramePutsUptoSaid : Prop := framePutsUptoRow.holds Try.pinned (OpenSpec.upto framePutsSpec)

/-- 'stooklaw03.FrameGets', WHERE WHAT IT READS IS OF BULK AT MOST 1048576: true; the input reads as it did. -/
def frameGetsUptoRow : OpenClaim := { program := "ytipfcibdkbneoaa", sum := "421ff7ed6b983e281a75770dd3f0e0ac23efa264c716cd11ce73b3be2a936638", func := "stook/stooklaw03.FrameGets", spec := "frameGets", apart := false, narrowed := true }
def FrameGetsUptoSaid : Prop := frameGetsUptoRow.holds Try.pinned (OpenSpec.upto frameGetsSpec)

/-- 'stooklaw03.FrameBurst', WHERE WHAT IT READS IS OF BULK AT MOST 1048576: true; the input reads as it did. -/
def frameBurstUptoRow : OpenClaim := { program := "ytipfcibdkbneoaa", sum := "421ff7ed6b983e281a75770dd3f0e0ac23efa264c716cd11ce73b3be2a936638", func := "stook/stooklaw03.FrameBurst", spec := "frameBurst", recurses := true, apart := false, narrowed := true }
def FrameBurstUptoSaid : Prop := frameBurstUptoRow.holds Try.pinned (OpenSpec.upto frameBurstSpec)

/-- 'stooklaw03.FrameAhead', WHERE WHAT IT READS IS OF BULK AT MOST 1048576: true; the input reads as it did. -/
def frameAheadUptoRow : OpenClaim := { program := "ytipfcibdkbneoaa", sum := "421ff7ed6b983e281a75770dd3f0e0ac23efa264c716cd11ce73b3be2a936638", func := "stook/stooklaw03.FrameAhead", spec := "frameAhead", apart := false, narrowed := true }
def FrameAheadUptoSaid : Prop := frameAheadUptoRow.holds Try.pinned (OpenSpec.upto frameAheadSpec)

/-- 'stooklaw03.FrameFresh', WHERE WHAT IT READS IS OF BULK AT MOST 1048576: true; the input reads as it did. -/
def frameFreshUptoRow : OpenClaim := { program := "ytipfcibdkbneoaa", sum := "421ff7ed6b983e281a75770dd3f0e0ac23efa264c716cd11ce73b3be2a936638", func := "stook/stooklaw03.FrameFresh", spec := "frameFresh", apart := false, narrowed := true }
def FrameFreshUptoSaid : Prop := frameFreshUptoRow.holds Try.pinned (OpenSpec.upto frameFreshSpec)

/-- 'stooklaw03.FrameOne', WHERE WHAT IT READS IS OF BULK AT MOST 1048576: true; the input reads as it did. -/
def frameOneUptoRow : OpenClaim := { program := "ytipfcibdkbneoaa", sum := "421ff7ed6b983e281a75770dd3f0e0ac23efa264c716cd11ce73b3be2a936638", func := "stook/stooklaw03.FrameOne", spec := "frameOne", apart := false, narrowed := true }
def FrameOneUptoSaid : Prop := frameOneUptoRow.holds Try.pinned (OpenSpec.upto frameOneSpec)

/-- 'stooklaw03.FrameScans', WHERE WHAT IT READS IS OF BULK AT MOST 1048576: true; the input reads as it did. -/
def frameScansUptoRow : OpenClaim := { program := "ytipfcibdkbneoaa", sum := "421ff7ed6b983e281a75770dd3f0e0ac23efa264c716cd11ce73b3be2a936638", func := "stook/stooklaw03.FrameScans", spec := "frameScans", apart := false, narrowed := true }
def FrameScansUptoSaid : Prop := frameScansUptoRow.holds Try.pinned (OpenSpec.upto frameScansSpec)

/-- 'stooklaw03.FrameBack', WHERE WHAT IT READS IS OF BULK AT MOST 1048576: true; the input reads as it did. -/
def frameBackUptoRow : OpenClaim := { program := "ytipfcibdkbneoaa", sum := "421ff7ed6b983e281a75770dd3f0e0ac23efa264c716cd11ce73b3be2a936638", func := "stook/stooklaw03.FrameBack", spec := "frameBack", apart := false, narrowed := true }
def FrameBackUptoSaid : Prop := frameBackUptoRow.holds Try.pinned (OpenSpec.upto frameBackSpec)

/-- 'stooklaw15.PagePuts', WHERE WHAT IT READS IS OF BULK AT MOST 1048576: true; the input reads as it did. -/
def pagePutsUptoRow : OpenClaim := { program := "ytipfcibdkbneoaa", sum := "421ff7ed6b983e281a75770dd3f0e0ac23efa264c716cd11ce73b3be2a936638", func := "stook/stooklaw15.PagePuts", spec := "pagePuts", apart := false, narrowed := true }
def PagePutsUptoSaid : Prop := pagePutsUptoRow.holds Try.pinned (OpenSpec.upto pagePutsSpec)

/-- 'stooklaw15.PageGets', WHERE WHAT IT READS IS OF BULK AT MOST 1048576: true; the input reads as it did. -/
def pageGetsUptoRow : OpenClaim := { program := "ytipfcibdkbneoaa", sum := "421ff7ed6b983e281a75770dd3f0e0ac23efa264c716cd11ce73b3be2a936638", func := "stook/stooklaw15.PageGets", spec := "pageGets", apart := false, narrowed := true }
def PageGetsUptoSaid : Prop := pageGetsUptoRow.holds Try.pinned (OpenSpec.upto pageGetsSpec)

/-- 'stooklaw15.PageBack', WHERE WHAT IT READS IS OF BULK AT MOST 1048576: true; the input reads as it did. -/
def pageBackUptoRow : OpenClaim := { program := "ytipfcibdkbneoaa", sum := "421ff7ed6b983e281a75770dd3f0e0ac23efa264c716cd11ce73b3be2a936638", func := "stook/stooklaw15.PageBack", spec := "pageBack", apart := false, narrowed := true }
def PageBackUptoSaid : Prop := pageBackUptoRow.holds Try.pinned (OpenSpec.upto pageBackSpec)

/-- 'stooklaw16.RootPuts', WHERE WHAT IT READS IS OF BULK AT MOST 1048576: true; the input reads as it did. -/
def rootPutsUptoRow : OpenClaim := { program := "ytipfcibdkbneoaa", sum := "421ff7ed6b983e281a75770dd3f0e0ac23efa264c716cd11ce73b3be2a936638", func := "stook/stooklaw16.RootPuts", spec := "rootPuts", unfollowed := true, recurses := true, apart := false, narrowed := true }
def RootPutsUptoSaid : Prop := rootPutsUptoRow.holds Try.pinned (OpenSpec.upto rootPutsSpec)

/-- 'stooklaw16.RootPicks', WHERE WHAT IT READS IS OF BULK AT MOST 1048576: true; the input reads as it did. -/
def rootPicksUptoRow : OpenClaim := { program := "ytipfcibdkbneoaa", sum := "421ff7ed6b983e281a75770dd3f0e0ac23efa264c716cd11ce73b3be2a936638", func := "stook/stooklaw16.RootPicks", spec := "rootPicks", unfollowed := true, recurses := true, apart := false, narrowed := true }
def RootPicksUptoSaid : Prop := rootPicksUptoRow.holds Try.pinned (OpenSpec.upto rootPicksSpec)

/-- 'stooklaw16.RootBack', WHERE WHAT IT READS IS OF BULK AT MOST 1048576: true; the input reads as it did. -/
def rootBackUptoRow : OpenClaim := { program := "ytipfcibdkbneoaa", sum := "421ff7ed6b983e281a75770dd3f0e0ac23efa264c716cd11ce73b3be2a936638", func := "stook/stooklaw16.RootBack", spec := "rootBack", unfollowed := true, recurses := true, apart := false, narrowed := true }
def RootBackUptoSaid : Prop := rootBackUptoRow.holds Try.pinned (OpenSpec.upto rootBackSpec)

end Rows
end Go.Proofs.Ytipfcibdkbneoaa
