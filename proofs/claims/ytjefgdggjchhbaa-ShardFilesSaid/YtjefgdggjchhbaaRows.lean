/-
  No cell of these rows narrows 'for every input' (looked for: loops, veiled, ifaces, maps, wideKeys, modest, calm, conditions, laid).
  DERIVED. THE GIVEN ROWS OF THIS SEAT. 5 by the template 'for every input the law returns true; each argument reads behind the call as it read before'; 0 by the template 'total and deterministic' (their statements: YtjefgdggjchhbaaTotals.lean).
  GIVEN WITH THE SEED: the statements are not yours to turn. If you find one false, say at which input.
  Laid BY PROGRAM, IN A SANDBOX (cutbox-rows.mjs): the forced cells as the released guide's own fill.sh prints them over the translation 8c7283a0621e8392… (all of the seat's roots in one cut). By AI agents, Wed Nov 11 2026. No macro, syntax, notation, axiom, sorry.
-/
import Derived.Test.YtjefgdggjchhbaaChecked
import GoSem.Claim
import GoSem.ClaimJoined
import GoSem.ClaimMapViews
import Derived.JoinedTies
import Derived.KernelRfl
namespace Go.Proofs.Ytjefgdggjchhbaa
/- THE CELL 'sum', in the pinned program and in every row, IS THE sha256 OF THE DUMP (.gsa) THAT YtjefgdggjchhbaaProg.lean LOADS. Nothing in Lean hashes anything: it is a label: what it is worth is what the hold of that sum in a sandbox is worth. -/
noncomputable def Try.pinned : Pinned := { name := "ytjefgdggjchhbaa", sum := "8c7283a0621e839291ac1fbf873a4b3782fdb17a1691af0776d3632e7434d1be", checked := Try.checked }
namespace Rows
def none {H : Type} : Left H := { results := [], args := [] }

/-- 'stooklaw21.ShardFrames': WHATEVER THE INPUT: true; the input reads as it did. -/
def shardFramesSpec : ChangeSpec := { name := "shardFrames", fn := fun _ => fun
  | [d1, d2] => { results := [.lit (.bool true)], args := [d1, d2] }
  | _ => none }
def shardFramesRow : OpenClaim := { program := "ytjefgdggjchhbaa", sum := "8c7283a0621e839291ac1fbf873a4b3782fdb17a1691af0776d3632e7434d1be", func := "stook/stooklaw21.ShardFrames", spec := "shardFrames", recurses := true, apart := false }
def ShardFramesSaid : Prop := shardFramesRow.holds Try.pinned (OpenSpec.ofChange shardFramesSpec)

/-- ITS FALSE NEIGHBOUR: 'it returns false'. Refute it at one input. -/
def shardFramesWrong : ChangeSpec := { name := "shardFrames", fn := fun _ => fun
  | [d1, d2] => { results := [.lit (.bool false)], args := [d1, d2] }
  | _ => none }
def ShardFramesWrongFalsely : Prop := shardFramesRow.holds Try.pinned (OpenSpec.ofChange shardFramesWrong)

/-- 'stooklaw21.ShardScans': WHATEVER THE INPUT: true; the input reads as it did. -/
def shardScansSpec : ChangeSpec := { name := "shardScans", fn := fun _ => fun
  | [d] => { results := [.lit (.bool true)], args := [d] }
  | _ => none }
def shardScansRow : OpenClaim := { program := "ytjefgdggjchhbaa", sum := "8c7283a0621e839291ac1fbf873a4b3782fdb17a1691af0776d3632e7434d1be", func := "stook/stooklaw21.ShardScans", spec := "shardScans", recurses := true, apart := false }
def ShardScansSaid : Prop := shardScansRow.holds Try.pinned (OpenSpec.ofChange shardScansSpec)

/-- ITS FALSE NEIGHBOUR: 'it returns false'. Refute it at one input. -/
def shardScansWrong : ChangeSpec := { name := "shardScans", fn := fun _ => fun
  | [d] => { results := [.lit (.bool false)], args := [d] }
  | _ => none }
def ShardScansWrongFalsely : Prop := shardScansRow.holds Try.pinned (OpenSpec.ofChange shardScansWrong)

/-- 'stooklaw21.ShardCut': WHATEVER THE INPUT: true; the input reads as it did. -/
def shardCutSpec : ChangeSpec := { name := "shardCut", fn := fun _ => fun
  | [d1, d2, d3, d4] => { results := [.lit (.bool true)], args := [d1, d2, d3, d4] }
  | _ => none }
def shardCutRow : OpenClaim := { program := "ytjefgdggjchhbaa", sum := "8c7283a0621e839291ac1fbf873a4b3782fdb17a1691af0776d3632e7434d1be", func := "stook/stooklaw21.ShardCut", spec := "shardCut", recurses := true, apart := false }
def ShardCutSaid : Prop := shardCutRow.holds Try.pinned (OpenSpec.ofChange shardCutSpec)

/-- ITS FALSE NEIGHBOUR: 'it returns false'. Refute it at one input. -/
def shardCutWrong : ChangeSpec := { name := "shardCut", fn := fun _ => fun
  | [d1, d2, d3, d4] => { results := [.lit (.bool false)], args := [d1, d2, d3, d4] }
  | _ => none }
def ShardCutWrongFalsely : Prop := shardCutRow.holds Try.pinned (OpenSpec.ofChange shardCutWrong)

/-- 'stooklaw21.ShardNil': WHATEVER THE INPUT: true; the input reads as it did. -/
def shardNilSpec : ChangeSpec := { name := "shardNil", fn := fun _ => fun
  | [d1, d2, d3, d4] => { results := [.lit (.bool true)], args := [d1, d2, d3, d4] }
  | _ => none }
def shardNilRow : OpenClaim := { program := "ytjefgdggjchhbaa", sum := "8c7283a0621e839291ac1fbf873a4b3782fdb17a1691af0776d3632e7434d1be", func := "stook/stooklaw21.ShardNil", spec := "shardNil", apart := false }
def ShardNilSaid : Prop := shardNilRow.holds Try.pinned (OpenSpec.ofChange shardNilSpec)

/-- ITS FALSE NEIGHBOUR: 'it returns false'. Refute it at one input. -/
def shardNilWrong : ChangeSpec := { name := "shardNil", fn := fun _ => fun
  | [d1, d2, d3, d4] => { results := [.lit (.bool false)], args := [d1, d2, d3, d4] }
  | _ => none }
def ShardNilWrongFalsely : Prop := shardNilRow.holds Try.pinned (OpenSpec.ofChange shardNilWrong)

/-- 'stooklaw21.ShardFiles': WHATEVER THE INPUT: true; the input reads as it did. -/
def shardFilesSpec : ChangeSpec := { name := "shardFiles", fn := fun _ => fun
  | [d1, d2, d3] => { results := [.lit (.bool true)], args := [d1, d2, d3] }
  | _ => none }
def shardFilesRow : OpenClaim := { program := "ytjefgdggjchhbaa", sum := "8c7283a0621e839291ac1fbf873a4b3782fdb17a1691af0776d3632e7434d1be", func := "stook/stooklaw21.ShardFiles", spec := "shardFiles", recurses := true, apart := false }
def ShardFilesSaid : Prop := shardFilesRow.holds Try.pinned (OpenSpec.ofChange shardFilesSpec)

/-- ITS FALSE NEIGHBOUR: 'it returns false'. Refute it at one input. -/
def shardFilesWrong : ChangeSpec := { name := "shardFiles", fn := fun _ => fun
  | [d1, d2, d3] => { results := [.lit (.bool false)], args := [d1, d2, d3] }
  | _ => none }
def ShardFilesWrongFalsely : Prop := shardFilesRow.holds Try.pinned (OpenSpec.ofChange shardFilesWrong)

/- THE SECOND FORM. 'bulk': how many values and letters a reading holds, each counted each time it is reached (what is shared counts as often as it is met; a slice's spare places count too). A statement '..UptoSaid' is the law's where the arguments, and the package variables that the reading takes, are together of bulk at most 1048576: NARROWER than '..Said'. Prove '..Said' where nothing that the law and all that it calls make is longer than what came in: it says more and counts as full. Else prove '..UptoSaid'. A law counts once. -/
mutual
def uptoBulk {H : Type} : DataW H → Nat
  | .lit (.string bytes) => bytes.length + 1
  | .lit _ => 1
  | .nil => 1
  | .ptr d => uptoBulk d + 1
  | .slice elems spare => uptoBulkAll elems + uptoBulkAll spare + 1
  | .agg parts => uptoBulkAll parts + 1
  | .iface _ d => uptoBulk d + 1
  | .map entries => uptoBulkEntries entries + 1
  | .held _ => 1
def uptoBulkAll {H : Type} : List (DataW H) → Nat
  | [] => 0
  | d :: r => uptoBulk d + uptoBulkAll r
def uptoBulkEntries {H : Type} : List (Lit × DataW H) → Nat
  | [] => 0
  | x :: r => uptoBulkEntry x + uptoBulkEntries r
def uptoBulkEntry {H : Type} : Lit × DataW H → Nat
  | (.string bytes, d) => bytes.length + uptoBulk d + 1
  | (_, d) => uptoBulk d + 1
 end
def uptoSmall : (H : Type) → List (DataW H) → Bool := fun _ ds => decide (uptoBulkAll ds ≤ 1048576)
def OpenSpec.upto (s : _root_.Go.ChangeSpec) : _root_.Go.OpenSpec := { _root_.Go.OpenSpec.ofChange s with cond := some uptoSmall }

/-- 'stooklaw21.ShardFrames', WHERE WHAT IT READS IS OF BULK AT MOST 1048576: true; the input reads as it did. -/
def shardFramesUptoRow : OpenClaim := { program := "ytjefgdggjchhbaa", sum := "8c7283a0621e839291ac1fbf873a4b3782fdb17a1691af0776d3632e7434d1be", func := "stook/stooklaw21.ShardFrames", spec := "shardFrames", recurses := true, apart := false, narrowed := true }
def ShardFramesUptoSaid : Prop := shardFramesUptoRow.holds Try.pinned (OpenSpec.upto shardFramesSpec)

/-- 'stooklaw21.ShardScans', WHERE WHAT IT READS IS OF BULK AT MOST 1048576: true; the input reads as it did. -/
def shardScansUptoRow : OpenClaim := { program := "ytjefgdggjchhbaa", sum := "8c7283a0621e839291ac1fbf873a4b3782fdb17a1691af0776d3632e7434d1be", func := "stook/stooklaw21.ShardScans", spec := "shardScans", recurses := true, apart := false, narrowed := true }
def ShardScansUptoSaid : Prop := shardScansUptoRow.holds Try.pinned (OpenSpec.upto shardScansSpec)

/-- 'stooklaw21.ShardCut', WHERE WHAT IT READS IS OF BULK AT MOST 1048576: true; the input reads as it did. -/
def shardCutUptoRow : OpenClaim := { program := "ytjefgdggjchhbaa", sum := "8c7283a0621e839291ac1fbf873a4b3782fdb17a1691af0776d3632e7434d1be", func := "stook/stooklaw21.ShardCut", spec := "shardCut", recurses := true, apart := false, narrowed := true }
def ShardCutUptoSaid : Prop := shardCutUptoRow.holds Try.pinned (OpenSpec.upto shardCutSpec)

/-- 'stooklaw21.ShardNil', WHERE WHAT IT READS IS OF BULK AT MOST 1048576: true; the input reads as it did. -/
def shardNilUptoRow : OpenClaim := { program := "ytjefgdggjchhbaa", sum := "8c7283a0621e839291ac1fbf873a4b3782fdb17a1691af0776d3632e7434d1be", func := "stook/stooklaw21.ShardNil", spec := "shardNil", apart := false, narrowed := true }
def ShardNilUptoSaid : Prop := shardNilUptoRow.holds Try.pinned (OpenSpec.upto shardNilSpec)

/-- 'stooklaw21.ShardFiles', WHERE WHAT IT READS IS OF BULK AT MOST 1048576: true; the input reads as it did. -/
def shardFilesUptoRow : OpenClaim := { program := "ytjefgdggjchhbaa", sum := "8c7283a0621e839291ac1fbf873a4b3782fdb17a1691af0776d3632e7434d1be", func := "stook/stooklaw21.ShardFiles", spec := "shardFiles", recurses := true, apart := false, narrowed := true }
def ShardFilesUptoSaid : Prop := shardFilesUptoRow.holds Try.pinned (OpenSpec.upto shardFilesSpec)

end Rows
end Go.Proofs.Ytjefgdggjchhbaa
