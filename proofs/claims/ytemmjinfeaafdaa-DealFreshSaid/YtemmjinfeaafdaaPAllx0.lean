-- PRINTED by print.py (a twelfth state) out of the translation. Not trusted: Lean checks it.
import Derived.Test.YtemmjinfeaafdaaProg
import Derived.Below
import Derived.Deep.Draws
import Derived.Deep.AppendLies
import Derived.Maps.AppendAt
import Derived.OwnWalk
import Derived.Laws.BytesArg
import Derived.Laws.MakeOwn
import Derived.Laws.OwnMore
import Derived.Deep.OwnRows
import Derived.Tactics
import Derived.Lib.ConvBytes
import Derived.Laws.Slices
import Derived.WalkKit
import Derived.KernelRfl
import Derived.RowKit3
import Derived.Deep.LoopGhost
import Derived.Deep.QuietTactic
import Derived.BigQuiet
import Derived.WideLaws
import Derived.Deep.DeepCutAuto
import Derived.Deep.CutBlock
import Derived.Deep.RegionHeld3
import Derived.Laws.Rows
import Derived.Lib.AppendStr
import Derived.ArgAppend
import Derived.Laws.IdiomCopy
import Derived.OrdersHeld
import Derived.Laws.BitsLemmas
import Derived.RowKit
import Derived.Test.YtemmjinfeaafdaaVWWords
import Derived.Test.YtemmjinfeaafdaaVWLast
import Derived.Test.YtemmjinfeaafdaaVWTab
import Derived.Test.YtemmjinfeaafdaaVWFour
import Derived.Test.YtemmjinfeaafdaaVWQPut
import Derived.Test.YtemmjinfeaafdaaVWApart
import Derived.Test.YtemmjinfeaafdaaVWArr
import Derived.Test.YtemmjinfeaafdaaVWZeros
import Derived.Test.YtemmjinfeaafdaaVWFoot
import Derived.Test.YtemmjinfeaafdaaVWKept
import Derived.Test.YtemmjinfeaafdaaVWShare
import Derived.Test.YtemmjinfeaafdaaVWN
import Derived.Test.YtemmjinfeaafdaaVWFootNe
import Derived.Test.YtemmjinfeaafdaaVWAt
import Derived.Test.YtemmjinfeaafdaaVWEqStruct
import Derived.Test.YtemmjinfeaafdaaVWRepsOne
import Derived.Test.YtemmjinfeaafdaaVWInv
import Derived.Test.YtemmjinfeaafdaaVWInvWords
import Derived.Test.YtemmjinfeaafdaaVWGuard
import Derived.Test.YtemmjinfeaafdaaVWNEv
import Derived.Test.YtemmjinfeaafdaaVWMore
import Derived.Test.YtemmjinfeaafdaaExt
namespace Go.Proofs.Ytemmjinfeaafdaa.PAll
open Go.RowKit Go.Proofs.YtemmjinfeaafdaaVW.PrintWords Go.Proofs.YtemmjinfeaafdaaVW.PrintLast Go.Proofs.YtemmjinfeaafdaaVW.PrintMore
attribute [local go_sem] max2_int min2_int max_two min_two max_three min_three max_four min_four   -- for this text's walks alone
set_option linter.unusedVariables false
set_option linter.unusedSimpArgs false



def errW : Option Int → Value
  | none => .nilIface
  | some c => .iface 0 (.int .i64 c)
theorem errW_none : errW none = .nilIface := rfl
theorem errW_some (c : Int) : errW (some c) = .iface 0 (.int .i64 c) := rfl

theorem info3 : (Try.prog.info? 3).map (fun i => (i.zero, i.size, i.bytes)) = some (some (.int .i64 0), 1, 8) := by kernel_rfl
theorem info4 : (Try.prog.info? 4).map (fun i => (i.zero, i.size, i.bytes)) = some (some (.bool false), 1, 1) := by kernel_rfl
theorem info40 : (Try.prog.info? 40).map (fun i => (i.zero, i.size, i.bytes)) = some (some (.int .u64 0), 1, 8) := by kernel_rfl
-- the values' own types

end Go.Proofs.Ytemmjinfeaafdaa.PAll
