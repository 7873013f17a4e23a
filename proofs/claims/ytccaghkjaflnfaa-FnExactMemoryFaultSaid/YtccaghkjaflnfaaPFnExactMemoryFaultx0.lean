-- The Go functions of FnExactMemoryFault as Lean functions, each with its proof. Written by the session's own program (wip/gen/hp.py), which drives the kit's print.py.
import Derived.Test.YtccaghkjaflnfaaProg
import Derived.Below
import Derived.Deep.Draws
import Derived.Deep.AppendLies
import Derived.Maps.AppendAt
import Derived.OwnWalk
import Derived.Laws.BytesArg
import Derived.Laws.MakeOwn
import Derived.Laws.OwnMore
import Derived.Deep.OwnRows
import Derived.Tactics
import Derived.Lib.ConvBytes
import Derived.Laws.Slices
import Derived.WalkKit
import Derived.KernelRfl
import Derived.RowKit3
import Derived.Deep.LoopGhost
import Derived.Deep.QuietTactic
import Derived.BigQuiet
import Derived.WideLaws
import Derived.Deep.DeepCutAuto
import Derived.Deep.CutBlock
import Derived.Deep.RegionHeld3
import Derived.Laws.Rows
import Derived.Lib.AppendStr
import Derived.ArgAppend
import Derived.Laws.IdiomCopy
import Derived.OrdersHeld
import Derived.Laws.BitsLemmas
import Derived.RowKit
import Derived.Test.YtccaghkjaflnfaaWWords
import Derived.Test.YtccaghkjaflnfaaWLast
import Derived.Test.YtccaghkjaflnfaaWTab
import Derived.Test.YtccaghkjaflnfaaWFour
import Derived.Test.YtccaghkjaflnfaaWQPut
import Derived.Test.YtccaghkjaflnfaaWApart
import Derived.Test.YtccaghkjaflnfaaWArr
import Derived.Test.YtccaghkjaflnfaaWZeros
import Derived.Test.YtccaghkjaflnfaaWFoot
import Derived.Test.YtccaghkjaflnfaaWKept
import Derived.Test.YtccaghkjaflnfaaWShare
import Derived.Test.YtccaghkjaflnfaaWN
import Derived.Test.YtccaghkjaflnfaaWFootNe
import Derived.Test.YtccaghkjaflnfaaWAt
import Derived.Test.YtccaghkjaflnfaaWEqStruct
import Derived.Test.YtccaghkjaflnfaaWRepsOne
import Derived.Test.YtccaghkjaflnfaaWInv
import Derived.Test.YtccaghkjaflnfaaWInvWords
import Derived.Test.YtccaghkjaflnfaaWGuard
import Derived.Test.YtccaghkjaflnfaaWNEv
import Derived.Test.YtccaghkjaflnfaaWMore
namespace Go.Proofs.Ytccaghkjaflnfaa.PFnExactMemoryFault
open Go.RowKit Go.Proofs.YtccaghkjaflnfaaW.PrintWords Go.Proofs.YtccaghkjaflnfaaW.PrintLast Go.Proofs.YtccaghkjaflnfaaW.PrintMore
attribute [local go_sem] max2_int min2_int max_two min_two max_three min_three max_four min_four   -- for this text's walks alone
set_option linter.unusedVariables false
set_option linter.unusedSimpArgs false



def errW : Option Int → Value
  | none => .nilIface
  | some c => .iface 0 (.int .i64 c)
theorem errW_none : errW none = .nilIface := rfl
theorem errW_some (c : Int) : errW (some c) = .iface 0 (.int .i64 c) := rfl

theorem info2 : (Try.prog.info? 2).map (fun i => (i.zero, i.size, i.bytes)) = some (some (.int .i64 0), 1, 8) := by kernel_rfl
-- the values' own types

end Go.Proofs.Ytccaghkjaflnfaa.PFnExactMemoryFault
