-- The Go functions of FnExactEncodeIns as Lean functions, each with its proof. Written by the session's own program (wip/gen/hp.py), which drives the kit's print.py.
import Derived.Test.YtccaghkjaflnfabProg
import Derived.Below
import Derived.Deep.Draws
import Derived.Deep.AppendLies
import Derived.Maps.AppendAt
import Derived.OwnWalk
import Derived.Laws.BytesArg
import Derived.Laws.MakeOwn
import Derived.Laws.OwnMore
import Derived.Deep.OwnRows
import Derived.Tactics
import Derived.Lib.ConvBytes
import Derived.Laws.Slices
import Derived.WalkKit
import Derived.KernelRfl
import Derived.RowKit3
import Derived.Deep.LoopGhost
import Derived.Deep.QuietTactic
import Derived.BigQuiet
import Derived.WideLaws
import Derived.Deep.DeepCutAuto
import Derived.Deep.CutBlock
import Derived.Deep.RegionHeld3
import Derived.Laws.Rows
import Derived.Lib.AppendStr
import Derived.ArgAppend
import Derived.Laws.IdiomCopy
import Derived.OrdersHeld
import Derived.Laws.BitsLemmas
import Derived.RowKit
import Derived.Test.YtccaghkjaflnfabWWords
import Derived.Test.YtccaghkjaflnfabWLast
import Derived.Test.YtccaghkjaflnfabWTab
import Derived.Test.YtccaghkjaflnfabWFour
import Derived.Test.YtccaghkjaflnfabWQPut
import Derived.Test.YtccaghkjaflnfabWApart
import Derived.Test.YtccaghkjaflnfabWArr
import Derived.Test.YtccaghkjaflnfabWZeros
import Derived.Test.YtccaghkjaflnfabWFoot
import Derived.Test.YtccaghkjaflnfabWKept
import Derived.Test.YtccaghkjaflnfabWShare
import Derived.Test.YtccaghkjaflnfabWN
import Derived.Test.YtccaghkjaflnfabWFootNe
import Derived.Test.YtccaghkjaflnfabWAt
import Derived.Test.YtccaghkjaflnfabWEqStruct
import Derived.Test.YtccaghkjaflnfabWRepsOne
import Derived.Test.YtccaghkjaflnfabWInv
import Derived.Test.YtccaghkjaflnfabWInvWords
import Derived.Test.YtccaghkjaflnfabWGuard
import Derived.Test.YtccaghkjaflnfabWNEv
import Derived.Test.YtccaghkjaflnfabWMore
namespace Go.Proofs.Ytccaghkjaflnfab.PFnExactEncodeIns
open Go.RowKit Go.Proofs.YtccaghkjaflnfabW.PrintWords Go.Proofs.YtccaghkjaflnfabW.PrintLast Go.Proofs.YtccaghkjaflnfabW.PrintMore
attribute [local go_sem] max2_int min2_int max_two min_two max_three min_three max_four min_four   -- for this text's walks alone
set_option linter.unusedVariables false
set_option linter.unusedSimpArgs false



def errW : Option Int → Value
  | none => .nilIface
  | some c => .iface 0 (.int .i64 c)
theorem errW_none : errW none = .nilIface := rfl
theorem errW_some (c : Int) : errW (some c) = .iface 0 (.int .i64 c) := rfl

-- the values' own types

end Go.Proofs.Ytccaghkjaflnfab.PFnExactEncodeIns
