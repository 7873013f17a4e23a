-- The Go functions of FnExactRegionFault as Lean functions, each with its proof. Written by the session's own program (wip/gen/hp.py), which drives the kit's print.py.
import Derived.Test.YtaihihpdkaclcabProg
import Derived.Below
import Derived.Deep.Draws
import Derived.Deep.AppendLies
import Derived.Maps.AppendAt
import Derived.OwnWalk
import Derived.Laws.BytesArg
import Derived.Laws.MakeOwn
import Derived.Laws.OwnMore
import Derived.Deep.OwnRows
import Derived.Tactics
import Derived.Lib.ConvBytes
import Derived.Laws.Slices
import Derived.WalkKit
import Derived.KernelRfl
import Derived.RowKit3
import Derived.Deep.LoopGhost
import Derived.Deep.QuietTactic
import Derived.BigQuiet
import Derived.WideLaws
import Derived.Deep.DeepCutAuto
import Derived.Deep.CutBlock
import Derived.Deep.RegionHeld3
import Derived.Laws.Rows
import Derived.Lib.AppendStr
import Derived.ArgAppend
import Derived.Laws.IdiomCopy
import Derived.OrdersHeld
import Derived.Laws.BitsLemmas
import Derived.RowKit
import Derived.Test.YtaihihpdkaclcabWWords
import Derived.Test.YtaihihpdkaclcabWLast
import Derived.Test.YtaihihpdkaclcabWTab
import Derived.Test.YtaihihpdkaclcabWFour
import Derived.Test.YtaihihpdkaclcabWQPut
import Derived.Test.YtaihihpdkaclcabWApart
import Derived.Test.YtaihihpdkaclcabWArr
import Derived.Test.YtaihihpdkaclcabWZeros
import Derived.Test.YtaihihpdkaclcabWFoot
import Derived.Test.YtaihihpdkaclcabWKept
import Derived.Test.YtaihihpdkaclcabWShare
import Derived.Test.YtaihihpdkaclcabWN
import Derived.Test.YtaihihpdkaclcabWFootNe
import Derived.Test.YtaihihpdkaclcabWAt
import Derived.Test.YtaihihpdkaclcabWEqStruct
import Derived.Test.YtaihihpdkaclcabWRepsOne
import Derived.Test.YtaihihpdkaclcabWInv
import Derived.Test.YtaihihpdkaclcabWInvWords
import Derived.Test.YtaihihpdkaclcabWGuard
import Derived.Test.YtaihihpdkaclcabWNEv
import Derived.Test.YtaihihpdkaclcabWMore
namespace Go.Proofs.Ytaihihpdkaclcab.PFnExactRegionFault
open Go.RowKit Go.Proofs.YtaihihpdkaclcabW.PrintWords Go.Proofs.YtaihihpdkaclcabW.PrintLast Go.Proofs.YtaihihpdkaclcabW.PrintMore
attribute [local go_sem] max2_int min2_int max_two min_two max_three min_three max_four min_four   -- for this text's walks alone
set_option linter.unusedVariables false
set_option linter.unusedSimpArgs false



def errW : Option Int → Value
  | none => .nilIface
  | some c => .iface 0 (.int .i64 c)
theorem errW_none : errW none = .nilIface := rfl
theorem errW_some (c : Int) : errW (some c) = .iface 0 (.int .i64 c) := rfl

-- the values' own types

end Go.Proofs.Ytaihihpdkaclcab.PFnExactRegionFault
