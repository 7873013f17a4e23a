-- The Go functions of FnExactAluOf as Lean functions, each with its proof. Written by the session's own program (wip/gen/hp.py), which drives the kit's print.py.
import Derived.Test.YtpppnnmippngdaaProg
import Derived.Below
import Derived.Deep.Draws
import Derived.Deep.AppendLies
import Derived.Maps.AppendAt
import Derived.OwnWalk
import Derived.Laws.BytesArg
import Derived.Laws.MakeOwn
import Derived.Laws.OwnMore
import Derived.Deep.OwnRows
import Derived.Tactics
import Derived.Lib.ConvBytes
import Derived.Laws.Slices
import Derived.WalkKit
import Derived.KernelRfl
import Derived.RowKit3
import Derived.Deep.LoopGhost
import Derived.Deep.QuietTactic
import Derived.BigQuiet
import Derived.WideLaws
import Derived.Deep.DeepCutAuto
import Derived.Deep.CutBlock
import Derived.Deep.RegionHeld3
import Derived.Laws.Rows
import Derived.Lib.AppendStr
import Derived.ArgAppend
import Derived.Laws.IdiomCopy
import Derived.OrdersHeld
import Derived.Laws.BitsLemmas
import Derived.RowKit
import Derived.Test.YtpppnnmippngdaaWWords
import Derived.Test.YtpppnnmippngdaaWLast
import Derived.Test.YtpppnnmippngdaaWTab
import Derived.Test.YtpppnnmippngdaaWFour
import Derived.Test.YtpppnnmippngdaaWQPut
import Derived.Test.YtpppnnmippngdaaWApart
import Derived.Test.YtpppnnmippngdaaWArr
import Derived.Test.YtpppnnmippngdaaWZeros
import Derived.Test.YtpppnnmippngdaaWFoot
import Derived.Test.YtpppnnmippngdaaWKept
import Derived.Test.YtpppnnmippngdaaWShare
import Derived.Test.YtpppnnmippngdaaWN
import Derived.Test.YtpppnnmippngdaaWFootNe
import Derived.Test.YtpppnnmippngdaaWAt
import Derived.Test.YtpppnnmippngdaaWEqStruct
import Derived.Test.YtpppnnmippngdaaWRepsOne
import Derived.Test.YtpppnnmippngdaaWInv
import Derived.Test.YtpppnnmippngdaaWInvWords
import Derived.Test.YtpppnnmippngdaaWGuard
import Derived.Test.YtpppnnmippngdaaWNEv
import Derived.Test.YtpppnnmippngdaaWMore
namespace Go.Proofs.Ytpppnnmippngdaa.PFnExactAluOf
open Go.RowKit Go.Proofs.YtpppnnmippngdaaW.PrintWords Go.Proofs.YtpppnnmippngdaaW.PrintLast Go.Proofs.YtpppnnmippngdaaW.PrintMore
attribute [local go_sem] max2_int min2_int max_two min_two max_three min_three max_four min_four   -- for this text's walks alone
set_option linter.unusedVariables false
set_option linter.unusedSimpArgs false



def errW : Option Int → Value
  | none => .nilIface
  | some c => .iface 0 (.int .i64 c)
theorem errW_none : errW none = .nilIface := rfl
theorem errW_some (c : Int) : errW (some c) = .iface 0 (.int .i64 c) := rfl

-- the values' own types

end Go.Proofs.Ytpppnnmippngdaa.PFnExactAluOf
