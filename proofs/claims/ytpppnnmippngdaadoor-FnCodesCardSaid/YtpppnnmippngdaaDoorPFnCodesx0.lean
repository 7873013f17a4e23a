-- The Go functions of FnCodes as Lean functions, each with its proof. Written by the session's own program (wip/gen/hp.py), which drives the kit's print.py.
import Derived.Test.YtpppnnmippngdaaDoorProg
import Derived.Below
import Derived.Deep.Draws
import Derived.Deep.AppendLies
import Derived.Maps.AppendAt
import Derived.OwnWalk
import Derived.Laws.BytesArg
import Derived.Laws.MakeOwn
import Derived.Laws.OwnMore
import Derived.Deep.OwnRows
import Derived.Tactics
import Derived.Lib.ConvBytes
import Derived.Laws.Slices
import Derived.WalkKit
import Derived.KernelRfl
import Derived.RowKit3
import Derived.Deep.LoopGhost
import Derived.Deep.QuietTactic
import Derived.BigQuiet
import Derived.WideLaws
import Derived.Deep.DeepCutAuto
import Derived.Deep.CutBlock
import Derived.Deep.RegionHeld3
import Derived.Laws.Rows
import Derived.Lib.AppendStr
import Derived.ArgAppend
import Derived.Laws.IdiomCopy
import Derived.OrdersHeld
import Derived.Laws.BitsLemmas
import Derived.RowKit
import Derived.Lib.SliceRun
import Derived.Test.YtpppnnmippngdaaDoorShelf
import Derived.Test.YtpppnnmippngdaaDoorWWords
import Derived.Test.YtpppnnmippngdaaDoorWLast
import Derived.Test.YtpppnnmippngdaaDoorWTab
import Derived.Test.YtpppnnmippngdaaDoorWFour
import Derived.Test.YtpppnnmippngdaaDoorWQPut
import Derived.Test.YtpppnnmippngdaaDoorWApart
import Derived.Test.YtpppnnmippngdaaDoorWArr
import Derived.Test.YtpppnnmippngdaaDoorWZeros
import Derived.Test.YtpppnnmippngdaaDoorWFoot
import Derived.Test.YtpppnnmippngdaaDoorWKept
import Derived.Test.YtpppnnmippngdaaDoorWShare
import Derived.Test.YtpppnnmippngdaaDoorWN
import Derived.Test.YtpppnnmippngdaaDoorWFootNe
import Derived.Test.YtpppnnmippngdaaDoorWAt
import Derived.Test.YtpppnnmippngdaaDoorWEqStruct
import Derived.Test.YtpppnnmippngdaaDoorWRepsOne
import Derived.Test.YtpppnnmippngdaaDoorWInv
import Derived.Test.YtpppnnmippngdaaDoorWInvWords
import Derived.Test.YtpppnnmippngdaaDoorWGuard
import Derived.Test.YtpppnnmippngdaaDoorWNEv
import Derived.Test.YtpppnnmippngdaaDoorWMore
namespace Go.Proofs.YtpppnnmippngdaaDoor.PFnCodes
open Go.RowKit Go.Proofs.YtpppnnmippngdaaDoorW.PrintWords Go.Proofs.YtpppnnmippngdaaDoorW.PrintLast Go.Proofs.YtpppnnmippngdaaDoorW.PrintMore
attribute [local go_sem] max2_int min2_int max_two min_two max_three min_three max_four min_four   -- for this text's walks alone
set_option linter.unusedVariables false
set_option linter.unusedSimpArgs false



def errW : Option Int → Value
  | none => .nilIface
  | some c => .iface 0 (.int .i64 c)
theorem errW_none : errW none = .nilIface := rfl
theorem errW_some (c : Int) : errW (some c) = .iface 0 (.int .i64 c) := rfl

theorem info2 : (Tryd.prog.info? 2).map (fun i => (i.zero, i.size, i.bytes)) = some (some (.int .i64 0), 1, 8) := by kernel_rfl
-- the values' own types

end Go.Proofs.YtpppnnmippngdaaDoor.PFnCodes
