/- The tied card of FnExactOpName. -/
import Derived.Test.YtpppnnmippngdaaDoorLawFnExactOpName
import Derived.Test.YtpppnnmippngdaaDoorCards
import Derived.Test.YtpppnnmippngdaaDoorTie
import Derived.SevenTiedAt
namespace Go.Proofs.YtpppnnmippngdaaDoor
open Go
theorem fnExactOpNameCard_holds : Rows.FnExactOpNameCardSaid :=
  Claim7.holds_tied_plain_at .later [] [.listed, .data] true (true, "4604cf83436da7e0b43bec94825980bda549939f96d728a55c61d2278e88b51a") false
    fnExactOpName_holds (fun _ h => by cases h) (by kernel_rfl) (fun _ h => by cases h) fnExactOpName_row_tie rfl ⟨rfl, rfl⟩ (by kernel_rfl) rfl
    (fun f fn hf hfn => by
      obtain rfl : f = 5 := Option.some.inj ((show Tryd.prog.funcNamed Rows.fnExactOpNameRow.func = some 5 by kernel_rfl).symm.trans hf) |>.symm
      obtain rfl : fn = Tryd.f5 := (Option.some.inj (Tryd.func5.symm.trans hfn)).symm
      exact ⟨by kernel_rfl, fun j t ht => by
        have hm : t ∈ Tryd.f5.params.toList := by simpa using Array.mem_of_getElem? ht
        have hall : (Tryd.f5.params.toList.all fun u => !Tryd.prog.wantsStandIn u) = true := by kernel_rfl
        exact (show Tryd.prog.wantsStandIn t = false by simpa using List.all_eq_true.1 hall t hm)⟩)
    (by kernel_rfl)
#print axioms fnExactOpNameCard_holds
end Go.Proofs.YtpppnnmippngdaaDoor
