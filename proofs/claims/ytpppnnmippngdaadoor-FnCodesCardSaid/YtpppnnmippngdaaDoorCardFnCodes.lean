/- The tied card of FnCodes. -/
import Derived.Test.YtpppnnmippngdaaDoorLawFnCodes
import Derived.Test.YtpppnnmippngdaaDoorCards
import Derived.Test.YtpppnnmippngdaaDoorTie
import Derived.SevenTiedAt
namespace Go.Proofs.YtpppnnmippngdaaDoor
open Go
theorem fnCodesCard_holds : Rows.FnCodesCardSaid :=
  Claim7.holds_tied_plain_at .later [] [.data, .data, .data, .listed, .data] true (true, "4604cf83436da7e0b43bec94825980bda549939f96d728a55c61d2278e88b51a") false
    fnCodes_holds (fun _ h => by cases h) (by kernel_rfl) (fun _ h => by cases h) fnCodes_row_tie rfl ⟨rfl, rfl⟩ (by kernel_rfl) rfl
    (fun f fn hf hfn => by
      obtain rfl : f = 4 := Option.some.inj ((show Tryd.prog.funcNamed Rows.fnCodesRow.func = some 4 by kernel_rfl).symm.trans hf) |>.symm
      obtain rfl : fn = Tryd.f4 := (Option.some.inj (Tryd.func4.symm.trans hfn)).symm
      exact ⟨by kernel_rfl, fun j t ht => by
        have hm : t ∈ Tryd.f4.params.toList := by simpa using Array.mem_of_getElem? ht
        have hall : (Tryd.f4.params.toList.all fun u => !Tryd.prog.wantsStandIn u) = true := by kernel_rfl
        exact (show Tryd.prog.wantsStandIn t = false by simpa using List.all_eq_true.1 hall t hm)⟩)
    (by kernel_rfl)
#print axioms fnCodesCard_holds
end Go.Proofs.YtpppnnmippngdaaDoor
