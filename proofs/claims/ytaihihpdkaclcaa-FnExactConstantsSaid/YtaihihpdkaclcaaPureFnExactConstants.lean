/- The constants of the program are those of the reference. No condition. -/
import Derived.Test.YtaihihpdkaclcaaPFnExactConstantsx1
import Derived.Test.YtaihihpdkaclcaaLem
namespace Go.Proofs.Ytaihihpdkaclcaa.Pure
open Go.RowKit Go.Proofs.Ytaihihpdkaclcaa.PFnExactConstants Go.Proofs.YtaihihpdkaclcaaW.PrintWords Go.Proofs.YtaihihpdkaclcaaW.PrintLast
open Go.Proofs.Ytaihihpdkaclcaa.Lem
theorem FnExactConstants : laws_FnExactConstants.Pure := rfl

end Go.Proofs.Ytaihihpdkaclcaa.Pure
