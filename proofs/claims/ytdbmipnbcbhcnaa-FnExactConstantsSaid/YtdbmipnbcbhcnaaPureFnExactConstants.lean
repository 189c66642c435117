/- The law FnExactConstants over numbers and lists, as the program's text computes it: it answers true. Conditions: the arguments are of their kinds, lengths fit. -/
import Derived.Test.YtdbmipnbcbhcnaaPFnExactConstantsx1
import Derived.OpenShut
import Derived.Laws.Strings
namespace Go.Proofs.Ytdbmipnbcbhcnaa.Pure
open Go.RowKit Go.Proofs.Ytdbmipnbcbhcnaa.PFnExactConstants Go.Proofs.YtdbmipnbcbhcnaaW.PrintWords Go.Proofs.YtdbmipnbcbhcnaaW.PrintLast
set_option linter.unusedVariables false
set_option linter.unusedSimpArgs false



theorem FnExactConstants : laws_FnExactConstants.Pure := by
  rfl

end Go.Proofs.Ytdbmipnbcbhcnaa.Pure
