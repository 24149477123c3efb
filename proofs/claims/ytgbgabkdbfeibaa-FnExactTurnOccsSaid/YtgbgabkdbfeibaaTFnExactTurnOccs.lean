/- The law FnExactTurnOccs returns true for every input, and leaves its arguments as they were. No condition beyond the row. -/
import Derived.Test.YtgbgabkdbfeibaaKFnExactTurnOccs
import Derived.Test.YtgbgabkdbfeibaaM4
namespace Go.Proofs.Ytgbgabkdbfeibaa
open Go Go.Vm
theorem fnExactTurnOccs_holds : Rows.FnExactTurnOccsSaid := fnExactTurnOccs.over (fun p0 p1 h0 _ => FnExactTurnOccs_pure p0 p1 h0.1 (fun o ho => (h0.2 o ho).2.2.1))
end Go.Proofs.Ytgbgabkdbfeibaa
