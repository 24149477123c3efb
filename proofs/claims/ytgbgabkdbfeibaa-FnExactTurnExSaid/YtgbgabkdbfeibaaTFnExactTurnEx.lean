/- The law FnExactTurnEx returns true for every input, and leaves its arguments as they were. No condition beyond the row. -/
import Derived.Test.YtgbgabkdbfeibaaKFnExactTurnEx
import Derived.Test.YtgbgabkdbfeibaaM11
namespace Go.Proofs.Ytgbgabkdbfeibaa
open Go Go.Vm
theorem fnExactTurnEx_holds : Rows.FnExactTurnExSaid := fnExactTurnEx.over (fun p0 p1 h0 h1 => FnExactTurnEx_pure p0 p1 (exSm_of p0 h0) h1.1)
end Go.Proofs.Ytgbgabkdbfeibaa
