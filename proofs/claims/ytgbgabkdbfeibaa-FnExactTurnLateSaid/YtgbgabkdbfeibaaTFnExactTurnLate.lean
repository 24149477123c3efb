/- The law FnExactTurnLate returns true for every input, and leaves its arguments as they were. No condition beyond the row. -/
import Derived.Test.YtgbgabkdbfeibaaKFnExactTurnLate
import Derived.Test.YtgbgabkdbfeibaaM1
namespace Go.Proofs.Ytgbgabkdbfeibaa
open Go Go.Vm
theorem fnExactTurnLate_holds : Rows.FnExactTurnLateSaid := fnExactTurnLate.over (fun p0 p1 h0 _ => FnExactTurnLate_pure p0 p1 h0.1)
end Go.Proofs.Ytgbgabkdbfeibaa
