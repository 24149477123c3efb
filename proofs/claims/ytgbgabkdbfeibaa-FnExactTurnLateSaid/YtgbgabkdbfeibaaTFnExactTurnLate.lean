/- The program's TurnLate returns what the reference's returns, for all arguments: the law is true of every input, and its arguments stay as they were. -/
import Derived.Test.YtgbgabkdbfeibaaKFnExactTurnLate
import Derived.Test.YtgbgabkdbfeibaaM1
namespace Go.Proofs.Ytgbgabkdbfeibaa
open Go Go.Vm
theorem fnExactTurnLate_holds : Rows.FnExactTurnLateSaid := fnExactTurnLate.over (fun p0 p1 h0 _ => FnExactTurnLate_pure p0 p1 h0.1)
end Go.Proofs.Ytgbgabkdbfeibaa
