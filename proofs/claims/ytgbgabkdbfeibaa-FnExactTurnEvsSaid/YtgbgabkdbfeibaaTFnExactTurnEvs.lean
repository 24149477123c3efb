/- The program's TurnEvs returns what the reference's returns, for all arguments: the law is true of every input, and its arguments stay as they were. -/
import Derived.Test.YtgbgabkdbfeibaaKFnExactTurnEvs
import Derived.Test.YtgbgabkdbfeibaaM2
namespace Go.Proofs.Ytgbgabkdbfeibaa
open Go Go.Vm
theorem fnExactTurnEvs_holds : Rows.FnExactTurnEvsSaid := fnExactTurnEvs.over (fun p0 p1 h0 h1 => FnExactTurnEvs_pure p0 p1 h0.1 h1.1)
end Go.Proofs.Ytgbgabkdbfeibaa
