/- The law FnTurnOccs returns true for every input, and leaves its arguments as they were. No condition beyond the row. -/
import Derived.Test.YtgbgabkdbfeibaaKFnTurnOccs
import Derived.Test.YtgbgabkdbfeibaaM6
namespace Go.Proofs.Ytgbgabkdbfeibaa
open Go Go.Vm
theorem fnTurnOccs_holds : Rows.FnTurnOccsSaid := fnTurnOccs.over (fun p0 h0 => FnTurnOccs_pure p0 (fun y hy => u8_ok (h0.2 y hy)))
end Go.Proofs.Ytgbgabkdbfeibaa
