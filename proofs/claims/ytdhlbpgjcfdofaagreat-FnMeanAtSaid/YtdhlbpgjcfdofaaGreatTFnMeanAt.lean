/- The law FnMeanAt returns true for every input, and leaves its arguments as they were. No condition beyond the row. -/
import Derived.Test.YtdhlbpgjcfdofaaGreatKFnMeanAt
import Derived.Test.YtdhlbpgjcfdofaaGreatQ1
namespace Go.Proofs.YtdhlbpgjcfdofaaGreat
open Go Go.Vm
theorem fnMeanAt_holds : Rows.FnMeanAtSaid := fnMeanAt.over (fun p0 h0 => FnMeanAt_pure p0 (fun y hy => u8_ok (h0.2 y hy)))
end Go.Proofs.YtdhlbpgjcfdofaaGreat
