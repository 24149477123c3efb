/- The law FnMeanSum returns true for every input, and leaves its arguments as they were. No condition beyond the row. -/
import Derived.Test.YtdhlbpgjcfdofaaGreatKFnMeanSum
import Derived.Test.YtdhlbpgjcfdofaaGreatQ1
namespace Go.Proofs.YtdhlbpgjcfdofaaGreat
open Go Go.Vm
theorem fnMeanSum_holds : Rows.FnMeanSumSaid := fnMeanSum.over (fun p0 p1 h0 h1 => FnMeanSum_pure p0 p1 (fun y hy => u8_ok (h0.2 y hy)) (fun y hy => u8_ok (h1.2 y hy)))
end Go.Proofs.YtdhlbpgjcfdofaaGreat
