/- The program's MeanFirst returns what the reference's returns, for all arguments, and leaves its arguments as they were. No condition beyond the row. -/
import Derived.Test.YtdhlbpgjcfdofaaGreatKFnExactMeanFirst
import Derived.Test.YtdhlbpgjcfdofaaGreatP14
import Derived.Test.YtdhlbpgjcfdofaaGreatW0
namespace Go.Proofs.YtdhlbpgjcfdofaaGreat
open Go Go.Vm
theorem fnExactMeanFirst_holds : Rows.FnExactMeanFirstSaid := fnExactMeanFirst.over (fun p0 p1 p2 h0 _ h2 => FnExactMeanFirst_pure p0 p1 p2 (exSm_of p0 h0) h2.1)
end Go.Proofs.YtdhlbpgjcfdofaaGreat
