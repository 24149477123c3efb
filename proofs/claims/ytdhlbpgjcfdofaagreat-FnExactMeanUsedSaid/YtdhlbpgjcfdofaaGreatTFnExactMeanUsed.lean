/- The program's MeanUsed returns what the reference's returns, for all arguments, leaves its arguments as they were, and shares no memory. No condition beyond the row. -/
import Derived.Test.YtdhlbpgjcfdofaaGreatKFnExactMeanUsed
import Derived.Test.YtdhlbpgjcfdofaaGreatW0
namespace Go.Proofs.YtdhlbpgjcfdofaaGreat
open Go Go.Vm
theorem fnExactMeanUsed_holds : Rows.FnExactMeanUsedSaid := fnExactMeanUsed.over (fun p0 p1 p2 h0 _ h2 => FnExactMeanUsed_pure p0 p1 p2 (exSm_of p0 h0) h2.1)
end Go.Proofs.YtdhlbpgjcfdofaaGreat
