/- The law FnTurn returns true for every input, and leaves its arguments as they were. No condition beyond the row. -/
import Derived.Test.YtdhlbpgjcfdofaaGreatKFnTurn
import Derived.Test.YtdhlbpgjcfdofaaGreatQ1
namespace Go.Proofs.YtdhlbpgjcfdofaaGreat
open Go Go.Vm
theorem fnTurn_holds : Rows.FnTurnSaid := fnTurn.over (fun p0 p1 h0 h1 => FnTurn_pure p0 p1 (fun y hy => u8_ok (h0.2 y hy)) (fun y hy => u8_ok (h1.2 y hy)))
end Go.Proofs.YtdhlbpgjcfdofaaGreat
