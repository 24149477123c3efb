/- The law FnTurnLate returns true for every input, and leaves its arguments as they were. No condition beyond the row. -/
import Derived.Test.YtggoffcbifibnaaKFnTurnLate
import Derived.Test.YtggoffcbifibnaaM12
namespace Go.Proofs.Ytggoffcbifibnaa
open Go Go.Vm
theorem fnTurnLate_holds : Rows.FnTurnLateSaid := fnTurnLate.over (fun p0 h0 => FnTurnLate_pure p0 (fun y hy => u8_ok (h0.2 y hy)))
end Go.Proofs.Ytggoffcbifibnaa
