/- The law FnGraph returns true for every input, and leaves its arguments as they were. No condition beyond the row. -/
import Derived.Test.YtlbnmldopjadoaaGreatKFnGraph
import Derived.Test.YtlbnmldopjadoaaGreatQ2
namespace Go.Proofs.YtlbnmldopjadoaaGreat
open Go Go.Vm
theorem fnGraph_holds:Rows.FnGraphSaid:=fnGraph.over (fun p0 h0=>zi p0 (fun y hy=>u8_ok (h0.2 y hy)))
end Go.Proofs.YtlbnmldopjadoaaGreat
