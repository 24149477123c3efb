/- The law FnTurnBack returns true for every input, and leaves its arguments as they were. No condition beyond the row. -/
import Derived.Test.YtlbnmldopjadoaaGreatKFnTurnBack
import Derived.Test.YtlbnmldopjadoaaGreatQ1
namespace Go.Proofs.YtlbnmldopjadoaaGreat
open Go Go.Vm
theorem fnTurnBack_holds : Rows.FnTurnBackSaid := fnTurnBack.over (fun p0 p1 h0 h1 => oP p0 p1 (fun y hy => wG (h0.2 y hy)) (fun y hy => wG (h1.2 y hy)))
end Go.Proofs.YtlbnmldopjadoaaGreat
