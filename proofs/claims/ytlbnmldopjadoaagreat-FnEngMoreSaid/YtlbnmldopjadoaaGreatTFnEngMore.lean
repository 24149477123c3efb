/- The law FnEngMore returns true for every input, and leaves its arguments as they were. No condition beyond the row. -/
import Derived.Test.YtlbnmldopjadoaaGreatKFnEngMore
import Derived.Test.YtlbnmldopjadoaaGreatQ2
namespace Go.Proofs.YtlbnmldopjadoaaGreat
open Go Go.Vm
theorem fnEngMore_holds : Rows.FnEngMoreSaid := fnEngMore.over (fun p0 p1 h0 h1 => tM p0 p1 (fun y hy => Bi (h0.2 y hy)) (fun y hy => Bi (h1.2 y hy)))
end Go.Proofs.YtlbnmldopjadoaaGreat
