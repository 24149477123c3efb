/- The law FnEngOne returns true for every input, and leaves its arguments as they were. No condition beyond the row. -/
import Derived.Test.YtlbnmldopjadoaaGreatKFnEngOne
import Derived.Test.YtlbnmldopjadoaaGreatQ1
namespace Go.Proofs.YtlbnmldopjadoaaGreat
open Go Go.Vm
theorem fnEngOne_holds : Rows.FnEngOneSaid := fnEngOne.over (fun p0 p1 h0 h1 => vh p0 p1 (fun y hy => AN (h0.2 y hy)) (fun y hy => AN (h1.2 y hy)))
end Go.Proofs.YtlbnmldopjadoaaGreat
