/- The law FnEngTwice returns true for every input, and leaves its arguments as they were. No condition beyond the row. -/
import Derived.Test.YtlbnmldopjadoaaGreatKFnEngTwice
import Derived.Test.YtlbnmldopjadoaaGreatQ2
namespace Go.Proofs.YtlbnmldopjadoaaGreat
open Go Go.Vm
theorem fnEngTwice_holds:Rows.FnEngTwiceSaid:=fnEngTwice.over (fun p0 h0=>wD p0 (fun y hy=>u8_ok (h0.2 y hy)))
end Go.Proofs.YtlbnmldopjadoaaGreat
