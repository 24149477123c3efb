/- The law FnTapeOk returns true for every input, and leaves its arguments as they were. No condition beyond the row. -/
import Derived.Test.YtlbnmldopjadoaaGreatKFnTapeOk
import Derived.Test.YtlbnmldopjadoaaGreatQ0
namespace Go.Proofs.YtlbnmldopjadoaaGreat
open Go Go.Vm
theorem fnTapeOk_holds : Rows.FnTapeOkSaid := fnTapeOk.over (fun p0 h0 => nQ p0 (fun y hy => u8_ok (h0.2 y hy)))
end Go.Proofs.YtlbnmldopjadoaaGreat
