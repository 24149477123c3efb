/- The law FnEngKeys returns true for every input, and leaves its arguments as they were. No condition beyond the row. -/
import Derived.Test.YtlbnmldopjadoaaGreatKFnEngKeys
import Derived.Test.YtlbnmldopjadoaaGreatQ2
namespace Go.Proofs.YtlbnmldopjadoaaGreat
open Go Go.Vm
theorem u8_ok {y:Int} (h:(Lit.int .u8 y).wf=true):0≤y∧y≤255:=by
 simp only [Lit.wf,Bool.and_eq_true,decide_eq_true_eq] at h
 exact h
theorem fnEngKeys_holds:Rows.FnEngKeysSaid:=fnEngKeys.over (fun p0 h0=>yC p0 (fun y hy=>u8_ok (h0.2 y hy)))
end Go.Proofs.YtlbnmldopjadoaaGreat
