/- What was read is a tree of lengths that memory holds. -/
import Derived.Test.YtdhlbpgjcfdofaaGreatQ1
import Derived.Test.YtdhlbpgjcfdofaaGreatKFnExactMeanUsed
namespace Go.Proofs.YtdhlbpgjcfdofaaGreat
open Go Go.Vm
mutual
theorem exSm_of : ∀ e : GEx, fnExactMeanUsed.w_GEx e → exSm e
  | ⟨_, _, _, ks⟩, h => by
    simp only [fnExactMeanUsed.w_GEx] at h
    simp only [exSm]
    exact ⟨reach_lt h.2.2.2.1 (by omega), exSms_of ks h.2.2.2.2⟩
theorem exSms_of : ∀ l : List GEx, fnExactMeanUsed.w_GExs l → exSms l
  | [], _ => by simp only [exSms]
  | x :: xs, h => by
    simp only [fnExactMeanUsed.w_GExs] at h
    simp only [exSms]
    exact ⟨exSm_of x h.1, exSms_of xs h.2⟩
end
end Go.Proofs.YtdhlbpgjcfdofaaGreat
