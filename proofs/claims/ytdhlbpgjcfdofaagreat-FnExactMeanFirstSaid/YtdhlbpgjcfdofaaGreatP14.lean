/- The first time of what is meant: the law over data. -/
import Derived.Test.YtdhlbpgjcfdofaaGreatN23
import Derived.Test.YtdhlbpgjcfdofaaGreatE2
import Derived.Test.YtdhlbpgjcfdofaaGreatV0
namespace Go.Proofs.YtdhlbpgjcfdofaaGreat
open Go Go.Vm
set_option linter.unusedVariables false
def firstM (l : List GOcc) : Int := match l with | [] => -1 | o :: _ => o.To
theorem spec_MeanFirst_eq (x : GEx) (mode : Int) (l : List GEv) (hx : exN x ≤ 1048577) (hl : l.length < 4611686018427387904) : Evn (fun k => spec_MeanFirst.f k x mode l) (firstM (meanOf x mode l).1) := by
  obtain ⟨K, h⟩ := spec_MeanOf_eq x mode l hx hl
  refine ⟨K, fun k hk => ?_⟩
  have h' : spec_MeanOf.f k x mode l = some (meanOf x mode l) := h k hk
  show spec_MeanFirst.f k x mode l = _
  unfold spec_MeanFirst.f
  rw [h']
  simp only [Option.bind_some]
  cases hq : (meanOf x mode l).1 with
  | nil => rw [if_pos (by simp)]; rfl
  | cons o t => rw [if_neg (by simp; omega), req_pos (by omega), req_pos (by simp)]; rfl
theorem impl_MeanFirst_eq (x : GEx) (mode : Int) (l : List GEv) (hx : exN x ≤ 1048577) (hl : l.length < 4611686018427387904) : Evn (fun k => impl_MeanFirst.f k x mode l) (firstM (meanOf x mode l).1) := by
  obtain ⟨K, h⟩ := impl_MeanOf_eq x mode l hx hl
  refine ⟨K, fun k hk => ?_⟩
  have h' : impl_MeanOf.f k x mode l = some (meanOf x mode l) := h k hk
  show impl_MeanFirst.f k x mode l = _
  unfold impl_MeanFirst.f
  rw [h']
  simp only [Option.bind_some]
  cases hq : (meanOf x mode l).1 with
  | nil => rw [if_pos (by simp)]; rfl
  | cons o t => rw [if_neg (by simp; omega), req_pos (by omega), req_pos (by simp)]; rfl
theorem FnExactMeanFirst_pure (p0 : GEx) (p1 : Int) (p2 : List GEv) (h0 : exSm p0) (h2 : p2.length * 24 ≤ reachBytes) : ∃ k, laws_FnExactMeanFirst.f k p0 p1 p2 = some true := by
  have hl : p2.length < 4611686018427387904 := reach_lt h2 (by omega)
  by_cases hx : (exNs p0.Kids : Int) ≤ 1048576
  · have hn : exN p0 ≤ 1048577 := by rw [exN_eq]; omega
    obtain ⟨K1, e1⟩ := spec_MeanFirst_eq p0 p1 p2 hn hl
    obtain ⟨K2, e2⟩ := impl_MeanFirst_eq p0 p1 p2 hn hl
    obtain ⟨K3, e3⟩ := toEvS_eq p2 h2
    obtain ⟨K4, e4⟩ := eqEvS_refl p2 hl
    refine ⟨3 * exN p0 + K1 + K2 + K3 + K4 + 10, ?_⟩
    generalize hk : 3 * exN p0 + K1 + K2 + K3 + K4 + 10 = k
    have a1 : spec_MeanFirst.f k p0 p1 p2 = some (firstM (meanOf p0 p1 p2).1) := e1 k (by omega)
    have a2 : impl_MeanFirst.f k p0 p1 p2 = some (firstM (meanOf p0 p1 p2).1) := e2 k (by omega)
    have a3 : laws_toEvS.f k p2 = some p2 := e3 k (by omega)
    have a4 : laws_eqEvS.f k p2 p2 = some true := e4 k (by omega)
    unfold laws_FnExactMeanFirst.f
    rw [szEx_k p0 h0 k 1048576 (by omega) (by omega) (by omega), if_pos hx]
    simp only [Option.bind_some]
    rw [if_neg (by omega)]
    unfold laws_szEvS.f
    rw [wr _ (by omega)]
    by_cases hz : 1048576 - (exNs p0.Kids : Int) - (p2.length : Int) < 0
    · rw [if_pos hz]; rfl
    · rw [if_neg hz]
      simp only [Option.bind_some]
      rw [if_neg hz, toEx_k p0 hn k (by omega), a3]
      simp only [Option.bind_some]
      rw [a1, a2]
      simp only [Option.bind_some]
      rw [if_pos trivial, eqEx_k p0 hn k (by omega), a4]
      rfl
  · refine ⟨3 * exN p0, ?_⟩
    unfold laws_FnExactMeanFirst.f
    rw [szEx_k p0 h0 _ 1048576 (by omega) (by omega) (by omega), if_neg hx]
    rfl
end Go.Proofs.YtdhlbpgjcfdofaaGreat
