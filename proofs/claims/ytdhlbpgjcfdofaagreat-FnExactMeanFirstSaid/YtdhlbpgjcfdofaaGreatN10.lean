/- Spans: what lies between, and what is open. -/
import Derived.Test.YtdhlbpgjcfdofaaGreatN9
namespace Go.Proofs.YtdhlbpgjcfdofaaGreat
open Go Go.Vm
set_option linter.unusedVariables false
def midM (mid : List GOcc) (a b : Int) : Bool := mid.any fun x => decide (a < x.From) && decide (x.To < b)
def openM (mid : List GOcc) (o s : GOcc) : Bool := decide (s.To < o.From) && !midM mid s.To o.From
theorem between_loop (k : Nat) (mid : List GOcc) (a b : Int) (hl : mid.length ≤ 1000000) : ∀ (d i n : Nat), i + d = mid.length → d < n → spec_l5Between.l0 k mid a b n (i : Int) = some (if midM (mid.drop i) a b = true then .error true else .ok ()) := by
  intro d
  induction d with
  | zero =>
    intro i n hi hn
    obtain ⟨n, rfl⟩ : ∃ m, n = m + 1 := ⟨n - 1, by omega⟩
    rw [spec_l5Between.l0, if_neg (by omega), List.drop_eq_nil_of_le (by omega)]
    rfl
  | succ d ih =>
    intro i n hi hn
    obtain ⟨n, rfl⟩ : ∃ m, n = m + 1 := ⟨n - 1, by omega⟩
    have h : i < mid.length := by omega
    have nx := ih (i + 1) n (by omega) (by omega)
    rw [spec_l5Between.l0, if_pos (by omega), req_pos (by omega), Int.toNat_natCast, List.getElem?_eq_getElem h, List.drop_eq_getElem_cons h]
    simp only [Option.bind_some]
    have e : midM (mid[i] :: mid.drop (i + 1)) a b = ((decide (a < mid[i].From) && decide (mid[i].To < b)) || midM (mid.drop (i + 1)) a b) := by unfold midM; rw [List.any_cons]
    rw [e]
    by_cases c1 : a < mid[i].From
    · rw [if_pos c1, req_pos (by omega)]
      by_cases c2 : mid[i].To < b
      · rw [if_pos c2]; simp [c1, c2]
      · rw [if_neg c2, wrS i (by omega), nx]; simp [c2]
    · rw [if_neg c1, wrS i (by omega), nx]; simp [c1]
theorem between_eq (k : Nat) (hk : 1000000000000 ≤ k) (mid : List GOcc) (a b : Int) (hl : mid.length ≤ 1000000) : spec_l5Between.f k mid a b = some (midM mid a b) := by
  unfold spec_l5Between.f
  have := between_loop k mid a b hl mid.length 0 k (by omega) (by omega)
  rw [show ((0 : Nat) : Int) = 0 from rfl, List.drop_zero] at this
  rw [this]
  cases midM mid a b <;> rfl
theorem l5Open_eq (k : Nat) (hk : 1000000000000 ≤ k) (s : GSpan) (o : GOcc) (hl : s.Left.length ≤ 1000000) (hm : s.Mid.length ≤ 1000000) : spec_l5Open.f k s o = some (s.Left.map (openM s.Mid o)) := by
  unfold spec_l5Open.f
  rw [req_pos (by omega), req_pos (by omega), req_pos (by omega)]
  have := loop_set s.Left (openM s.Mid o) (spec_l5Open.l0 k s o) (fun n t => by rw [spec_l5Open.l0, if_neg (by omega)])
    (fun n t i h hs => by
      rw [spec_l5Open.l0, if_pos (by omega), req_pos (by omega), Int.toNat_natCast, List.getElem?_eq_getElem h]
      simp only [Option.bind_some]
      unfold openM
      by_cases c : s.Left[i].To < o.From
      · rw [if_pos c, req_pos (by omega), between_eq k hk _ _ _ hm]
        simp only [Option.bind_some]
        rw [req_pos (by omega), req_pos (by omega), List.getElem?_eq_getElem (show i < t.length by omega)]
        simp only [Option.bind_some]
        rw [wrS i (by omega)]
        simp [c]
      · rw [if_neg c, req_pos (by omega), req_pos (by omega), List.getElem?_eq_getElem (show i < t.length by omega)]
        simp only [Option.bind_some]
        rw [wrS i (by omega)]
        simp [c])
    s.Left.length 0 k (List.replicate s.Left.length false) (by omega) (by omega) (by simp) (by simp)
  rw [show ((0 : Nat) : Int) = 0 from rfl] at this
  rw [this]; rfl
end Go.Proofs.YtdhlbpgjcfdofaaGreat
