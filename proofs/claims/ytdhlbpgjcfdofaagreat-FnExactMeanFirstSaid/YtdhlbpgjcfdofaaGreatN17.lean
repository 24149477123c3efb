/- Points in time at which something is found: both programs. -/
import Derived.Test.YtdhlbpgjcfdofaaGreatN16
namespace Go.Proofs.YtdhlbpgjcfdofaaGreat
open Go Go.Vm
set_option linter.unusedVariables false
def hit (t : Int) (l : List GOcc) : Bool := l.any fun x => x.To == t
theorem l12_eq (k : Nat) (ls : List (List GOcc)) (t : Int) (j : Nat) (l : List GOcc) (hj : ls[j]? = some l) (hl : l.length ≤ 1000000) : ∀ (d i n : Nat) (b : Bool), i + d = l.length → d < n → spec_l4Times.l12 k ls t (j : Int) n b (i : Int) = some (b || hit t (l.drop i)) := by
  intro d
  induction d with
  | zero =>
    intro i n b hi hn
    obtain ⟨n, rfl⟩ : ∃ m, n = m + 1 := ⟨n - 1, by omega⟩
    rw [spec_l4Times.l12, req_pos (by omega), Int.toNat_natCast, hj]
    simp only [Option.bind_some]
    rw [if_neg (by omega), List.drop_eq_nil_of_le (by omega)]
    simp [hit]
  | succ d ih =>
    intro i n b hi hn
    obtain ⟨n, rfl⟩ : ∃ m, n = m + 1 := ⟨n - 1, by omega⟩
    have h : i < l.length := by omega
    rw [spec_l4Times.l12, req_pos (by omega), Int.toNat_natCast, hj]
    simp only [Option.bind_some]
    rw [if_pos (by omega), List.drop_eq_getElem_cons h]
    have e : hit t (l[i] :: l.drop (i + 1)) = ((l[i].To == t) || hit t (l.drop (i + 1))) := by unfold hit; rw [List.any_cons]
    rw [e]
    cases b
    · rw [if_neg (by simp), req_pos (by omega), req_pos (by omega), Int.toNat_natCast, List.getElem?_eq_getElem h]
      simp only [Option.bind_some]
      rw [wrS i (by omega), ih (i + 1) n _ (by omega) (by omega)]
      simp
    · rw [if_pos rfl, wrS i (by omega), ih (i + 1) n _ (by omega) (by omega)]
      simp
theorem l11_eq (k : Nat) (hk : 1000000000000 ≤ k) (ls : List (List GOcc)) (t : Int) (hn : ls.length ≤ 10) (hl : ∀ l ∈ ls, l.length ≤ 1000000) : ∀ (d i n : Nat) (b : Bool), i + d = ls.length → d < n → spec_l4Times.l11 k ls t n b (i : Int) = some (b || (ls.drop i).any (hit t)) := by
  intro d
  induction d with
  | zero =>
    intro i n b hi hn
    obtain ⟨n, rfl⟩ : ∃ m, n = m + 1 := ⟨n - 1, by omega⟩
    rw [spec_l4Times.l11, if_neg (by omega), List.drop_eq_nil_of_le (by omega)]
    simp
  | succ d ih =>
    intro i n b hi hn'
    obtain ⟨n, rfl⟩ : ∃ m, n = m + 1 := ⟨n - 1, by omega⟩
    have h : i < ls.length := by omega
    have hli := hl _ (List.getElem_mem h)
    have q := l12_eq k ls t i ls[i] (List.getElem?_eq_getElem h) hli ls[i].length 0 k b (by omega) (by omega)
    rw [show ((0 : Nat) : Int) = 0 from rfl, List.drop_zero] at q
    rw [spec_l4Times.l11, if_pos (by omega), q]
    simp only [Option.bind_some]
    rw [wrS i (by omega), ih (i + 1) n _ (by omega) (by omega), List.drop_eq_getElem_cons h, List.any_cons, Bool.or_assoc]
def timesM (ls : List (List GOcc)) : List Int := ((List.range' 1 2000).filter fun t : Nat => ls.any (hit (t : Int))).map fun t : Nat => (t : Int)
theorem l8_eq (k : Nat) (hk : 1000000000000 ≤ k) (ls : List (List GOcc)) (hn : ls.length ≤ 10) (hl : ∀ l ∈ ls, l.length ≤ 1000000) : ∀ (d t n : Nat) (acc : List Int), t + d = 2001 → d < n → acc.length ≤ t → spec_l4Times.l8 k ls n acc (t : Int) = some (acc ++ ((List.range' t d).filter fun t : Nat => ls.any (hit (t : Int))).map fun t : Nat => (t : Int)) := by
  intro d
  induction d with
  | zero =>
    intro t n acc ht hn' ha
    obtain ⟨n, rfl⟩ : ∃ m, n = m + 1 := ⟨n - 1, by omega⟩
    rw [spec_l4Times.l8, if_pos (by omega)]
    simp
  | succ d ih =>
    intro t n acc ht hn' ha
    obtain ⟨n, rfl⟩ : ∃ m, n = m + 1 := ⟨n - 1, by omega⟩
    have q := l11_eq k hk ls (t : Int) hn hl ls.length 0 k false (by omega) (by omega)
    rw [show ((0 : Nat) : Int) = 0 from rfl, List.drop_zero, Bool.false_or] at q
    rw [spec_l4Times.l8, if_neg (by omega), q, List.range'_succ]
    simp only [Option.bind_some]
    by_cases c : ls.any (hit (t : Int)) = true
    · rw [if_pos c, req_pos (by omega), wrS t (by omega), ih (t + 1) n _ (by omega) (by omega) (by simp; omega), List.filter_cons, if_pos c]
      simp
    · rw [if_neg c, wrS t (by omega), ih (t + 1) n _ (by omega) (by omega) (by omega), List.filter_cons, if_neg c]
theorem l4Times_eq (k : Nat) (hk : 1000000000000 ≤ k) (ls : List (List GOcc)) (hn : ls.length ≤ 10) (hl : ∀ l ∈ ls, l.length ≤ 1000000) : spec_l4Times.f k ls = some (timesM ls) := by
  unfold spec_l4Times.f
  have := l8_eq k hk ls hn hl 2000 1 k [] (by omega) (by omega) (by simp)
  rw [show ((1 : Nat) : Int) = 1 from rfl] at this
  rw [this]; rfl
end Go.Proofs.YtdhlbpgjcfdofaaGreat
