/- Open spans in the program. -/
import Derived.Test.YtdhlbpgjcfdofaaGreatN10
namespace Go.Proofs.YtdhlbpgjcfdofaaGreat
open Go Go.Vm
set_option linter.unusedVariables false
theorem index_loop (k : Nat) (g1 : GOcc → Option Bool) (p : GOcc → Bool) (l : List GOcc) (hl : l.length ≤ 1000000) (hp : ∀ x ∈ l, g1 x = some (p x)) : ∀ (d i n : Nat), i + d = l.length → d < n →
    ∃ r, slices_IndexFunc_2.l0 k g1 l n (i : Int) = some r ∧ (((l.drop i).any p = false ∧ r = .ok ()) ∨ ((l.drop i).any p = true ∧ ∃ j : Nat, r = .error (j : Int))) := by
  intro d
  induction d with
  | zero =>
    intro i n hi hn
    obtain ⟨n, rfl⟩ : ∃ m, n = m + 1 := ⟨n - 1, by omega⟩
    rw [slices_IndexFunc_2.l0, if_neg (by omega), List.drop_eq_nil_of_le (by omega)]
    exact ⟨_, rfl, .inl ⟨rfl, rfl⟩⟩
  | succ d ih =>
    intro i n hi hn
    obtain ⟨n, rfl⟩ : ∃ m, n = m + 1 := ⟨n - 1, by omega⟩
    have h : i < l.length := by omega
    rw [slices_IndexFunc_2.l0, if_pos (by omega), req_pos (by omega), Int.toNat_natCast, List.getElem?_eq_getElem h, List.drop_eq_getElem_cons h]
    simp only [Option.bind_some, hp _ (List.getElem_mem h), List.any_cons]
    by_cases c : p l[i] = true
    · rw [if_pos c]
      exact ⟨_, rfl, .inr ⟨by simp [c], i, rfl⟩⟩
    · rw [if_neg c, wrS i (by omega)]
      have c' : p l[i] = false := by simpa using c
      rw [c', Bool.false_or]
      exact ih (i + 1) n (by omega) (by omega)
theorem contains_eq (k : Nat) (hk : 1000000000000 ≤ k) (g1 : GOcc → Option Bool) (p : GOcc → Bool) (l : List GOcc) (hl : l.length ≤ 1000000) (hp : ∀ x ∈ l, g1 x = some (p x)) : slices_ContainsFunc_2.f g1 k l = some (l.any p) := by
  unfold slices_ContainsFunc_2.f slices_IndexFunc_2.f
  obtain ⟨r, h1, h2⟩ := index_loop k g1 p l hl hp l.length 0 k (by omega) (by omega)
  rw [show ((0 : Nat) : Int) = 0 from rfl] at h1
  rw [List.drop_zero] at h2
  rw [h1]
  rcases h2 with ⟨h2, rfl⟩ | ⟨h2, j, rfl⟩
  · rw [h2]; rfl
  · rw [h2]
    simp only [Option.bind_some]
    congr 1
theorem open_eq (k : Nat) (hk : 1000000000000 ≤ k) (s : GSpan) (o : GOcc) (hl : s.Left.length ≤ 1000000) (hm : s.Mid.length ≤ 1000000) : impl_Span_open.f k s o = some (s.Left.filter (openM s.Mid o)) := by
  unfold impl_Span_open.f
  rw [those_eq k hk _ (openM s.Mid o) s.Left hl (fun x hx => by
    unfold impl_Span_open_1.f openM
    by_cases c : x.To < o.From
    · rw [if_pos c, contains_eq k hk _ (fun y => decide (x.To < y.From) && decide (y.To < o.From)) s.Mid hm (fun y hy => by
        unfold impl_Span_open_1_1.f
        by_cases c2 : x.To < y.From
        · rw [if_pos c2]; simp [c2]
        · rw [if_neg c2]; simp [c2])]
      simp only [Option.bind_some, midM]
      simp [c]
    · rw [if_neg c]; simp [c])]
  rfl
end Go.Proofs.YtdhlbpgjcfdofaaGreat
