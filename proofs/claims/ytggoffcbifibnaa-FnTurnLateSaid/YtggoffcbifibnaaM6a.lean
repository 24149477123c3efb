/- Shifted occurrences. -/
import Derived.Test.YtggoffcbifibnaaM5
namespace Go.Proofs.Ytggoffcbifibnaa
open Go Go.Vm
set_option linter.unusedVariables false
theorem OccsSame_loop (k : Nat) (l : List GOcc) (hl : l.length ≤ 1000) (hm : IdsLe l 1000) (hk : 1001 ≤ k) : ∀ (d n i : Nat), i + d = l.length → d < n →
    slices_EqualFunc.l0 k (fun y0 y1 => impl_OccsSame_1.f k y0 y1) l l n (i : Int) = some (.ok ()) := by
  intro d
  induction d with
  | zero =>
    intro n i hi hn
    obtain ⟨n, rfl⟩ : ∃ m, n = m + 1 := ⟨n - 1, by omega⟩
    rw [slices_EqualFunc.l0, if_neg (by omega)]
  | succ d ih =>
    intro n i hi hn
    obtain ⟨n, rfl⟩ : ∃ m, n = m + 1 := ⟨n - 1, by omega⟩
    have hlt : i < l.length := by omega
    have hb := hm l[i] (List.getElem_mem hlt)
    rw [slices_EqualFunc.l0, if_pos (by omega), req_pos (by omega), Int.toNat_natCast, List.getElem?_eq_getElem hlt]
    simp only [Option.bind_some]
    rw [req_pos (by omega)]
    simp only [impl_OccsSame_1.f, impl_compare_eq l[i] l[i] (by omega) k (by omega), occCmp_refl, Option.bind_some, BEq.rfl, if_true]
    rw [wrS i (by omega)]
    exact ih n (i + 1) (by omega) (by omega)
theorem OccsSame_refl (k : Nat) (l : List GOcc) (hl : l.length ≤ 1000) (hm : IdsLe l 1000) (hk : 1001 ≤ k) : impl_OccsSame.f k l l = some true := by
  unfold impl_OccsSame.f slices_EqualFunc.f
  have := OccsSame_loop k l hl hm hk l.length k 0 (by omega) (by omega)
  rw [show ((0 : Nat) : Int) = 0 from rfl] at this
  rw [if_pos rfl, this]; rfl
theorem shOcc_eq (n : Int) (o : GOcc) (hn : 0 ≤ n ∧ n ≤ 1000) (ho : 1 ≤ o.From ∧ o.From ≤ o.To ∧ o.To ≤ 2000) : shOcc n o = ⟨o.From + n, o.To + n, o.Ids⟩ := by
  unfold shOcc; rw [wr _ (by omega), wr _ (by omega)]
theorem occLess_sh (n : Int) (a b : GOcc) (hn : 0 ≤ n ∧ n ≤ 1000) (ha : 1 ≤ a.From ∧ a.From ≤ a.To ∧ a.To ≤ 2000) (hb : 1 ≤ b.From ∧ b.From ≤ b.To ∧ b.To ≤ 2000) : occLess (shOcc n a) (shOcc n b) = occLess a b := by
  rw [shOcc_eq n a hn ha, shOcc_eq n b hn hb]
  unfold occLess occCmp
  dsimp only
  have e1 : (a.To + n = b.To + n) = (a.To = b.To) := by apply propext; omega
  have e2 : (a.From + n = b.From + n) = (a.From = b.From) := by apply propext; omega
  have e3 : decide (a.From + n < b.From + n) = decide (a.From < b.From) := by by_cases h : a.From < b.From <;> simp [h]
  have e4 : decide (a.To + n < b.To + n) = decide (a.To < b.To) := by by_cases h : a.To < b.To <;> simp [h]
  simp only [e1, e2, e3, e4]
theorem turn_cases (l : List GOcc) (n : Int) : turnOccs l n = [] ∨ (occsOk l = true ∧ 0 ≤ n ∧ n ≤ 1000 ∧ turnOccs l n = l.map (shOcc n)) := by
  by_cases h : occsOk l = true ∧ 0 ≤ n ∧ n ≤ 1000
  · exact .inr ⟨h.1, h.2.1, h.2.2, by unfold turnOccs; rw [if_pos h]⟩
  · exact .inl (by unfold turnOccs; rw [if_neg h])
theorem turn_ids (l : List GOcc) (n : Int) (m : Nat) (h : IdsLe l m) : IdsLe (turnOccs l n) m := by
  rcases turn_cases l n with e | ⟨_, _, _, e⟩
  · rw [e]; intro x hx; simp at hx
  · rw [e]; intro x hx
    obtain ⟨y, hy, rfl⟩ := List.mem_map.1 hx
    exact h y hy
theorem turn_zero (l : List GOcc) (h : occsOk l = true) : turnOccs l 0 = l := by
  unfold turnOccs
  rw [if_pos ⟨h, by decide, by decide⟩]
  conv => rhs; rw [← List.map_id l]
  apply List.map_congr_left
  intro o ho
  rw [shOcc_eq 0 o (by decide) (occsOk_all h o ho).2]; simp
end Go.Proofs.Ytggoffcbifibnaa
