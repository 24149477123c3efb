/- The law of drawn occurrences that are shifted. -/
import Derived.Test.YtgbgabkdbfeibaaM5
namespace Go.Proofs.Ytgbgabkdbfeibaa
open Go Go.Vm
set_option linter.unusedVariables false
theorem OccsSame_loop (k : Nat) (l : List GOcc) (hl : l.length ≤ 1000) (hm : IdsLe l 1000) (hk : 1001 ≤ k) : ∀ (d n i : Nat), i + d = l.length → d < n →
    slices_EqualFunc.l0 k (fun y0 y1 => impl_OccsSame_1.f k y0 y1) l l n (i : Int) = some (.ok ()) := by
  intro d
  induction d with
  | zero =>
    intro n i hi hn
    obtain ⟨n, rfl⟩ : ∃ m, n = m + 1 := ⟨n - 1, by omega⟩
    rw [slices_EqualFunc.l0, if_neg (by omega)]
  | succ d ih =>
    intro n i hi hn
    obtain ⟨n, rfl⟩ : ∃ m, n = m + 1 := ⟨n - 1, by omega⟩
    have hlt : i < l.length := by omega
    have hb := hm l[i] (List.getElem_mem hlt)
    rw [slices_EqualFunc.l0, if_pos (by omega), req_pos (by omega), Int.toNat_natCast, List.getElem?_eq_getElem hlt]
    simp only [Option.bind_some]
    rw [req_pos (by omega)]
    simp only [impl_OccsSame_1.f, impl_compare_eq l[i] l[i] (by omega) k (by omega), occCmp_refl, Option.bind_some, BEq.rfl, if_true]
    rw [wrS i (by omega)]
    exact ih n (i + 1) (by omega) (by omega)
theorem OccsSame_refl (k : Nat) (l : List GOcc) (hl : l.length ≤ 1000) (hm : IdsLe l 1000) (hk : 1001 ≤ k) : impl_OccsSame.f k l l = some true := by
  unfold impl_OccsSame.f slices_EqualFunc.f
  have := OccsSame_loop k l hl hm hk l.length k 0 (by omega) (by omega)
  rw [show ((0 : Nat) : Int) = 0 from rfl] at this
  rw [if_pos rfl, this]; rfl
theorem shOcc_eq (n : Int) (o : GOcc) (hn : 0 ≤ n ∧ n ≤ 1000) (ho : 1 ≤ o.From ∧ o.From ≤ o.To ∧ o.To ≤ 2000) : shOcc n o = ⟨o.From + n, o.To + n, o.Ids⟩ := by
  unfold shOcc; rw [wr _ (by omega), wr _ (by omega)]
theorem occLess_sh (n : Int) (a b : GOcc) (hn : 0 ≤ n ∧ n ≤ 1000) (ha : 1 ≤ a.From ∧ a.From ≤ a.To ∧ a.To ≤ 2000) (hb : 1 ≤ b.From ∧ b.From ≤ b.To ∧ b.To ≤ 2000) : occLess (shOcc n a) (shOcc n b) = occLess a b := by
  rw [shOcc_eq n a hn ha, shOcc_eq n b hn hb]
  unfold occLess occCmp
  dsimp only
  have e1 : (a.To + n = b.To + n) = (a.To = b.To) := by apply propext; omega
  have e2 : (a.From + n = b.From + n) = (a.From = b.From) := by apply propext; omega
  have e3 : decide (a.From + n < b.From + n) = decide (a.From < b.From) := by by_cases h : a.From < b.From <;> simp [h]
  have e4 : decide (a.To + n < b.To + n) = decide (a.To < b.To) := by by_cases h : a.To < b.To <;> simp [h]
  simp only [e1, e2, e3, e4]
theorem turn_cases (l : List GOcc) (n : Int) : turnOccs l n = [] ∨ (occsOk l = true ∧ 0 ≤ n ∧ n ≤ 1000 ∧ turnOccs l n = l.map (shOcc n)) := by
  by_cases h : occsOk l = true ∧ 0 ≤ n ∧ n ≤ 1000
  · exact .inr ⟨h.1, h.2.1, h.2.2, by unfold turnOccs; rw [if_pos h]⟩
  · exact .inl (by unfold turnOccs; rw [if_neg h])
theorem turn_ids (l : List GOcc) (n : Int) (m : Nat) (h : IdsLe l m) : IdsLe (turnOccs l n) m := by
  rcases turn_cases l n with e | ⟨_, _, _, e⟩
  · rw [e]; intro x hx; simp at hx
  · rw [e]; intro x hx
    obtain ⟨y, hy, rfl⟩ := List.mem_map.1 hx
    exact h y hy
theorem law_l0 (k : Nat) (l : List GOcc) (by' : Int) (hl : l.length ≤ 1000) (hm : IdsLe l 1000) (hk : 1001 ≤ k) : ∀ (d n i : Nat), i + d = (turnOccs l by').length → d < n → 1 ≤ i →
    laws_FnTurnOccs.l0 k (turnOccs l by') n (i : Int) = some (.ok ()) := by
  intro d
  induction d with
  | zero =>
    intro n i hi hn h1
    obtain ⟨n, rfl⟩ : ∃ m, n = m + 1 := ⟨n - 1, by omega⟩
    rw [laws_FnTurnOccs.l0, if_neg (by omega)]
  | succ d ih =>
    intro n i hi hn h1
    obtain ⟨n, rfl⟩ : ∃ m, n = m + 1 := ⟨n - 1, by omega⟩
    obtain ⟨i, rfl⟩ : ∃ j, i = j + 1 := ⟨i - 1, by omega⟩
    rcases turn_cases l by' with e | ⟨ok, g0, g1, e⟩
    · rw [e] at hi; simp at hi
    have hlen : (turnOccs l by').length = l.length := by rw [e]; simp
    have hlt : i + 1 < l.length := by omega
    have hb := hm l[i] (List.getElem_mem (by omega))
    obtain ⟨o1, o2⟩ := occsOk_at ok hlt
    have a1 := occsOk_all ok l[i] (List.getElem_mem (by omega))
    have a2 := occsOk_all ok l[i + 1] (List.getElem_mem hlt)
    have less : occLess l[i] l[i + 1] = true := by
      simp only [occPrev, List.getElem?_eq_getElem (show i < l.length by omega)] at o2
      exact o2
    rw [laws_FnTurnOccs.l0, if_pos (by omega), wrP i (by omega), req_pos (by omega), Int.toNat_natCast]
    have q1 : (turnOccs l by')[i]? = some (shOcc by' l[i]) := by rw [e]; simp [List.getElem?_eq_getElem (show i < l.length by omega)]
    have q2 : (turnOccs l by')[i + 1]? = some (shOcc by' l[i + 1]) := by rw [e]; simp [hlt]
    rw [q1]
    simp only [Option.bind_some]
    rw [req_pos (by omega), show ((i + 1 : Nat) : Int).toNat = i + 1 from rfl, q2]
    simp only [Option.bind_some]
    rw [impl_OccLess_eq _ _ (show (shOcc by' l[i]).Ids.length < _ by unfold shOcc; dsimp only; omega) k (show (shOcc by' l[i]).Ids.length + 1 ≤ k by unfold shOcc; dsimp only; omega), occLess_sh by' _ _ ⟨g0, g1⟩ a1.2 a2.2, less]
    simp only [Option.bind_some, if_true]
    rw [wrS (i + 1) (by omega)]
    exact ih n (i + 2) (by omega) (by omega) (by omega)
theorem law_l1 (k : Nat) (l : List GOcc) (by' : Int) (hl : l.length ≤ 1000) : ∀ (d n i : Nat), i + d = (turnOccs l by').length → d < n →
    laws_FnTurnOccs.l1 k (l, by') (turnOccs l by') n (i : Int) = some (.ok ()) := by
  intro d
  induction d with
  | zero =>
    intro n i hi hn
    obtain ⟨n, rfl⟩ : ∃ m, n = m + 1 := ⟨n - 1, by omega⟩
    rw [laws_FnTurnOccs.l1, if_neg (by omega)]
  | succ d ih =>
    intro n i hi hn
    obtain ⟨n, rfl⟩ : ∃ m, n = m + 1 := ⟨n - 1, by omega⟩
    rcases turn_cases l by' with e | ⟨ok, g0, g1, e⟩
    · rw [e] at hi; simp at hi
    have hlen : (turnOccs l by').length = l.length := by rw [e]; simp
    have hlt : i < l.length := by omega
    have a1 := occsOk_all ok l[i] (List.getElem_mem hlt)
    have q1 : (turnOccs l by')[i]? = some ⟨l[i].From + by', l[i].To + by', l[i].Ids⟩ := by rw [e, ← shOcc_eq by' l[i] ⟨g0, g1⟩ a1.2]; simp [hlt]
    rw [laws_FnTurnOccs.l1, if_pos (by omega)]
    repeat rw [req_pos (show (0 : Int) ≤ (i : Int) by omega)]
    rw [Int.toNat_natCast, q1, List.getElem?_eq_getElem hlt]
    simp only [Option.bind_some]
    repeat rw [req_pos (show (0 : Int) ≤ (i : Int) by omega)]
    rw [wr (l[i].To + by' - (l[i].From + by')) (by omega), wr (l[i].To - l[i].From) (by omega)]
    rw [if_pos (by omega), if_pos trivial, wrS i (by omega)]
    exact ih n (i + 1) (by omega) (by omega)
theorem turn_zero (l : List GOcc) (h : occsOk l = true) : turnOccs l 0 = l := by
  unfold turnOccs
  rw [if_pos ⟨h, by decide, by decide⟩]
  conv => rhs; rw [← List.map_id l]
  apply List.map_congr_left
  intro o ho
  rw [shOcc_eq 0 o (by decide) (occsOk_all h o ho).2]; simp
theorem FnTurnOccs_pure (p0 : List Int) (hb : ∀ y ∈ p0, 0 ≤ y ∧ y ≤ 255) : ∃ k, laws_FnTurnOccs.f k p0 = some true := by
  refine ⟨5000, ?_⟩
  unfold laws_FnTurnOccs.f
  by_cases h : 1048576 < (p0.length : Int)
  · rw [if_pos h]
  rw [if_neg h]
  obtain ⟨os, by', a1, a2, a3⟩ := DrawTurnOccs_ok p0 (by omega) hb
  have hm : IdsLe os 1000 := fun o ho => by have := a3 o ho; omega
  have ht := turn_ids os by' 1000 hm
  have hlen : (turnOccs os by').length ≤ 7 := by
    rcases turn_cases os by' with e | ⟨_, _, _, e⟩
    · rw [e]; simp
    · rw [e]; simpa using a2
  rw [a1 5000 (by decide)]
  simp only [Option.bind_some]
  rw [impl_TurnOccs_eq os by' (by omega) 1000 hm (by decide) 5000 (by omega)]
  simp only [Option.bind_some]
  rw [spec_TurnOccs_eq os by' (by omega) 1000 hm (by decide) 5000 (by omega)]
  simp only [Option.bind_some]
  rw [OccsSame_refl 5000 _ (by omega) ht (by decide)]
  simp only [Option.bind_some, if_true]
  have l0 : laws_FnTurnOccs.l0 5000 (turnOccs os by') 5000 1 = some (.ok ()) := by
    by_cases hz : 1 ≤ (turnOccs os by').length
    · exact law_l0 5000 os by' (by omega) hm (by decide) ((turnOccs os by').length - 1) 5000 1 (by omega) (by omega) (by omega)
    · rw [show (5000 : Nat) = 4999 + 1 from rfl, laws_FnTurnOccs.l0, if_neg (by omega)]
  rw [l0]
  simp only [Option.bind_some]
  rw [show laws_FnTurnOccs.l1 5000 (os, by') (turnOccs os by') 5000 0 = some (.ok ()) from law_l1 5000 os by' (by omega) (turnOccs os by').length 5000 0 (by omega) (by omega)]
  simp only [Option.bind_some]
  rw [spec_OccsOk_eq os (by omega) 1000 hm (by decide) 5000 (by omega)]
  simp only [Option.bind_some]
  by_cases hok : occsOk os = true
  · rw [if_pos hok, impl_TurnOccs_eq os 0 (by omega) 1000 hm (by decide) 5000 (by omega), turn_zero os hok]
    simp only [Option.bind_some]
    rw [OccsSame_refl 5000 _ (by omega) hm (by decide)]; rfl
  · rw [if_neg hok]
end Go.Proofs.Ytgbgabkdbfeibaa
