/- What is paired, all left waiting. -/
import Derived.Test.YtdhlbpgjcfdofaaGreatN13
namespace Go.Proofs.YtdhlbpgjcfdofaaGreat
open Go Go.Vm
set_option linter.unusedVariables false
theorem pickd_l0 (k : Nat) (hk : 1000000000000 ≤ k) (l : List GOcc) (p : GOcc → Bool) (hl : l.length ≤ 1000000) : spec_l4Pick_d1.l0 k l (l.map p) k [] 0 = some (l.filter p) := by
  have := loop_fold0 l (fun s e => if p e = true then (req ((s.length + 1) * 40 ≤ 140737488355328) (some (s ++ [e]))) else some s) (spec_l4Pick_d1.l0 k l (l.map p)) (fun s e => if p e = true then s ++ [e] else s) (fun i s => s.length ≤ i)
    (fun n s => by rw [spec_l4Pick_d1.l0, if_neg (by omega)])
    (fun n s i h => by
      rw [spec_l4Pick_d1.l0, if_pos (by omega), req_pos (by omega), Int.toNat_natCast, List.getElem?_map, List.getElem?_eq_getElem h]
      simp only [Option.map_some, Option.bind_some]
      rw [wrS i (by omega)]
      split
      · rw [req_pos (by omega), req_pos (by omega)]; unfold req; split <;> rfl
      · rfl)
    (fun i s h hI => by
      by_cases c : p l[i] = true
      · rw [if_pos c, if_pos c, req_pos (by omega)]; exact ⟨rfl, by simp; omega⟩
      · rw [if_neg c, if_neg c]; exact ⟨rfl, by omega⟩)
    k [] (by omega) (by simp)
  rw [this.1, fold_filter]; rfl
theorem pickd_l2 (k : Nat) (hk : 1000000000000 ≤ k) (l : List GOcc) (p : GOcc → Bool) (hl : l.length ≤ 1000000) : spec_l4Pick_d1.l2 k l (l.map p) k [] 0 = some (l.filter fun e => !p e) := by
  have := loop_fold0 l (fun s e => if p e = true then some s else (req ((s.length + 1) * 40 ≤ 140737488355328) (some (s ++ [e])))) (spec_l4Pick_d1.l2 k l (l.map p)) (fun s e => if (!p e) = true then s ++ [e] else s) (fun i s => s.length ≤ i)
    (fun n s => by rw [spec_l4Pick_d1.l2, if_neg (by omega)])
    (fun n s i h => by
      rw [spec_l4Pick_d1.l2, if_pos (by omega), req_pos (by omega), Int.toNat_natCast, List.getElem?_map, List.getElem?_eq_getElem h]
      simp only [Option.map_some, Option.bind_some]
      rw [wrS i (by omega)]
      split
      · rfl
      · rw [req_pos (by omega), req_pos (by omega)]; unfold req; split <;> rfl)
    (fun i s h hI => by
      by_cases c : p l[i] = true
      · rw [if_pos c, if_neg (by simp [c])]; exact ⟨rfl, by omega⟩
      · rw [if_neg c, if_pos (by simp [c]), req_pos (by omega)]; exact ⟨rfl, by simp; omega⟩)
    k [] (by omega) (by simp)
  rw [this.1, fold_filter]; rfl
theorem pickd_l1 (k : Nat) (hk : 1000000000000 ≤ k) (l : List GOcc) (p : GOcc → Bool) (hl : l.length ≤ 1000000) (hf : Fews l) (x : GOcc) (t : List GOcc) : spec_l4Pick_d1.l1 k l (l.map p) (x :: t) k [] 0 = some (l.filter fun e => !(p e && decide (occCmp e x = 0))) := by
  have := loop_fold0 l (fun s e => if p e = true then (if occCmp e x = 0 then some s else (req ((s.length + 1) * 40 ≤ 140737488355328) (some (s ++ [e])))) else (req ((s.length + 1) * 40 ≤ 140737488355328) (some (s ++ [e])))) (spec_l4Pick_d1.l1 k l (l.map p) (x :: t)) (fun s e => if (!(p e && decide (occCmp e x = 0))) = true then s ++ [e] else s) (fun i s => s.length ≤ i)
    (fun n s => by rw [spec_l4Pick_d1.l1, if_neg (by omega)])
    (fun n s i h => by
      rw [spec_l4Pick_d1.l1, if_pos (by omega), req_pos (by omega), Int.toNat_natCast, List.getElem?_map, List.getElem?_eq_getElem h]
      simp only [Option.map_some, Option.bind_some]
      rw [wrS i (by omega)]
      split
      · rw [req_pos (by omega), req_pos (by omega), req_pos (by omega), req_pos (by omega)]
        simp only [List.getElem?_cons_zero, Option.bind_some, same_k _ x (hf _ (List.getElem_mem h)) k hk]
        by_cases c : occCmp l[i] x = 0
        · rw [if_pos (by simpa using c), if_pos c]; rfl
        · rw [if_neg (by simpa using c), if_neg c, req_pos (by omega), req_pos (by omega)]; unfold req; split <;> rfl
      · rw [req_pos (by omega), req_pos (by omega)]; unfold req; split <;> rfl)
    (fun i s h hI => by
      by_cases c : p l[i] = true
      · by_cases c2 : occCmp l[i] x = 0
        · rw [if_pos c, if_pos c2, if_neg (by simp [c, c2])]; exact ⟨rfl, by omega⟩
        · rw [if_pos c, if_neg c2, if_pos (by simp [c2]), req_pos (by omega)]; exact ⟨rfl, by simp; omega⟩
      · rw [if_neg c, if_pos (by simp [c]), req_pos (by omega)]; exact ⟨rfl, by simp; omega⟩)
    k [] (by omega) (by simp)
  rw [this.1, fold_filter]; rfl
theorem pickd_eq (k : Nat) (hk : 1000000000000 ≤ k) (mode : Int) (l : List GOcc) (p : GOcc → Bool) (hl : l.length ≤ 1000000) (hf : Fews l) :
    spec_l4Pick_d1.f k mode l (l.map p) = some (pickM mode l p, l) := by
  unfold spec_l4Pick_d1.f pickM
  rw [pickd_l0 k hk l p hl]
  simp only [Option.bind_some]
  have hlen : (l.filter p).length ≤ l.length := List.length_filter_le _ _
  generalize hs : l.filter p = s at hlen ⊢
  by_cases h0 : s.length = 0
  · rw [if_pos (by omega)]
    have e : s = [] := List.length_eq_zero_iff.1 h0
    subst e
    simp
  rw [if_neg (by omega)]
  by_cases m0 : mode = 0
  · subst m0
    simp
  rw [if_neg m0]
  by_cases m1 : mode = 1
  · obtain ⟨j, hj⟩ : ∃ j, s.length = j + 1 := ⟨s.length - 1, by omega⟩
    have e : IntKind.wrap .i64 (((s.length : Nat) : Int) - 1) = (j : Int) := by rw [hj]; exact wrP j (by omega)
    rw [if_pos m1, if_pos m1, e, req_pos (by omega), req_pos (by omega), req_pos (by omega), Int.toNat_natCast, show s.length - 1 = j by omega, List.take_of_length_le (by rw [List.length_drop]; omega)]
  rw [if_neg m1, if_neg m1]
  by_cases m2 : mode = 2
  · rw [if_pos m2, if_pos m2, req_pos (by omega), req_pos (by omega), req_pos (by omega)]
    cases s with
    | nil => simp at h0
    | cons x t =>
      rw [pickd_l1 k hk l p hl hf x t]
      rfl
  rw [if_neg m2, if_neg m2, pickd_l2 k hk l p hl]
  rfl
end Go.Proofs.YtdhlbpgjcfdofaaGreat
