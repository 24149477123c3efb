/- Points in time: a sequence, a conjunction, an absence, a repetition. -/
import Derived.Test.YtdhlbpgjcfdofaaGreatN4
namespace Go.Proofs.YtdhlbpgjcfdofaaGreat
open Go Go.Vm
set_option linter.unusedVariables false
/-- an ordered list of occurrences with right numbers, no longer than m -/
def Ok (m : Nat) (l : List GOcc) : Prop := Asc l ∧ Ids l ∧ l.length ≤ m
theorem Ok.nil (m : Nat) : Ok m [] := ⟨by simp [Asc], fun x hx => by simp at hx, by simp⟩
theorem Ok.mono {m n : Nat} {l : List GOcc} (h : Ok m l) (hm : m ≤ n) : Ok n l := ⟨h.1, h.2.1, Nat.le_trans h.2.2 hm⟩
theorem Ok.filter {m : Nat} {l : List GOcc} (p : GOcc → Bool) (h : Ok m l) : Ok m (l.filter p) := ⟨List.Pairwise.sublist List.filter_sublist h.1, fun x hx => h.2.1 x (List.mem_filter.1 hx).1, Nat.le_trans (List.length_filter_le _ _) h.2.2⟩
theorem Ok.rem {m : Nat} {l gone : List GOcc} (h : Ok m l) : Ok m (remM l gone) := h.filter _
theorem Ok.merge {m n : Nat} {l r : List GOcc} (h : Ok m l) (hr : Ok n r) : Ok (m + n) (mergeM l r) := ⟨asc_mergeM h.1, ids_merge h.2.1 hr.2.1, by have := length_mergeM r l; have := h.2.2; have := hr.2.2; omega⟩
theorem Ok.put {m : Nat} {l : List GOcc} {o : GOcc} (h : Ok m l) (ho : IdsOk o.Ids) : Ok (m + 1) (putM l o) := ⟨asc_putM h.1, ids_put h.2.1 ho, by have := length_putM o l; have := h.2.2; omega⟩
theorem Ok.found {m : Nat} {mode : Int} {o : GOcc} {l : List GOcc} (h : Ok m l) (ho : IdsOk o.Ids) : Ok m (foundM mode o l) := by
  have one : ∀ x : GOcc, IdsOk x.Ids → l.length ≠ 0 → Ok m [x] := fun x hx hl => ⟨by simp [Asc], fun y hy => by rw [List.mem_singleton.1 hy]; exact hx, by have := h.2.2; simp; omega⟩
  unfold foundM
  by_cases h0 : l.length = 0
  · rw [if_pos h0]; exact Ok.nil m
  rw [if_neg h0]
  split
  · exact one _ (ids_join ho (by rw [List.getElem?_eq_getElem (show l.length - 1 < l.length by omega)]; exact h.2.1 _ (List.getElem_mem _))) h0
  split
  · exact one _ (ids_join ho (by rw [List.getElem?_eq_getElem (show 0 < l.length by omega)]; exact h.2.1 _ (List.getElem_mem _))) h0
  split
  · exact one _ (ids_sum h.2.1 ho) h0
  · obtain ⟨a, b, c⟩ := each_facts o ho l [] h.2.1 (Ok.nil 0).2.1 (Ok.nil 0).1
    exact ⟨b, a, by simp at c; have := h.2.2; exact Nat.le_trans c this⟩
theorem Ok.gone {m : Nat} {mode : Int} {l : List GOcc} (h : Ok m l) : Ok m (if l.length = 0 then [] else goneM mode l) := by
  split
  · exact Ok.nil m
  unfold goneM
  split
  · exact Ok.nil m
  split
  · exact ⟨List.Pairwise.sublist (List.take_sublist _ _) h.1, fun x hx => h.2.1 x (List.mem_of_mem_take hx), by have := h.2.2; simp; omega⟩
  split
  · exact h
  split
  · exact h
  · exact Ok.nil m
/-- one on the right of a sequence or an absence: what is left waiting, and what was found -/
def oneM (mode : Int) (p : GOcc → GOcc → Bool) (s : List GOcc × List GOcc) (o : GOcc) : List GOcc × List GOcc :=
  (remM s.1 (if (s.1.filter (p o)).length = 0 then [] else goneM mode (s.1.filter (p o))), mergeM s.2 (foundM mode o (s.1.filter (p o))))
theorem oneM_ok {mode : Int} {p : GOcc → GOcc → Bool} {s : List GOcc × List GOcc} {o : GOcc} {m n : Nat} (h1 : Ok m s.1) (h2 : Ok n s.2) (ho : IdsOk o.Ids) : Ok m (oneM mode p s o).1 ∧ Ok (n + m) (oneM mode p s o).2 :=
  ⟨h1.rem, h2.merge ((h1.filter _).found ho)⟩
def before (o s : GOcc) : Bool := decide (s.To < o.From)
theorem seq_loop (k : Nat) (hk : 1000000000000 ≤ k) (mode : Int) (right : List GOcc) (left : List GOcc) (m c : Nat) (hm : m ≤ 20000) (hc : right.length ≤ c) (hc2 : c ≤ 100) (hl : Ok m left) (hr : Ids right) :
    impl_Pair_seq.l0 k mode right k left [] 0 = some (right.foldl (oneM mode before) (left, [])) ∧ Ok m (right.foldl (oneM mode before) (left, [])).1 ∧ Ok (c * m) (right.foldl (oneM mode before) (left, [])).2 := by
  have := loop_ret0 (fun s : List GOcc × List GOcc => s) right (fun s e => (impl_those.f (fun y0 => impl_Pair_seq_1.f y0 e) k s.1).bind fun x46 => ((impl_combine.f k mode e x46).bind fun x49 => ((impl_putAll.f k s.2 x49.1).bind fun x52 => ((impl_without.f k s.1 x49.2).bind fun x55 => some (x55, x52))))) (fun n s i => impl_Pair_seq.l0 k mode right n s.1 s.2 i) (oneM mode before) (fun i s => Ok m s.1 ∧ Ok (i * m) s.2)
    (fun n s => by rw [impl_Pair_seq.l0, if_neg (by omega)])
    (fun n s i h => by
      rw [impl_Pair_seq.l0, if_pos (by omega), req_pos (by omega), Int.toNat_natCast, List.getElem?_eq_getElem h]
      simp only [Option.bind_some, Option.bind_assoc]
      rw [wrS i (by omega)])
    (fun i s h hI => by
      obtain ⟨h1, h2⟩ := hI
      have ho := hr _ (List.getElem_mem h)
      have hb : i * m ≤ 100 * 20000 := Nat.mul_le_mul (by omega) hm
      have hf := h1.filter (before right[i])
      have hfo := hf.found (mode := mode) ho
      have hg := hf.gone (mode := mode)
      have e1 : impl_those.f (fun y0 => impl_Pair_seq_1.f y0 right[i]) k s.1 = some (s.1.filter (before right[i])) := those_eq k hk _ _ _ (by have := h1.2.2; omega) (fun x hx => rfl)
      have := h1.2.2; have := h2.2.2; have := hf.2.2; have := hfo.2.2; have := hg.2.2
      refine ⟨?_, ?_⟩
      · rw [e1]
        simp only [Option.bind_some]
        rw [combine_eq k hk mode _ _ (by omega) hf.2.1 ho]
        simp only [Option.bind_some]
        rw [impl_putAll_eq k hk _ _ (by omega) h2.2.1.few hfo.2.1.few h2.1]
        simp only [Option.bind_some]
        rw [without_eq k hk _ _ (by omega) (by omega) hg.2.1.few hg.1]
        rfl
      · have := oneM_ok (mode := mode) (p := before) h1 h2 ho
        refine ⟨this.1, ?_⟩
        rw [Nat.succ_mul]
        exact this.2)
    k (left, []) (by omega) ⟨hl, by simpa using Ok.nil 0⟩
  exact ⟨this.1, this.2.1, this.2.2.mono (Nat.mul_le_mul_right _ hc)⟩
end Go.Proofs.YtdhlbpgjcfdofaaGreat
