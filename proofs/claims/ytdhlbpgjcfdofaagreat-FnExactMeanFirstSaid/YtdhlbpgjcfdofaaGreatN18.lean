/- Points in time, in the program. -/
import Derived.Test.YtdhlbpgjcfdofaaGreatN17
namespace Go.Proofs.YtdhlbpgjcfdofaaGreat
open Go Go.Vm
set_option linter.unusedVariables false
theorem fold_map {α β : Type} (f : α → β) (l : List α) (acc : List β) : l.foldl (fun s e => s ++ [f e]) acc = acc ++ l.map f := by
  induction l generalizing acc with
  | nil => simp
  | cons x l ih => rw [List.foldl_cons, ih]; simp
theorem fold_flat (ls : List (List GOcc)) (acc : List Int) : ls.foldl (fun s l => s ++ l.map (·.To)) acc = acc ++ (ls.map fun l => l.map (·.To)).flatten := by
  induction ls generalizing acc with
  | nil => simp
  | cons x l ih => rw [List.foldl_cons, ih]; simp
theorem t3_eq (k : Nat) (hk : 1000000000000 ≤ k) (l : List GOcc) (acc : List Int) (hl : l.length ≤ 1000) (ha : acc.length ≤ 100000) : impl_times.l3 k l k acc 0 = some (acc ++ l.map (·.To)) := by
  have := loop_fold0 l (fun s e => req ((s.length + 1) * 8 ≤ 140737488355328) (some (s ++ [e.To]))) (impl_times.l3 k l) (fun s e => s ++ [e.To]) (fun i s => s.length ≤ 100000 + i)
    (fun n s => by rw [impl_times.l3, if_neg (by omega)])
    (fun n s i h => by
      rw [impl_times.l3, if_pos (by omega), req_pos (by omega), Int.toNat_natCast, List.getElem?_eq_getElem h]
      simp only [Option.bind_some]
      rw [wrS i (by omega)]
      unfold req; split <;> rfl)
    (fun i s h hI => ⟨by rw [req_pos (by omega)], by simp; omega⟩) k acc (by omega) (by omega)
  rw [this.1, fold_map]
theorem t2_eq (k : Nat) (hk : 1000000000000 ≤ k) (ls : List (List GOcc)) (hn : ls.length ≤ 10) (hl : ∀ l ∈ ls, l.length ≤ 1000) : impl_times.l2 k ls k [] 0 = some (ls.map fun l => l.map (·.To)).flatten ∧ (ls.map fun l => l.map (·.To)).flatten.length ≤ 10000 := by
  have := loop_fold0 ls (fun s e => impl_times.l3 k e k s 0) (impl_times.l2 k ls) (fun s l => s ++ l.map (·.To)) (fun i s => s.length ≤ 1000 * i)
    (fun n s => by rw [impl_times.l2, if_neg (by omega)])
    (fun n s i h => by
      rw [impl_times.l2, if_pos (by omega), req_pos (by omega), Int.toNat_natCast, List.getElem?_eq_getElem h]
      simp only [Option.bind_some]
      rw [wrS i (by omega)])
    (fun i s h hI => by
      have := hl _ (List.getElem_mem h)
      exact ⟨t3_eq k hk _ _ this (by omega), by simp; omega⟩) k [] (by omega) (by simp)
  rw [fold_flat, List.nil_append] at this
  exact ⟨this.1, by have := this.2; omega⟩
theorem up_timesM (ls : List (List GOcc)) : Up (timesM ls) := by
  unfold timesM
  refine List.pairwise_map.2 (List.Pairwise.sublist List.filter_sublist ?_)
  exact List.Pairwise.imp (fun h => by omega) (List.pairwise_lt_range' (s := 1) (n := 2000))
theorem mem_timesM {ls : List (List GOcc)} {t : Int} : t ∈ timesM ls ↔ (1 ≤ t ∧ t ≤ 2000) ∧ ∃ l ∈ ls, ∃ o ∈ l, o.To = t := by
  unfold timesM
  simp only [List.mem_map, List.mem_filter, List.mem_range'_1, List.any_eq_true, hit, beq_iff_eq]
  constructor
  · rintro ⟨a, ⟨h1, l, h2, o, h3, h4⟩, rfl⟩
    exact ⟨by omega, l, h2, o, h3, h4⟩
  · rintro ⟨h1, l, h2, o, h3, h4⟩
    exact ⟨t.toNat, ⟨by omega, l, h2, o, h3, by omega⟩, by omega⟩
theorem times_eq (k : Nat) (hk : 1000000000000 ≤ k) (ls : List (List GOcc)) (hn : ls.length ≤ 10) (hl : ∀ l ∈ ls, l.length ≤ 1000) (ht : ∀ l ∈ ls, ∀ o ∈ l, 1 ≤ o.To ∧ o.To ≤ 2000) : impl_times.f k ls = some (timesM ls) := by
  obtain ⟨a, b⟩ := t2_eq k hk ls hn hl
  unfold impl_times.f slices_Sort.f slices_Compact.f
  rw [a]
  simp only [Option.bind_some]
  have e : (ls.map fun l => l.map (·.To)).flatten.mergeSort (fun x y => decide (x ≤ y)) = sortM (ls.map fun l => l.map (·.To)).flatten := rfl
  have l3 := length_sortM (ls.map fun l => l.map (·.To)).flatten
  rw [req_pos (by omega), e]
  simp only [Option.bind_some]
  rw [req_pos l3, req_pos (by omega)]
  simp only [Option.bind_some, Option.some.injEq]
  refine up_ext (up_uniq (sortM_le _)) (up_timesM ls) fun t => ?_
  rw [mem_uniq, mem_sortM, mem_timesM]
  simp only [List.mem_flatten, List.mem_map]
  constructor
  · rintro ⟨_, ⟨l, h1, rfl⟩, h2⟩
    obtain ⟨o, h3, rfl⟩ := List.mem_map.1 h2
    exact ⟨ht l h1 o h3, l, h1, o, h3, rfl⟩
  · rintro ⟨_, l, h1, o, h2, rfl⟩
    exact ⟨_, ⟨l, h1, rfl⟩, List.mem_map.2 ⟨o, h2, rfl⟩⟩
end Go.Proofs.YtdhlbpgjcfdofaaGreat
