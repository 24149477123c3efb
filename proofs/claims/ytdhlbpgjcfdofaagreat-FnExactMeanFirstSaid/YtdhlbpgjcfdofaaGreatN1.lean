/- An occurrence put into an ordered list: both programs. Merges, copies, alternatives. -/
import Derived.Test.YtdhlbpgjcfdofaaGreatN0
namespace Go.Proofs.YtdhlbpgjcfdofaaGreat
open Go Go.Vm
set_option linter.unusedVariables false
theorem mid_eq (a b : Nat) (h : a + b < 1000000000000000) : IntKind.wrap .i64 (binOf .shr .u64 (IntKind.wrap .u64 (IntKind.wrap .i64 ((a : Int) + (b : Int)))) 1) = (((a + b) / 2 : Nat) : Int) := by
  rw [show IntKind.wrap .i64 ((a : Int) + (b : Int)) = (a : Int) + (b : Int) from wr _ (by omega)]
  have e : IntKind.wrap .u64 ((a : Int) + (b : Int)) = (a : Int) + (b : Int) := by
    show ((a : Int) + (b : Int)) % 18446744073709551616 = _
    exact Int.emod_eq_of_lt (by omega) (by omega)
  rw [e]
  have e2 : binOf .shr .u64 ((a : Int) + (b : Int)) 1 = ((a : Int) + (b : Int)).fdiv 2 := rfl
  rw [e2, Int.fdiv_eq_ediv_of_nonneg _ (by omega), wr _ (by omega)]
  omega
theorem bs_loop (k : Nat) (hk : 1000000000000 ≤ k) (l : List GOcc) (o : GOcc) (hl : l.length ≤ 1000000000000) (hf : Fews l) (hs : Asc l) : ∀ (d a b n : Nat), b - a ≤ d → a ≤ rank l o → rank l o ≤ b → b ≤ l.length → d < n →
    slices_BinarySearchFunc.l0 k (fun y0 y1 => impl_compare.f k y0 y1) l o n (a : Int) (b : Int) = some ((rank l o : Nat) : Int) := by
  intro d
  induction d with
  | zero =>
    intro a b n h1 h2 h3 h4 hn
    obtain ⟨n, rfl⟩ : ∃ m, n = m + 1 := ⟨n - 1, by omega⟩
    rw [slices_BinarySearchFunc.l0, if_neg (by omega), show a = rank l o by omega]
  | succ d ih =>
    intro a b n h1 h2 h3 h4 hn
    obtain ⟨n, rfl⟩ : ∃ m, n = m + 1 := ⟨n - 1, by omega⟩
    by_cases h : a < b
    · have hm : (a + b) / 2 < l.length := by omega
      rw [slices_BinarySearchFunc.l0, if_pos (by omega), mid_eq a b (by omega), req_pos (by omega), req_pos (by omega), Int.toNat_natCast, List.getElem?_eq_getElem hm]
      simp only [Option.bind_some, cmp_k _ o (hf _ (List.getElem_mem hm)) k hk]
      by_cases hc : occCmp l[(a + b) / 2] o < 0
      · rw [if_pos hc, wrS _ (by omega)]
        refine ih _ b n (by omega) ?_ h3 h4 (by omega)
        rcases Nat.lt_or_ge ((a + b) / 2) (rank l o) with h5 | h5
        · omega
        · have := asc_ge hs h5 hm
          unfold occLess at this
          simp at this
          omega
      · rw [if_neg hc]
        refine ih a _ n (by omega) h2 ?_ (by omega) (by omega)
        rcases Nat.lt_or_ge ((a + b) / 2) (rank l o) with h5 | h5
        · obtain ⟨x, e1, e2⟩ := rank_less h5
          rw [List.getElem?_eq_getElem hm, Option.some.injEq] at e1
          subst e1
          unfold occLess at e2
          simp at e2
          omega
        · exact h5
    · rw [slices_BinarySearchFunc.l0, if_neg (by omega), show a = rank l o by omega]
theorem bs_eq (k : Nat) (hk : 1000000000000 ≤ k) (l : List GOcc) (o : GOcc) (hl : l.length ≤ 100000000000) (hf : Fews l) (hs : Asc l) :
    slices_BinarySearchFunc.f (fun y0 y1 => impl_compare.f k y0 y1) k l o = some (((rank l o : Nat) : Int), decide (∃ x, l[rank l o]? = some x ∧ occCmp x o = 0)) := by
  unfold slices_BinarySearchFunc.f
  have hr := rank_le l o
  have := bs_loop k hk l o (by omega) hf hs l.length 0 l.length k (by omega) (by omega) hr (Nat.le_refl _) (by omega)
  rw [show ((0 : Nat) : Int) = 0 from rfl] at this
  rw [this]
  simp only [Option.bind_some]
  by_cases h : rank l o < l.length
  · rw [if_pos (by omega), req_pos (by omega), Int.toNat_natCast, List.getElem?_eq_getElem h]
    simp only [Option.bind_some, cmp_k _ o (hf _ (List.getElem_mem h)) k hk, Option.some.injEq, Prod.mk.injEq, true_and]
    rw [Bool.eq_iff_iff]
    simp
  · rw [if_neg (by omega), List.getElem?_eq_none (by omega)]
    simp
theorem impl_put_eq (k : Nat) (hk : 1000000000000 ≤ k) (l : List GOcc) (o : GOcc) (hl : l.length ≤ 100000000000) (hf : Fews l) (hs : Asc l) : impl_put.f k l o = some (putM l o) := by
  unfold impl_put.f
  rw [bs_eq k hk l o hl hf hs]
  simp only [Option.bind_some]
  have hr := rank_le l o
  by_cases h : ∃ x, l[rank l o]? = some x ∧ occCmp x o = 0
  · rw [if_pos (by simpa using h), putM_rank, if_pos h]
  · rw [if_neg (by simpa using h), putM_rank, if_neg h]
    unfold slices_Clone.f slices_Insert.f
    rw [req_pos (by omega)]
    simp only [Option.bind_some]
    rw [req_pos (by omega), req_pos (by omega), req_pos (show [o].length = 1 from rfl), req_pos (by omega)]
    rfl
theorem spec_put_loop (k : Nat) (hk : 1000000000000 ≤ k) (l : List GOcc) (o : GOcc) (hl : l.length ≤ 100000000000) (hf : Fews l) : ∀ (d i n : Nat), i + d = rank l o → d < n →
    spec_l3Put.l0 k l o n (i : Int) = some ((rank l o : Nat) : Int) := by
  have hr := rank_le l o
  intro d
  induction d with
  | zero =>
    intro i n h1 hn
    obtain ⟨n, rfl⟩ : ∃ m, n = m + 1 := ⟨n - 1, by omega⟩
    have e : i = rank l o := by omega
    subst e
    by_cases h : rank l o < l.length
    · have h2 := rank_end h
      rw [spec_l3Put.l0, if_pos (by omega), req_pos (by omega), req_pos (by omega), Int.toNat_natCast, List.getElem?_eq_getElem h]
      simp only [Option.bind_some, less_k _ o (hf _ (List.getElem_mem h)) k hk, h2, Bool.false_eq_true, if_false]
    · rw [spec_l3Put.l0, if_neg (by omega)]
  | succ d ih =>
    intro i n h1 hn
    obtain ⟨n, rfl⟩ : ∃ m, n = m + 1 := ⟨n - 1, by omega⟩
    have h : i < l.length := by omega
    obtain ⟨x, e1, e2⟩ := rank_less (l := l) (o := o) (i := i) (by omega)
    rw [List.getElem?_eq_getElem h, Option.some.injEq] at e1
    subst e1
    rw [spec_l3Put.l0, if_pos (by omega), req_pos (by omega), req_pos (by omega), Int.toNat_natCast, List.getElem?_eq_getElem h]
    simp only [Option.bind_some, less_k _ o (hf _ (List.getElem_mem h)) k hk, e2, if_true]
    rw [wrS i (by omega)]
    exact ih (i + 1) n (by omega) (by omega)
theorem copy_k (o : GOcc) (h : Few o) : spec_l3Copy.f o = some o := by
  unfold spec_l3Copy.f; rw [req_pos (by omega)]; rfl
theorem clone_k (o : GOcc) (h : Few o) : impl_Occ_clone.f o = some o := by
  unfold impl_Occ_clone.f; exact req_pos (by omega)
theorem spec_put_eq (k : Nat) (hk : 1000000000000 ≤ k) (l : List GOcc) (o : GOcc) (hl : l.length ≤ 100000000000) (hf : Fews l) (ho : Few o) : spec_l3Put.f k l o = some (putM l o) := by
  unfold spec_l3Put.f
  have hr := rank_le l o
  have := spec_put_loop k hk l o hl hf (rank l o) 0 k (by omega) (by omega)
  rw [show ((0 : Nat) : Int) = 0 from rfl] at this
  rw [this]
  simp only [Option.bind_some]
  by_cases h : rank l o < l.length
  · rw [if_pos (by omega), req_pos (by omega), req_pos (by omega), Int.toNat_natCast, List.getElem?_eq_getElem h]
    simp only [Option.bind_some, same_k _ o (hf _ (List.getElem_mem h)) k hk]
    by_cases h2 : occCmp l[rank l o] o = 0
    · rw [if_pos (by simpa using h2), putM_rank, if_pos ⟨_, List.getElem?_eq_getElem h, h2⟩]
    · rw [if_neg (by simpa using h2), putM_rank, if_neg (fun ⟨x, e1, e2⟩ => h2 (by rw [List.getElem?_eq_getElem h, Option.some.injEq] at e1; rw [e1]; exact e2))]
      repeat rw [req_pos (by omega)]
      rw [copy_k o ho]
      simp only [Option.bind_some]
      repeat rw [req_pos (by omega)]
      try rw [Int.toNat_natCast]
      rw [show (([] : List GOcc) ++ (l.drop (rank l o)).take ((l.length : Int) - ((rank l o : Nat) : Int)).toNat) = l.drop (rank l o) from List.take_of_length_le (by rw [List.length_drop]; omega)]
  · rw [if_neg (by omega), putM_rank, if_neg (fun ⟨x, e1, e2⟩ => by rw [List.getElem?_eq_none (by omega)] at e1; cases e1)]
    repeat rw [req_pos (by omega)]
    rw [copy_k o ho]
    simp only [Option.bind_some]
    repeat rw [req_pos (by omega)]
    try rw [Int.toNat_natCast]
    rw [show (([] : List GOcc) ++ (l.drop (rank l o)).take ((l.length : Int) - ((rank l o : Nat) : Int)).toNat) = l.drop (rank l o) from List.take_of_length_le (by rw [List.length_drop]; omega)]
theorem fews_putM {l : List GOcc} {o : GOcc} (h : Fews l) (ho : Few o) : Fews (putM l o) := fun x hx => by
  rcases mem_putM.1 hx with h1 | rfl
  · exact h x h1
  · exact ho
theorem fews_mergeM {l m : List GOcc} (h : Fews l) (hm : Fews m) : Fews (mergeM l m) := fun x hx => by
  rcases mem_mergeM.1 hx with h1 | h1
  · exact h x h1
  · exact hm x h1
theorem impl_putAll_eq (k : Nat) (hk : 1000000000000 ≤ k) (l m : List GOcc) (hl : l.length + m.length ≤ 90000000000) (hf : Fews l) (hm : Fews m) (hs : Asc l) : impl_putAll.f k l m = some (mergeM l m) := by
  unfold impl_putAll.f
  have := loop_fold0 m (fun s e => impl_put.f k s e) (impl_putAll.l0 k m) putM (fun i s => s.length ≤ l.length + i ∧ Fews s ∧ Asc s)
    (fun n s => by rw [impl_putAll.l0, if_neg (by omega)])
    (fun n s i h => by rw [impl_putAll.l0, if_pos (by omega), req_pos (by omega), Int.toNat_natCast, List.getElem?_eq_getElem h]; simp only [Option.bind_some]; rw [wrS i (by omega)])
    (fun i s h hI => ⟨impl_put_eq k hk s _ (by omega) hI.2.1 hI.2.2, by have := length_putM m[i] s; omega, fews_putM hI.2.1 (hm _ (List.getElem_mem h)), asc_putM hI.2.2⟩)
    k l (by omega) ⟨by omega, hf, hs⟩
  rw [this.1]; rfl
theorem spec_merge_eq (k : Nat) (hk : 1000000000000 ≤ k) (l m : List GOcc) (hl : l.length + m.length ≤ 90000000000) (hf : Fews l) (hm : Fews m) : spec_l4Merge.f k l m = some (mergeM l m) := by
  unfold spec_l4Merge.f
  have := loop_fold0 m (fun s e => spec_l3Put.f k s e) (spec_l4Merge.l0 k m) putM (fun i s => s.length ≤ l.length + i ∧ Fews s)
    (fun n s => by rw [spec_l4Merge.l0, if_neg (by omega)])
    (fun n s i h => by rw [spec_l4Merge.l0, if_pos (by omega), req_pos (by omega), Int.toNat_natCast, List.getElem?_eq_getElem h]; simp only [Option.bind_some]; rw [wrS i (by omega)])
    (fun i s h hI => ⟨spec_put_eq k hk s _ (by omega) hI.2 (hm _ (List.getElem_mem h)), by have := length_putM m[i] s; omega, fews_putM hI.2 (hm _ (List.getElem_mem h))⟩)
    k l (by omega) ⟨by omega, hf⟩
  rw [this.1]; rfl
theorem fold_snoc {α : Type} (l acc : List α) : l.foldl (fun s e => s ++ [e]) acc = acc ++ l := by
  induction l generalizing acc with
  | nil => simp
  | cons x l ih => rw [List.foldl_cons, ih]; simp
theorem cloneOccs_k (k : Nat) (hk : 1000000000000 ≤ k) (l : List GOcc) (hl : l.length ≤ 90000000000) (hf : Fews l) : impl_cloneOccs.f k l = some l := by
  unfold impl_cloneOccs.f
  have := loop_fold0 l (fun s e => (impl_Occ_clone.f e).bind fun x28 => (req ((s.length + 1) * 40 ≤ 140737488355328) (some (s ++ [x28])))) (impl_cloneOccs.l0 k l) (fun s e => s ++ [e]) (fun i s => s.length = i)
    (fun n s => by rw [impl_cloneOccs.l0, if_neg (by omega)])
    (fun n s i h => by
      rw [impl_cloneOccs.l0, if_pos (by omega), req_pos (by omega), Int.toNat_natCast, List.getElem?_eq_getElem h]; simp only [Option.bind_some]; rw [wrS i (by omega), clone_k _ (hf _ (List.getElem_mem h))]; simp only [Option.bind_some]
      unfold req; split <;> rfl)
    (fun i s h hI => ⟨by rw [clone_k _ (hf _ (List.getElem_mem h))]; simp only [Option.bind_some]; rw [req_pos (by omega)], by simp [hI]⟩)
    k [] (by omega) rfl
  rw [this.1, fold_snoc]; rfl
theorem spec_l3List_k (k : Nat) (hk : 1000000000000 ≤ k) (l : List GOcc) (hl : l.length ≤ 90000000000) (hf : Fews l) : spec_l3List.f k l = some l := by
  unfold spec_l3List.f
  have := loop_fold0 l (fun s e => (spec_l3Copy.f e).bind fun x28 => (req ((s.length + 1) * 40 ≤ 140737488355328) (some (s ++ [x28])))) (spec_l3List.l0 k l) (fun s e => s ++ [e]) (fun i s => s.length = i)
    (fun n s => by rw [spec_l3List.l0, if_neg (by omega)])
    (fun n s i h => by
      rw [spec_l3List.l0, if_pos (by omega), req_pos (by omega), Int.toNat_natCast, List.getElem?_eq_getElem h]; simp only [Option.bind_some]; rw [wrS i (by omega), copy_k _ (hf _ (List.getElem_mem h))]; simp only [Option.bind_some]
      unfold req; split <;> rfl)
    (fun i s h hI => ⟨by rw [copy_k _ (hf _ (List.getElem_mem h))]; simp only [Option.bind_some]; rw [req_pos (by omega)], by simp [hI]⟩)
    k [] (by omega) rfl
  rw [this.1, fold_snoc]; rfl
def told (l : List GOcc) : List GOcc × Bool := if 40 < l.length then ([], false) else (l, true)
theorem few_k (k : Nat) (hk : 1000000000000 ≤ k) (l : List GOcc) (hl : l.length ≤ 90000000000) (hf : Fews l) : impl_few.f k l = some (told l) := by
  unfold impl_few.f told
  by_cases h : 40 < l.length
  · rw [if_pos (by omega), if_pos h]
  · rw [if_neg (by omega), if_neg h, cloneOccs_k k hk l hl hf]; rfl
theorem told_k (k : Nat) (hk : 1000000000000 ≤ k) (l : List GOcc) (hl : l.length ≤ 90000000000) (hf : Fews l) : spec_l4Told.f k l = some (told l) := by
  unfold spec_l4Told.f told
  by_cases h : 40 < l.length
  · rw [if_pos (by omega), if_pos h]
  · rw [if_neg (by omega), if_neg h, spec_l3List_k k hk l hl hf]; rfl
theorem asc_of_ok {l : List GOcc} (h : occsOk l = true) : Asc l := by
  have step : ∀ i (hi : i + 1 < l.length), occLess l[i] l[i + 1] = true := fun i hi => by
    have := (occsOk_at h hi).2
    simpa only [occPrev, List.getElem?_eq_getElem (show i < l.length by omega)] using this
  have far : ∀ d i (hi : i + d + 1 < l.length), occLess l[i] l[i + d + 1] = true := fun d => by
    induction d with
    | zero => intro i hi; exact step i hi
    | succ d ih => intro i hi; exact occLess_trans (ih i (by omega)) (step (i + d + 1) hi)
  refine List.pairwise_iff_getElem.2 fun i j hi hj hij => ?_
  have := far (j - i - 1) i (by omega)
  have e : i + (j - i - 1) + 1 = j := by omega
  simp only [e] at this
  exact this
theorem fews_of_ok {l : List GOcc} (h : occsOk l = true) : Fews l := fun o ho => by have := occsOk_all h o ho; omega
def orM (a b : List GOcc) : List GOcc × Bool := if occsOk a = true ∧ occsOk b = true then told (mergeM a b) else ([], false)
/-- what stands in both programs for a list that was handed on -/
def Small (l : List GOcc) : Prop := l.length ≤ 1000000 ∧ Fews l
theorem impl_ok_k (k : Nat) (hk : 1000000000000 ≤ k) (l : List GOcc) (h : Small l) : impl_OccsOk.f k l = some (occsOk l) := impl_OccsOk_eq l (by have := h.1; omega) 1000 h.2 (by omega) k (by have := h.1; omega)
theorem spec_ok_k (k : Nat) (hk : 1000000000000 ≤ k) (l : List GOcc) (h : Small l) : spec_OccsOk.f k l = some (occsOk l) := spec_OccsOk_eq l (by have := h.1; omega) 1000 h.2 (by omega) k (by have := h.1; omega)
theorem impl_OrOf_eq (k : Nat) (hk : 1000000000000 ≤ k) (a b : List GOcc) (ha : Small a) (hb : Small b) : impl_OrOf.f k a b = some (orM a b) := by
  unfold impl_OrOf.f orM
  rw [impl_ok_k k hk a ha]
  simp only [Option.bind_some]
  by_cases h1 : occsOk a = true
  · rw [if_pos h1, impl_ok_k k hk b hb]
    simp only [Option.bind_some]
    by_cases h2 : occsOk b = true
    · have l1 := occsOk_len h1
      have l2 := occsOk_len h2
      have l3 := length_mergeM b a
      rw [if_pos h2, if_pos ⟨h1, h2⟩, impl_putAll_eq k hk a b (by omega) ha.2 hb.2 (asc_of_ok h1)]
      simp only [Option.bind_some]
      rw [few_k k hk _ (by omega) (fews_mergeM ha.2 hb.2)]; rfl
    · rw [if_neg h2, if_neg (fun x => h2 x.2)]
  · rw [if_neg h1, if_neg (fun x => h1 x.1)]
theorem spec_OrOf_eq (k : Nat) (hk : 1000000000000 ≤ k) (a b : List GOcc) (ha : Small a) (hb : Small b) : spec_OrOf.f k a b = some (orM a b) := by
  unfold spec_OrOf.f orM
  rw [spec_ok_k k hk a ha]
  simp only [Option.bind_some]
  by_cases h1 : occsOk a = true
  · rw [if_pos h1, spec_ok_k k hk b hb]
    simp only [Option.bind_some]
    by_cases h2 : occsOk b = true
    · have l1 := occsOk_len h1
      have l2 := occsOk_len h2
      have l3 := length_mergeM b a
      rw [if_pos h2, if_pos ⟨h1, h2⟩, spec_l3List_k k hk a (by omega) ha.2]
      simp only [Option.bind_some]
      rw [spec_merge_eq k hk a b (by omega) ha.2 hb.2]
      simp only [Option.bind_some]
      rw [told_k k hk _ (by omega) (fews_mergeM ha.2 hb.2)]; rfl
    · rw [if_neg h2, if_neg (fun x => h2 x.2)]
  · rw [if_neg h1, if_neg (fun x => h1 x.1)]
end Go.Proofs.YtdhlbpgjcfdofaaGreat
