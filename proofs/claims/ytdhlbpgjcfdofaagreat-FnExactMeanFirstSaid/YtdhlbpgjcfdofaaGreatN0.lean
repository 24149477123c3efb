/- The order of occurrences; ordered lists, and an occurrence put into one. -/
import Derived.Test.YtdhlbpgjcfdofaaGreatM3a
namespace Go.Proofs.YtdhlbpgjcfdofaaGreat
open Go Go.Vm
set_option linter.unusedVariables false
theorem lexCmp_zero : ∀ a b, lexCmp a b = 0 → a = b
  | [], [], _ => rfl
  | [], _ :: _, h => by simp [lexCmp] at h
  | _ :: _, [], h => by simp [lexCmp] at h
  | x :: xs, y :: ys, h => by
    unfold lexCmp at h
    split at h
    · cases h
    split at h
    · cases h
    rw [lexCmp_zero xs ys h, show x = y by omega]
theorem lexCmp_anti : ∀ a b, lexCmp a b = - lexCmp b a
  | [], [] => rfl
  | [], _ :: _ => rfl
  | _ :: _, [] => rfl
  | x :: xs, y :: ys => by
    unfold lexCmp
    by_cases h1 : x < y
    · rw [if_pos h1, if_neg (by omega), if_pos h1]
    by_cases h2 : y < x
    · rw [if_neg h1, if_pos h2, if_pos h2]; rfl
    rw [if_neg h1, if_neg h2, if_neg h2, if_neg h1]; exact lexCmp_anti xs ys
theorem lexCmp_trans : ∀ a b c, lexCmp a b < 0 → lexCmp b c < 0 → lexCmp a c < 0
  | [], [], _, h, _ => by simp [lexCmp] at h
  | _ :: _, [], _, h, _ => by simp [lexCmp] at h
  | _, _ :: _, [], _, h => by simp [lexCmp] at h
  | [], _ :: _, _ :: _, _, _ => by simp [lexCmp]
  | x :: xs, y :: ys, z :: zs, h, k => by
    unfold lexCmp at h k ⊢
    by_cases h1 : x < y
    · by_cases k1 : y < z
      · rw [if_pos (by omega)]; omega
      · rw [if_neg k1] at k
        split at k
        · omega
        · rw [if_pos (by omega)]; omega
    · rw [if_neg h1] at h
      split at h
      · omega
      · by_cases k1 : y < z
        · rw [if_pos (by omega)]; omega
        · rw [if_neg k1] at k
          split at k
          · omega
          · rw [if_neg (by omega), if_neg (by omega)]; exact lexCmp_trans xs ys zs h k
theorem sgn_val (b : Bool) : sgn b = if b then -1 else 1 := rfl
theorem occCmp_zero {a b : GOcc} (h : occCmp a b = 0) : a = b := by
  unfold occCmp at h
  split at h
  · split at h
    · obtain ⟨a1, a2, a3⟩ := a; obtain ⟨b1, b2, b3⟩ := b
      have := lexCmp_zero _ _ h
      simp_all
    · unfold sgn at h; split at h <;> cases h
  · unfold sgn at h; split at h <;> cases h
theorem occCmp_anti (a b : GOcc) : occCmp a b = - occCmp b a := by
  unfold occCmp sgn
  by_cases h1 : a.To = b.To
  · rw [if_pos h1, if_pos h1.symm]
    by_cases h2 : a.From = b.From
    · rw [if_pos h2, if_pos h2.symm]; exact lexCmp_anti _ _
    · rw [if_neg h2, if_neg (show ¬ b.From = a.From from fun e => h2 e.symm)]
      by_cases h3 : a.From < b.From
      · have : ¬ b.From < a.From := by omega
        simp [h3, this]
      · have : b.From < a.From := by omega
        simp [h3, this]
  · rw [if_neg h1, if_neg (show ¬ b.To = a.To from fun e => h1 e.symm)]
    by_cases h3 : a.To < b.To
    · have : ¬ b.To < a.To := by omega
      simp [h3, this]
    · have : b.To < a.To := by omega
      simp [h3, this]
theorem occCmp_lt (a b : GOcc) : occCmp a b < 0 ↔ a.To < b.To ∨ (a.To = b.To ∧ (a.From < b.From ∨ (a.From = b.From ∧ lexCmp a.Ids b.Ids < 0))) := by
  unfold occCmp sgn
  by_cases h1 : a.To = b.To
  · rw [if_pos h1]
    by_cases h2 : a.From = b.From
    · rw [if_pos h2]; simp [h1, h2]
    · rw [if_neg h2]
      by_cases h3 : a.From < b.From
      · simp [h1, h3]
      · simp [h1, h2, h3]
  · rw [if_neg h1]
    by_cases h3 : a.To < b.To
    · simp [h3]
    · simp [h1, h3]
theorem occLess_trans {a b c : GOcc} (h : occLess a b = true) (k : occLess b c = true) : occLess a c = true := by
  unfold occLess at *
  simp only [decide_eq_true_eq] at *
  rw [occCmp_lt] at *
  rcases h with h | ⟨h1, h⟩
  · rcases k with k | ⟨k1, k⟩
    · exact .inl (by omega)
    · exact .inl (by omega)
  · rcases k with k | ⟨k1, k⟩
    · exact .inl (by omega)
    · refine .inr ⟨by omega, ?_⟩
      rcases h with h | ⟨h2, h⟩
      · rcases k with k | ⟨k2, k⟩
        · exact .inl (by omega)
        · exact .inl (by omega)
      · rcases k with k | ⟨k2, k⟩
        · exact .inl (by omega)
        · exact .inr ⟨by omega, lexCmp_trans _ _ _ h k⟩
theorem occLess_irrefl (a : GOcc) : occLess a a = false := by unfold occLess; rw [occCmp_refl]; rfl
theorem occLess_asymm {a b : GOcc} (h : occLess a b = true) : occLess b a = false := by
  unfold occLess at *
  simp only [decide_eq_true_eq, decide_eq_false_iff_not] at *
  have := occCmp_anti a b
  omega
theorem occLess_total {a b : GOcc} (h : occLess a b = false) (hne : a ≠ b) : occLess b a = true := by
  unfold occLess at *
  simp only [decide_eq_true_eq, decide_eq_false_iff_not] at *
  have := occCmp_anti a b
  have : occCmp a b ≠ 0 := fun e => hne (occCmp_zero e)
  omega
/-- an ordered list -/
def Asc (l : List GOcc) : Prop := l.Pairwise fun a b => occLess a b = true
def putM : List GOcc → GOcc → List GOcc
  | [], o => [o]
  | x :: l, o => if occLess x o then x :: putM l o else if occCmp x o = 0 then x :: l else o :: x :: l
def mergeM (l m : List GOcc) : List GOcc := m.foldl putM l
theorem mem_putM {x o : GOcc} : ∀ {l : List GOcc}, x ∈ putM l o ↔ x ∈ l ∨ x = o
  | [] => by simp [putM]
  | y :: l => by
    unfold putM
    split
    · simp only [List.mem_cons, mem_putM (l := l), or_assoc]
    · split
      · rename_i h
        have := occCmp_zero h
        subst this
        simp only [List.mem_cons]
        constructor
        · exact fun h => .inl h
        · rintro (h | rfl)
          · exact h
          · exact .inl rfl
      · simp only [List.mem_cons]
        constructor
        · rintro (h | h)
          · exact .inr h
          · exact .inl h
        · rintro (h | h)
          · exact .inr h
          · exact .inl h
theorem asc_putM {o : GOcc} : ∀ {l : List GOcc}, Asc l → Asc (putM l o)
  | [], _ => by simp [putM, Asc]
  | y :: l, h => by
    have h' := List.pairwise_cons.1 h
    unfold putM
    split
    · rename_i h1
      refine List.pairwise_cons.2 ⟨fun z hz => ?_, asc_putM h'.2⟩
      rcases mem_putM.1 hz with h2 | rfl
      · exact h'.1 z h2
      · exact h1
    · split
      · exact h
      · rename_i h1 h2
        have h3 : occLess o y = true := occLess_total (by simpa using h1) (fun e => h2 (by rw [e]; exact occCmp_refl _))
        refine List.pairwise_cons.2 ⟨fun z hz => ?_, h⟩
        rcases List.mem_cons.1 hz with rfl | h4
        · exact h3
        · exact occLess_trans h3 (h'.1 z h4)
theorem length_putM (o : GOcc) : ∀ l : List GOcc, (putM l o).length ≤ l.length + 1
  | [] => by simp [putM]
  | y :: l => by
    have := length_putM o l
    unfold putM
    split
    · simp; omega
    · split <;> simp
theorem mergeM_cons (l : List GOcc) (x : GOcc) (m : List GOcc) : mergeM l (x :: m) = mergeM (putM l x) m := rfl
theorem asc_mergeM : ∀ {m l : List GOcc}, Asc l → Asc (mergeM l m)
  | [], _, h => h
  | x :: m, l, h => by rw [mergeM_cons]; exact asc_mergeM (asc_putM h)
theorem length_mergeM : ∀ (m l : List GOcc), (mergeM l m).length ≤ l.length + m.length
  | [], _ => by simp [mergeM]
  | x :: m, l => by rw [mergeM_cons]; have := length_mergeM m (putM l x); have := length_putM x l; simp; omega
theorem mem_mergeM {x : GOcc} : ∀ {m l : List GOcc}, x ∈ mergeM l m ↔ x ∈ l ∨ x ∈ m
  | [], l => by simp [mergeM]
  | y :: m, l => by rw [mergeM_cons, mem_mergeM, mem_putM, List.mem_cons, or_assoc]
/-- where one stands or would stand -/
def rank (l : List GOcc) (o : GOcc) : Nat := (l.takeWhile fun x => occLess x o).length
theorem rank_le (l : List GOcc) (o : GOcc) : rank l o ≤ l.length := by unfold rank; exact (List.takeWhile_prefix _).length_le
theorem putM_rank (o : GOcc) : ∀ l : List GOcc, putM l o = if ∃ x, l[rank l o]? = some x ∧ occCmp x o = 0 then l else l.take (rank l o) ++ [o] ++ l.drop (rank l o)
  | [] => by simp [putM, rank]
  | y :: l => by
    unfold putM
    by_cases h : occLess y o = true
    · have e : rank (y :: l) o = rank l o + 1 := by unfold rank; rw [List.takeWhile_cons, if_pos h]; rfl
      rw [if_pos h, e, putM_rank o l]
      simp only [List.getElem?_cons_succ, List.take_succ_cons, List.drop_succ_cons]
      split <;> rfl
    · have e : rank (y :: l) o = 0 := by unfold rank; rw [List.takeWhile_cons, if_neg h]; rfl
      rw [if_neg h, e]
      simp only [List.getElem?_cons_zero, List.take_zero, List.drop_zero, Option.some.injEq, exists_eq_left']
      rfl
theorem rank_less {o : GOcc} : ∀ {l : List GOcc} {i : Nat}, i < rank l o → ∃ x, l[i]? = some x ∧ occLess x o = true
  | [], i, h => by simp [rank] at h
  | y :: l, i, h => by
    by_cases hy : occLess y o = true
    · have e : rank (y :: l) o = rank l o + 1 := by unfold rank; rw [List.takeWhile_cons, if_pos hy]; rfl
      cases i with
      | zero => exact ⟨y, rfl, hy⟩
      | succ i => rw [e] at h; exact rank_less (l := l) (i := i) (by omega)
    · have e : rank (y :: l) o = 0 := by unfold rank; rw [List.takeWhile_cons, if_neg hy]; rfl
      rw [e] at h; omega
theorem rank_end {l : List GOcc} {o : GOcc} (h : rank l o < l.length) : occLess l[rank l o] o = false := by
  induction l with
  | nil => simp at h
  | cons y l ih =>
    by_cases hy : occLess y o = true
    · have e : rank (y :: l) o = rank l o + 1 := by unfold rank; rw [List.takeWhile_cons, if_pos hy]; rfl
      have := ih (by rw [e] at h; simpa using h)
      simp only [e, List.getElem_cons_succ]
      exact this
    · have e : rank (y :: l) o = 0 := by unfold rank; rw [List.takeWhile_cons, if_neg hy]; rfl
      simp only [e, List.getElem_cons_zero]
      simpa using hy
theorem asc_ge {l : List GOcc} {o : GOcc} (hs : Asc l) {i : Nat} (h1 : rank l o ≤ i) (h2 : i < l.length) : occLess l[i] o = false := by
  have h3 := rank_end (l := l) (o := o) (by omega)
  rcases Nat.lt_or_ge (rank l o) i with h4 | h4
  · have h5 : occLess l[rank l o] l[i] = true := List.pairwise_iff_getElem.1 hs _ _ _ _ h4
    cases h6 : occLess l[i] o
    · rfl
    · rw [occLess_trans h5 h6] at h3; cases h3
  · have : i = rank l o := by omega
    subst this; exact h3
/-- a loop over a list -/
theorem loop_fold {α σ : Type} (l : List α) (body : σ → α → Option σ) (L : Nat → σ → Int → Option σ) (g : σ → α → σ) (Inv : Nat → σ → Prop)
    (hend : ∀ n s, L (n + 1) s (l.length : Int) = some s)
    (hstep : ∀ n s (i : Nat) (h : i < l.length), L (n + 1) s (i : Int) = (body s l[i]).bind fun s' => L n s' ((i + 1 : Nat) : Int))
    (hbody : ∀ i s (h : i < l.length), Inv i s → body s l[i] = some (g s l[i]) ∧ Inv (i + 1) (g s l[i])) :
    ∀ (d i n : Nat) (s : σ), i + d = l.length → d < n → Inv i s → L n s (i : Int) = some ((l.drop i).foldl g s) ∧ Inv l.length ((l.drop i).foldl g s) := by
  intro d
  induction d with
  | zero =>
    intro i n s hi hn hI
    obtain ⟨n, rfl⟩ : ∃ m, n = m + 1 := ⟨n - 1, by omega⟩
    have e : i = l.length := by omega
    subst e
    rw [hend, List.drop_length]
    exact ⟨rfl, hI⟩
  | succ d ih =>
    intro i n s hi hn hI
    obtain ⟨n, rfl⟩ : ∃ m, n = m + 1 := ⟨n - 1, by omega⟩
    have hlt : i < l.length := by omega
    obtain ⟨h1, h2⟩ := hbody i s hlt hI
    rw [hstep n s i hlt, h1, List.drop_eq_getElem_cons hlt]
    exact ih (i + 1) n _ (by omega) (by omega) h2
theorem loop_fold0 {α σ : Type} (l : List α) (body : σ → α → Option σ) (L : Nat → σ → Int → Option σ) (g : σ → α → σ) (Inv : Nat → σ → Prop)
    (hend : ∀ n s, L (n + 1) s (l.length : Int) = some s)
    (hstep : ∀ n s (i : Nat) (h : i < l.length), L (n + 1) s (i : Int) = (body s l[i]).bind fun s' => L n s' ((i + 1 : Nat) : Int))
    (hbody : ∀ i s (h : i < l.length), Inv i s → body s l[i] = some (g s l[i]) ∧ Inv (i + 1) (g s l[i])) (n : Nat) (s : σ) (hn : l.length < n) (hI : Inv 0 s) :
    L n s 0 = some (l.foldl g s) ∧ Inv l.length (l.foldl g s) := by
  have := loop_fold l body L g Inv hend hstep hbody l.length 0 n s (by omega) hn hI
  simpa using this
/-- the numbers of one are few -/
abbrev Few (o : GOcc) : Prop := o.Ids.length ≤ 1000
abbrev Fews (l : List GOcc) : Prop := ∀ o ∈ l, Few o
theorem cmp_k (a b : GOcc) (ha : Few a) (k : Nat) (hk : 1000000000000 ≤ k) : impl_compare.f k a b = some (occCmp a b) := impl_compare_eq a b (by omega) k (by omega)
theorem less_k (a b : GOcc) (ha : Few a) (k : Nat) (hk : 1000000000000 ≤ k) : spec_OccLess.f k a b = some (occLess a b) := spec_OccLess_eq a b (by omega) k (by omega)
theorem same_k (a b : GOcc) (ha : Few a) (k : Nat) (hk : 1000000000000 ≤ k) : spec_l3Same.f k a b = some (decide (occCmp a b = 0)) := by
  unfold spec_l3Same.f occCmp sgn
  rw [l3Ids_eq _ _ (by omega) k (by omega)]
  by_cases h1 : a.From = b.From
  · rw [if_pos h1]
    by_cases h2 : a.To = b.To
    · rw [if_pos h2, if_pos h2, if_pos h1]
      by_cases h3 : (a.Ids.length : Int) = b.Ids.length
      · rw [if_pos h3]; simp only [Option.bind_some]
        rw [Option.some.injEq, Bool.eq_iff_iff]; simp
      · rw [if_neg h3]
        have : lexCmp a.Ids b.Ids ≠ 0 := fun e => h3 (by rw [lexCmp_zero _ _ e])
        simp [this]
    · rw [if_neg h2, if_neg h2]; split <;> simp
  · rw [if_neg h1]
    by_cases h2 : a.To = b.To
    · rw [if_pos h2, if_neg h1]; split <;> simp
    · rw [if_neg h2]; split <;> simp
end Go.Proofs.YtdhlbpgjcfdofaaGreat
