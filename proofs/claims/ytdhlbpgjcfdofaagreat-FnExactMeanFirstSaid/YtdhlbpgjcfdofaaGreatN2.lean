/- Two occurrences joined: both programs. -/
import Derived.Test.YtdhlbpgjcfdofaaGreatN1
namespace Go.Proofs.YtdhlbpgjcfdofaaGreat
open Go Go.Vm
set_option linter.unusedVariables false
/-- numbers that rise -/
abbrev Up (l : List Int) : Prop := l.Pairwise fun a b => a < b
theorem up_ext : ∀ {a b : List Int}, Up a → Up b → (∀ x, x ∈ a ↔ x ∈ b) → a = b
  | [], [], _, _, _ => rfl
  | [], y :: b, _, _, h => by have := (h y).2 (by simp); simp at this
  | x :: a, [], _, _, h => by have := (h x).1 (by simp); simp at this
  | x :: a, y :: b, ha, hb, h => by
    obtain ⟨a1, a2⟩ := List.pairwise_cons.1 ha
    obtain ⟨b1, b2⟩ := List.pairwise_cons.1 hb
    have e : x = y := by
      have h1 := (h x).1 (by simp)
      have h2 := (h y).2 (by simp)
      rcases List.mem_cons.1 h1 with h1 | h1
      · exact h1
      · rcases List.mem_cons.1 h2 with h2 | h2
        · exact h2.symm
        · have := b1 x h1; have := a1 y h2; omega
    subst e
    rw [up_ext a2 b2 fun z => ?_]
    have hz := h z
    simp only [List.mem_cons] at hz
    constructor
    · intro h1
      rcases hz.1 (.inr h1) with h2 | h2
      · have := a1 z h1; omega
      · exact h2
    · intro h1
      rcases hz.2 (.inr h1) with h2 | h2
      · have := b1 z h1; omega
      · exact h2
def unionM : List Int → List Int → List Int
  | [], b => b
  | x :: a, [] => x :: a
  | x :: a, y :: b => if x < y then x :: unionM a (y :: b) else if x = y then y :: unionM a b else y :: unionM (x :: a) b
termination_by a b => a.length + b.length
theorem mem_unionM {z : Int} : ∀ {a b : List Int}, z ∈ unionM a b ↔ z ∈ a ∨ z ∈ b
  | [], b => by simp [unionM]
  | x :: a, [] => by simp [unionM]
  | x :: a, y :: b => by
    unfold unionM
    split
    · simp only [List.mem_cons, mem_unionM (a := a) (b := y :: b), or_assoc]
    · split
      · rename_i h
        subst h
        simp only [List.mem_cons, mem_unionM (a := a) (b := b)]
        constructor
        · rintro (h | h | h)
          · exact .inl (.inl h)
          · exact .inl (.inr h)
          · exact .inr (.inr h)
        · rintro ((h | h) | (h | h))
          · exact .inl h
          · exact .inr (.inl h)
          · exact .inl h
          · exact .inr (.inr h)
      · simp only [List.mem_cons, mem_unionM (a := x :: a) (b := b)]
        constructor
        · rintro (h | h | h)
          · exact .inr (.inl h)
          · exact .inl h
          · exact .inr (.inr h)
        · rintro (h | h | h)
          · exact .inr (.inl h)
          · exact .inl h
          · exact .inr (.inr h)
termination_by a b => a.length + b.length
theorem up_unionM : ∀ {a b : List Int}, Up a → Up b → Up (unionM a b)
  | [], b, _, h => by simpa [unionM] using h
  | x :: a, [], h, _ => by simpa [unionM] using h
  | x :: a, y :: b, ha, hb => by
    obtain ⟨a1, a2⟩ := List.pairwise_cons.1 ha
    obtain ⟨b1, b2⟩ := List.pairwise_cons.1 hb
    unfold unionM
    split
    · refine List.pairwise_cons.2 ⟨fun z hz => ?_, up_unionM a2 hb⟩
      rcases mem_unionM.1 hz with h | h
      · exact a1 z h
      · rcases List.mem_cons.1 h with rfl | h
        · assumption
        · have := b1 z h; omega
    · split
      · rename_i h1 h2
        refine List.pairwise_cons.2 ⟨fun z hz => ?_, up_unionM a2 b2⟩
        rcases mem_unionM.1 hz with h | h
        · have := a1 z h; omega
        · exact b1 z h
      · refine List.pairwise_cons.2 ⟨fun z hz => ?_, up_unionM ha b2⟩
        rcases mem_unionM.1 hz with h | h
        · rcases List.mem_cons.1 h with rfl | h
          · omega
          · have := a1 z h; omega
        · exact b1 z h
termination_by a b => a.length + b.length
theorem union_comm {a b : List Int} (ha : Up a) (hb : Up b) : unionM a b = unionM b a := up_ext (up_unionM ha hb) (up_unionM hb ha) fun x => by rw [mem_unionM, mem_unionM, or_comm]
theorem mem_uniq {z : Int} : ∀ {l : List Int}, z ∈ uniq l ↔ z ∈ l
  | [] => by simp [uniq]
  | [x] => by simp [uniq]
  | x :: y :: l => by
    have ih := mem_uniq (z := z) (l := y :: l)
    unfold uniq
    split
    · rename_i h
      subst h
      rw [ih]; simp
    · rw [List.mem_cons, ih, List.mem_cons (a := z) (b := x)]
theorem up_uniq : ∀ {l : List Int}, l.Pairwise (fun a b => a ≤ b) → Up (uniq l)
  | [], _ => by simp [uniq]
  | [x], _ => by simp [uniq]
  | x :: y :: l, h => by
    obtain ⟨h1, h2⟩ := List.pairwise_cons.1 h
    unfold uniq
    split
    · exact up_uniq h2
    · rename_i hne
      refine List.pairwise_cons.2 ⟨fun z hz => ?_, up_uniq h2⟩
      have hz' := mem_uniq.1 hz
      have a1 := h1 y (by simp)
      rcases List.mem_cons.1 hz' with rfl | h3
      · omega
      · have := (List.pairwise_cons.1 h2).1 z h3; omega
def sortM (l : List Int) : List Int := l.mergeSort fun x y => decide (x ≤ y)
theorem sortM_le (l : List Int) : (sortM l).Pairwise fun a b => a ≤ b := by
  have := List.pairwise_mergeSort (le := fun x y : Int => decide (x ≤ y)) (fun a b c h1 h2 => by simp at *; omega) (fun a b => by simp; omega) l
  exact this.imp fun h => by simpa using h
theorem mem_sortM {z : Int} {l : List Int} : z ∈ sortM l ↔ z ∈ l := (List.mergeSort_perm l _).mem_iff
theorem length_sortM (l : List Int) : (sortM l).length = l.length := List.length_mergeSort l
theorem union_sort {a b : List Int} (ha : Up a) (hb : Up b) : uniq (sortM (a ++ b)) = unionM a b := up_ext (up_uniq (sortM_le _)) (up_unionM ha hb) fun x => by rw [mem_uniq, mem_sortM, mem_unionM, List.mem_append]
/-- the numbers of an occurrence: rising, below 24 -/
def IdsOk (l : List Int) : Prop := Up l ∧ ∀ x ∈ l, 0 ≤ x ∧ x ≤ 23
theorem idsUp_iff : ∀ {l : List Int} {p : Int}, idsUp p l = true → Up l ∧ ∀ x ∈ l, p < x ∧ x ≤ 23
  | [], _, _ => by simp
  | x :: l, p, h => by
    unfold idsUp at h
    simp only [Bool.and_eq_true, decide_eq_true_eq] at h
    obtain ⟨a, b⟩ := idsUp_iff (l := l) (p := x) h.2
    refine ⟨List.pairwise_cons.2 ⟨fun y hy => (b y hy).1, a⟩, fun y hy => ?_⟩
    rcases List.mem_cons.1 hy with rfl | hy
    · omega
    · have := b y hy; omega
theorem idsOk_of {l : List Int} (h : idsUp (-1) l = true) : IdsOk l := by
  obtain ⟨a, b⟩ := idsUp_iff h
  exact ⟨a, fun x hx => by have := b x hx; omega⟩
theorem up_len : ∀ {l : List Int} {p : Int}, Up l → (∀ x ∈ l, p ≤ x ∧ x ≤ 23) → p ≤ 24 → (l.length : Int) ≤ 24 - p
  | [], p, _, _, h => by simp; omega
  | x :: l, p, h, k, _ => by
    obtain ⟨h1, h2⟩ := List.pairwise_cons.1 h
    have hx := k x (by simp)
    have := up_len (l := l) (p := x + 1) h2 (fun y hy => by have := h1 y hy; have := k y (by simp [hy]); omega) (by omega)
    simp; omega
theorem idsOk_len {l : List Int} (h : IdsOk l) : l.length ≤ 24 := by have := up_len (p := 0) h.1 h.2 (by omega); omega
theorem idsOk_union {a b : List Int} (ha : IdsOk a) (hb : IdsOk b) : IdsOk (unionM a b) := ⟨up_unionM ha.1 hb.1, fun x hx => by
  rcases mem_unionM.1 hx with h | h
  · exact ha.2 x h
  · exact hb.2 x h⟩
def joinM (a b : GOcc) : GOcc := ⟨min a.From b.From, max a.To b.To, unionM a.Ids b.Ids⟩
theorem joinM_comm {a b : GOcc} (ha : IdsOk a.Ids) (hb : IdsOk b.Ids) : joinM a b = joinM b a := by unfold joinM; rw [union_comm ha.1 hb.1, Int.min_comm, Int.max_comm]
theorem union_loop (k : Nat) (a b : List Int) (ha : a.length ≤ 1000) (hb : b.length ≤ 1000) : ∀ (d i j n : Nat) (acc : List Int), i + j + d = a.length + b.length → i ≤ a.length → j ≤ b.length → d < n → acc.length ≤ i + j →
    spec_l3Union.l0 k a b n acc (i : Int) (j : Int) = some (acc ++ unionM (a.drop i) (b.drop j)) := by
  intro d
  induction d using Nat.strongRecOn with
  | _ d ih =>
  intro i j n acc h1 h2 h3 hn hacc
  obtain ⟨n, rfl⟩ : ∃ m, n = m + 1 := ⟨n - 1, by omega⟩
  by_cases hi : i < a.length
  · by_cases hj : j < b.length
    · rw [spec_l3Union.l0, if_pos (by omega), if_pos (by omega), req_pos (by omega), Int.toNat_natCast, List.getElem?_eq_getElem hi]
      simp only [Option.bind_some]
      rw [req_pos (by omega), Int.toNat_natCast, List.getElem?_eq_getElem hj]
      simp only [Option.bind_some]
      rw [List.drop_eq_getElem_cons hi, List.drop_eq_getElem_cons hj]
      unfold unionM
      by_cases c1 : a[i] < b[j]
      · rw [if_pos c1, if_pos c1, req_pos (by omega), req_pos (by omega), wrS i (by omega), ih (d - 1) (by omega) (i + 1) j n _ (by omega) (by omega) h3 (by omega) (by simp; omega), List.append_assoc, ← List.drop_eq_getElem_cons hj]
        rfl
      · rw [if_neg c1, if_neg c1, req_pos (by omega), req_pos (by omega)]
        by_cases c2 : a[i] = b[j]
        · rw [if_pos c2, if_pos c2, req_pos (by omega), req_pos (by omega), wrS i (by omega), wrS j (by omega), ih (d - 2) (by omega) (i + 1) (j + 1) n _ (by omega) (by omega) (by omega) (by omega) (by simp; omega), List.append_assoc]
          rfl
        · rw [if_neg c2, if_neg c2, req_pos (by omega), req_pos (by omega), wrS j (by omega), ih (d - 1) (by omega) i (j + 1) n _ (by omega) h2 (by omega) (by omega) (by simp; omega), List.append_assoc, ← List.drop_eq_getElem_cons hi]
          rfl
    · rw [spec_l3Union.l0, if_pos (by omega), if_neg (by omega), req_pos (by omega), Int.toNat_natCast, List.getElem?_eq_getElem hi]
      simp only [Option.bind_some]
      rw [req_pos (by omega), wrS i (by omega), ih (d - 1) (by omega) (i + 1) j n _ (by omega) (by omega) h3 (by omega) (by simp; omega), List.drop_eq_nil_of_le (show b.length ≤ j by omega), List.drop_eq_getElem_cons hi, List.append_assoc]
      have e : ∀ l : List Int, unionM l [] = l := fun l => by cases l <;> simp [unionM]
      rw [e, e]; rfl
  · by_cases hj : j < b.length
    · rw [spec_l3Union.l0, if_neg (by omega), if_pos (by omega), req_pos (by omega), Int.toNat_natCast, List.getElem?_eq_getElem hj]
      simp only [Option.bind_some]
      rw [req_pos (by omega), wrS j (by omega), ih (d - 1) (by omega) i (j + 1) n _ (by omega) h2 (by omega) (by omega) (by simp; omega), List.drop_eq_nil_of_le (show a.length ≤ i by omega), List.drop_eq_getElem_cons hj, List.append_assoc]
      simp [unionM]
    · rw [spec_l3Union.l0, if_neg (by omega), if_neg (by omega), List.drop_eq_nil_of_le (show a.length ≤ i by omega), List.drop_eq_nil_of_le (show b.length ≤ j by omega)]
      simp [unionM]
theorem spec_join_eq (k : Nat) (hk : 1000000000000 ≤ k) (a b : GOcc) (ha : Few a) (hb : Few b) : spec_l3Join.f k a b = some (joinM a b) := by
  unfold spec_l3Join.f spec_l3Union.f spec_l1Min.f spec_l1Max.f joinM
  have := union_loop k a.Ids b.Ids ha hb (a.Ids.length + b.Ids.length) 0 0 k [] (by omega) (by omega) (by omega) (by omega) (by simp)
  rw [show ((0 : Nat) : Int) = 0 from rfl] at this
  rw [this]
  have e1 : (if a.From < b.From then some a.From else some b.From) = some (min a.From b.From) := by split <;> (congr 1; omega)
  have e2 : (if b.To < a.To then some a.To else some b.To) = some (max a.To b.To) := by split <;> (congr 1; omega)
  rw [e1, e2]
  rfl
theorem concat_eq (k : Nat) (hk : 1000000000000 ≤ k) (a b : List Int) (ha : a.length ≤ 1000) (hb : b.length ≤ 1000) : slices_Concat.f k [a, b] = some (a ++ b) := by
  obtain ⟨k', rfl⟩ : ∃ m, k = m + 3 := ⟨k - 3, by omega⟩
  unfold slices_Concat.f slices_Grow.f
  have e0 : slices_Concat.l0 (k' + 3) [a, b] (k' + 3) 0 0 = some ((a.length : Int) + b.length) := by
    rw [slices_Concat.l0, if_pos (by simp), req_pos (by omega)]
    simp only [Int.toNat_zero, List.getElem?_cons_zero, Option.bind_some]
    rw [wr (0 + (a.length : Int)) (by omega), if_neg (by omega), show IntKind.wrap .i64 (0 + 1) = 1 from rfl, slices_Concat.l0, if_pos (by simp), req_pos (by omega)]
    simp only [Int.toNat_one, List.getElem?_cons_succ, List.getElem?_cons_zero, Option.bind_some]
    rw [wr _ (by omega), if_neg (by omega), show IntKind.wrap .i64 (1 + 1) = 2 from rfl, slices_Concat.l0, if_neg (by simp)]
    congr 1; omega
  have e1 : slices_Concat.l1 (k' + 3) [a, b] (k' + 3) [] 0 = some (a ++ b) := by
    rw [slices_Concat.l1, if_pos (by simp), req_pos (by omega)]
    simp only [Int.toNat_zero, List.getElem?_cons_zero, Option.bind_some]
    rw [req_pos (by simp; omega), show IntKind.wrap .i64 (0 + 1) = 1 from rfl, slices_Concat.l1, if_pos (by simp), req_pos (by omega)]
    simp only [Int.toNat_one, List.getElem?_cons_succ, List.getElem?_cons_zero, Option.bind_some]
    rw [req_pos (by simp; omega), show IntKind.wrap .i64 (1 + 1) = 2 from rfl, slices_Concat.l1, if_neg (by simp)]
    rfl
  rw [e0]
  simp only [Option.bind_some]
  rw [req_pos trivial, req_pos (by omega), req_pos (by omega)]
  simp only [Option.bind_some]
  rw [e1]; rfl
theorem impl_join_eq (k : Nat) (hk : 1000000000000 ≤ k) (a b : GOcc) (ha : IdsOk a.Ids) (hb : IdsOk b.Ids) : impl_join.f k a b = some (joinM a b) := by
  have l1 := idsOk_len ha
  have l2 := idsOk_len hb
  unfold impl_join.f slices_Sort.f slices_Compact.f
  rw [concat_eq k hk _ _ (by omega) (by omega)]
  simp only [Option.bind_some]
  have e : (a.Ids ++ b.Ids).mergeSort (fun x y => decide (x ≤ y)) = sortM (a.Ids ++ b.Ids) := rfl
  rw [req_pos (by simp; omega), e]
  simp only [Option.bind_some]
  have l3 := length_sortM (a.Ids ++ b.Ids)
  rw [req_pos l3, req_pos (by rw [l3]; simp; omega)]
  have l4 : (uniq (sortM (a.Ids ++ b.Ids))).length ≤ 24 := by rw [union_sort ha.1 hb.1]; exact idsOk_len (idsOk_union ha hb)
  simp only [Option.bind_some]
  rw [req_pos (by omega), req_pos (by omega), req_pos (by omega), req_pos (by omega), union_sort ha.1 hb.1]
  unfold joinM
  by_cases c1 : b.From < a.From
  · rw [if_pos c1]
    by_cases c2 : a.To < b.To
    · rw [if_pos c2]; congr 2 <;> omega
    · rw [if_neg c2]; congr 2 <;> omega
  · rw [if_neg c1]
    by_cases c2 : a.To < b.To
    · rw [if_pos c2]; congr 2 <;> omega
    · rw [if_neg c2]; congr 2 <;> omega
end Go.Proofs.YtdhlbpgjcfdofaaGreat
