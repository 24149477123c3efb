/- Occurrences: order, validity, shifts; both programs alike. -/
import Derived.Test.YtdhlbpgjcfdofaaGreatM0a
namespace Go.Proofs.YtdhlbpgjcfdofaaGreat
open Go Go.Vm
set_option linter.unusedVariables false
def lexCmp : List Int → List Int → Int
  | [], [] => 0
  | [], _ :: _ => -1
  | _ :: _, [] => 1
  | x :: xs, y :: ys => if x < y then -1 else if y < x then 1 else lexCmp xs ys
theorem lexCmp_refl : ∀ l, lexCmp l l = 0
  | [] => rfl
  | x :: xs => by simp [lexCmp, lexCmp_refl xs]
theorem l3Ids_loop (k : Nat) (a b : List Int) (ha : a.length < 4611686018427387904) : ∀ (d n i : Nat), i + d = a.length → i ≤ b.length → d < n →
    ((spec_l3Ids.l0 k a b n (i : Int)).bind fun o => match o with
      | .ok _ => (if (a.length : Int) < (b.length : Int) then some (-1) else (if (b.length : Int) < (a.length : Int) then some 1 else some 0))
      | .error r => some r) = some (lexCmp (a.drop i) (b.drop i)) := by
  intro d
  induction d with
  | zero =>
    intro n i hi hb hn
    obtain ⟨n, rfl⟩ : ∃ m, n = m + 1 := ⟨n - 1, by omega⟩
    rw [spec_l3Ids.l0, if_neg (by omega), List.drop_eq_nil_of_le (by omega)]
    simp only [Option.bind_some]
    cases h : b.drop i with
    | nil =>
      have : b.length ≤ i := List.drop_eq_nil_iff.1 h
      rw [if_neg (by omega), if_neg (by omega)]; rfl
    | cons y ys =>
      have : i < b.length := by
        rcases Nat.lt_or_ge i b.length with h1 | h1
        · exact h1
        · rw [List.drop_eq_nil_of_le h1] at h; cases h
      rw [if_pos (by omega)]; rfl
  | succ d ih =>
    intro n i hi hb hn
    obtain ⟨n, rfl⟩ : ∃ m, n = m + 1 := ⟨n - 1, by omega⟩
    have hlt : i < a.length := by omega
    rw [spec_l3Ids.l0, if_pos (by omega), List.drop_eq_getElem_cons hlt]
    by_cases h : i < b.length
    · rw [if_pos (by omega), req_pos (by omega), Int.toNat_natCast, List.getElem?_eq_getElem hlt]
      simp only [Option.bind_some]
      rw [req_pos (by omega), List.getElem?_eq_getElem h, List.drop_eq_getElem_cons h]
      simp only [Option.bind_some, lexCmp]
      by_cases h1 : a[i] < b[i]
      · rw [if_pos h1, if_pos h1]; rfl
      · rw [if_neg h1, if_neg h1, req_pos (by omega)]
        try simp only [Option.bind_some]
        rw [req_pos (by omega)]
        try simp only [Option.bind_some]
        by_cases h2 : b[i] < a[i]
        · rw [if_pos h2, if_pos h2]; rfl
        · rw [if_neg h2, if_neg h2, wrS i (by omega)]
          exact ih n (i + 1) (by omega) (by omega) (by omega)
    · rw [if_neg (by omega), List.drop_eq_nil_of_le (show b.length ≤ i by omega)]
      simp only [Option.bind_some, lexCmp]
      rw [if_neg (by omega), if_pos (by omega)]
theorem l3Ids_eq (a b : List Int) (ha : a.length < 4611686018427387904) (k : Nat) (hk : a.length + 1 ≤ k) : spec_l3Ids.f k a b = some (lexCmp a b) := by
  unfold spec_l3Ids.f
  have := l3Ids_loop k a b ha a.length k 0 (by omega) (by omega) (by omega)
  rw [show ((0 : Nat) : Int) = 0 from rfl] at this
  exact this
theorem cmp_eq (a b : Int) : cmp_Compare.f a b = some (if a < b then -1 else if b < a then 1 else 0) := by
  unfold cmp_Compare.f cmp_isNaN.f
  by_cases h : a < b
  · simp [h]
  · by_cases h2 : b < a <;> simp [h, h2]
theorem sliceCmp_loop (k : Nat) (a b : List Int) (ha : a.length < 4611686018427387904) : ∀ (d n i : Nat), i + d = a.length → i ≤ b.length → d < n →
    ((slices_Compare.l0 k a b n (i : Int)).bind fun o => match o with
      | .ok _ => (if (a.length : Int) < (b.length : Int) then some (-1) else some 0)
      | .error r => some r) = some (lexCmp (a.drop i) (b.drop i)) := by
  intro d
  induction d with
  | zero =>
    intro n i hi hb hn
    obtain ⟨n, rfl⟩ : ∃ m, n = m + 1 := ⟨n - 1, by omega⟩
    rw [slices_Compare.l0, if_neg (by omega), List.drop_eq_nil_of_le (by omega)]
    simp only [Option.bind_some]
    cases h : b.drop i with
    | nil =>
      have : b.length ≤ i := List.drop_eq_nil_iff.1 h
      rw [if_neg (by omega)]; rfl
    | cons y ys =>
      have : i < b.length := by
        rcases Nat.lt_or_ge i b.length with h1 | h1
        · exact h1
        · rw [List.drop_eq_nil_of_le h1] at h; cases h
      rw [if_pos (by omega)]; rfl
  | succ d ih =>
    intro n i hi hb hn
    obtain ⟨n, rfl⟩ : ∃ m, n = m + 1 := ⟨n - 1, by omega⟩
    have hlt : i < a.length := by omega
    rw [slices_Compare.l0, if_pos (by omega), List.drop_eq_getElem_cons hlt, req_pos (by omega), Int.toNat_natCast, List.getElem?_eq_getElem hlt]
    simp only [Option.bind_some]
    by_cases h : i < b.length
    · rw [if_pos (by omega), req_pos (by omega), List.getElem?_eq_getElem h, List.drop_eq_getElem_cons h]
      simp only [Option.bind_some, lexCmp, cmp_eq]
      by_cases h1 : a[i] < b[i]
      · rw [if_pos h1, if_pos h1, if_neg (by decide)]; rfl
      · rw [if_neg h1, if_neg h1]
        by_cases h2 : b[i] < a[i]
        · rw [if_pos h2, if_pos h2, if_neg (by decide)]; rfl
        · rw [if_neg h2, if_neg h2, if_pos rfl, wrS i (by omega)]
          exact ih n (i + 1) (by omega) (by omega) (by omega)
    · rw [if_neg (by omega), List.drop_eq_nil_of_le (show b.length ≤ i by omega)]
      simp only [Option.bind_some, lexCmp]
theorem sliceCmp_eq (a b : List Int) (ha : a.length < 4611686018427387904) (k : Nat) (hk : a.length + 1 ≤ k) : slices_Compare.f k a b = some (lexCmp a b) := by
  unfold slices_Compare.f
  have := sliceCmp_loop k a b ha a.length k 0 (by omega) (by omega) (by omega)
  rw [show ((0 : Nat) : Int) = 0 from rfl] at this
  exact this
def sgn (b : Bool) : Int := if b then -1 else 1
def occCmp (a b : GOcc) : Int := if a.To = b.To then (if a.From = b.From then lexCmp a.Ids b.Ids else sgn (decide (a.From < b.From))) else sgn (decide (a.To < b.To))
def occLess (a b : GOcc) : Bool := decide (occCmp a b < 0)
theorem occCmp_refl (a : GOcc) : occCmp a a = 0 := by simp [occCmp, lexCmp_refl]
theorem impl_compare_eq (a b : GOcc) (ha : a.Ids.length < 4611686018427387904) (k : Nat) (hk : a.Ids.length + 1 ≤ k) : impl_compare.f k a b = some (occCmp a b) := by
  unfold impl_compare.f occCmp impl_sign.f sgn
  rw [sliceCmp_eq _ _ ha k hk]
  split
  · split
    · rfl
    · by_cases h : a.From < b.From <;> simp [h]
  · by_cases h : a.To < b.To <;> simp [h]
theorem impl_OccLess_eq (a b : GOcc) (ha : a.Ids.length < 4611686018427387904) (k : Nat) (hk : a.Ids.length + 1 ≤ k) : impl_OccLess.f k a b = some (occLess a b) := by
  unfold impl_OccLess.f
  rw [impl_compare_eq a b ha k hk]; rfl
theorem spec_OccLess_eq (a b : GOcc) (ha : a.Ids.length < 4611686018427387904) (k : Nat) (hk : a.Ids.length + 1 ≤ k) : spec_OccLess.f k a b = some (occLess a b) := by
  unfold spec_OccLess.f occLess occCmp sgn
  rw [l3Ids_eq _ _ ha k hk]
  split
  · split
    · rfl
    · by_cases h : a.From < b.From <;> simp [h]
  · by_cases h : a.To < b.To <;> simp [h]
/-- numbers that rise from above p, below 24 -/
def idsUp : Int → List Int → Bool
  | _, [] => true
  | p, x :: xs => decide (p < x) && decide (x ≤ 23) && idsUp x xs
theorem idsUp_len : ∀ (l : List Int) (p : Int), -1 ≤ p → p ≤ 23 → idsUp p l = true → (l.length : Int) ≤ 23 - p
  | [], p, _, h, _ => by simp; omega
  | x :: xs, p, h0, h1, h => by
    simp only [idsUp, Bool.and_eq_true, decide_eq_true_eq] at h
    have := idsUp_len xs x (by omega) (by omega) h.2
    simp only [List.length_cons]; push_cast; omega
def occOk (o : GOcc) : Bool := decide (1 ≤ o.From) && decide (o.From ≤ o.To) && decide (o.To ≤ 2000) && decide (1 ≤ o.Ids.length) && idsUp (-1) o.Ids
theorem impl_OccOk_loop (k : Nat) (o : GOcc) (hl : o.Ids.length < 4611686018427387904) : ∀ (d n i : Nat) (p : Int), i + d = o.Ids.length → d < n → -1 ≤ p → p ≤ 23 →
    impl_OccOk.l0 k o n p (i : Int) = some (if idsUp p (o.Ids.drop i) then .ok () else .error false) := by
  intro d
  induction d with
  | zero =>
    intro n i p hi hn _ _
    obtain ⟨n, rfl⟩ : ∃ m, n = m + 1 := ⟨n - 1, by omega⟩
    rw [impl_OccOk.l0, if_neg (by omega), List.drop_eq_nil_of_le (by omega)]; rfl
  | succ d ih =>
    intro n i p hi hn h0 h1
    obtain ⟨n, rfl⟩ : ∃ m, n = m + 1 := ⟨n - 1, by omega⟩
    have hlt : i < o.Ids.length := by omega
    rw [impl_OccOk.l0, if_pos (by omega), req_pos (by omega), Int.toNat_natCast, List.getElem?_eq_getElem hlt, List.drop_eq_getElem_cons hlt]
    simp only [Option.bind_some, in_eq]
    rw [wr (p + 1) (by omega)]
    by_cases h : p < o.Ids[i] ∧ o.Ids[i] ≤ 23
    · have e : (decide (p + 1 ≤ o.Ids[i]) && decide (o.Ids[i] ≤ 23)) = true := by simp; omega
      have e2 : idsUp p (o.Ids[i] :: o.Ids.drop (i + 1)) = idsUp o.Ids[i] (o.Ids.drop (i + 1)) := by simp [idsUp, h.1, h.2]
      rw [if_pos e, wrS i (by omega), ih n (i + 1) _ (by omega) (by omega) (by omega) (by omega), e2]
    · have e : ¬ (decide (p + 1 ≤ o.Ids[i]) && decide (o.Ids[i] ≤ 23)) = true := by simp; omega
      rw [if_neg e]
      have e2 : idsUp p (o.Ids[i] :: o.Ids.drop (i + 1)) = false := by
        have : (decide (p < o.Ids[i]) && decide (o.Ids[i] ≤ 23)) = false := by
          rw [Bool.eq_false_iff]; simpa using h
        show (decide (p < o.Ids[i]) && decide (o.Ids[i] ≤ 23) && _) = false
        rw [this]; rfl
      rw [e2]; rfl
theorem impl_OccOk_eq (o : GOcc) (hl : o.Ids.length < 4611686018427387904) (k : Nat) (hk : o.Ids.length + 1 ≤ k) : impl_OccOk.f k o = some (occOk o) := by
  unfold impl_OccOk.f occOk
  have := impl_OccOk_loop k o hl o.Ids.length k 0 (-1) (by omega) (by omega) (by omega) (by omega)
  rw [show ((0 : Nat) : Int) = 0 from rfl, List.drop_zero] at this
  rw [this]
  cases idsUp (-1) o.Ids
  · simp
  · simp only [if_true, Option.bind_some, Bool.and_true, in_eq]
    by_cases h1 : o.From < 1
    · rw [if_pos h1]; have : ¬ 1 ≤ o.From := by omega
      simp [this]
    · rw [if_neg h1]
      have e1 : 1 ≤ o.From := by omega
      by_cases h2 : o.From ≤ o.To ∧ o.To ≤ 2000
      · simp only [h2.1, h2.2, e1, decide_true, Bool.and_true, if_true, Bool.true_and, Option.some.injEq]
        rw [Bool.eq_iff_iff]; simp; omega
      · have : (decide (o.From ≤ o.To) && decide (o.To ≤ 2000)) = false := by rw [Bool.eq_false_iff]; simpa using h2
        rw [Bool.and_assoc (decide (1 ≤ o.From)), this]
        simp
/-- what stands before place i -/
def prevId (l : List Int) : Nat → Int
  | 0 => -1
  | j + 1 => l.getD j 0
theorem spec_OccOk_loop (k : Nat) (o : GOcc) (hl : o.Ids.length < 4611686018427387904) : ∀ (d n i : Nat), i + d = o.Ids.length → d < n → -1 ≤ prevId o.Ids i →
    spec_OccOk.l0 k o n (i : Int) = some (if idsUp (prevId o.Ids i) (o.Ids.drop i) then .ok () else .error false) := by
  intro d
  induction d with
  | zero =>
    intro n i hi hn _
    obtain ⟨n, rfl⟩ : ∃ m, n = m + 1 := ⟨n - 1, by omega⟩
    rw [spec_OccOk.l0, if_neg (by omega), List.drop_eq_nil_of_le (by omega)]; rfl
  | succ d ih =>
    intro n i hi hn h0
    obtain ⟨n, rfl⟩ : ∃ m, n = m + 1 := ⟨n - 1, by omega⟩
    have hlt : i < o.Ids.length := by omega
    have hp : prevId o.Ids (i + 1) = o.Ids[i] := by simp [prevId, List.getD, List.getElem?_eq_getElem hlt]
    rw [spec_OccOk.l0, if_pos (by omega), req_pos (by omega), Int.toNat_natCast, List.getElem?_eq_getElem hlt, List.drop_eq_getElem_cons hlt]
    simp only [Option.bind_some]
    by_cases h1 : o.Ids[i] < 0
    · rw [if_pos h1]
      have : ¬ prevId o.Ids i < o.Ids[i] := by omega
      simp [idsUp, this]
    rw [if_neg h1, req_pos (by omega)]
    by_cases h2 : o.Ids[i] < 24
    · rw [if_pos h2]
      have e2 : o.Ids[i] ≤ 23 := by omega
      have hnext := ih n (i + 1) (by omega) (by omega) (by rw [hp]; omega)
      rw [hp] at hnext
      cases i with
      | zero =>
        rw [if_neg (by omega), wrS 0 (by omega), hnext]
        have : prevId o.Ids 0 < o.Ids[0] := by simp [prevId]; omega
        simp [idsUp, this, e2]
      | succ j =>
        rw [if_pos (by omega), req_pos (by omega)]
        try simp only [Option.bind_some]
        simp only [wrP j (by omega)]
        rw [req_pos (by omega), Int.toNat_natCast, List.getElem?_eq_getElem (show j < o.Ids.length by omega)]
        simp only [Option.bind_some]
        have hj : prevId o.Ids (j + 1) = o.Ids[j] := by simp [prevId, List.getD, List.getElem?_eq_getElem (show j < o.Ids.length by omega)]
        rw [hj]
        by_cases h3 : o.Ids[j] < o.Ids[j + 1]
        · rw [if_pos h3, wrS (j + 1) (by omega), hnext]; simp [idsUp, h3, e2]
        · rw [if_neg h3]; simp [idsUp, h3]
    · rw [if_neg h2]
      have : ¬ o.Ids[i] ≤ 23 := by omega
      simp [idsUp, this]
theorem spec_OccOk_eq (o : GOcc) (hl : o.Ids.length < 4611686018427387904) (k : Nat) (hk : o.Ids.length + 1 ≤ k) : spec_OccOk.f k o = some (occOk o) := by
  unfold spec_OccOk.f occOk
  by_cases h1 : o.From < 1
  · rw [if_pos h1]; have : ¬ 1 ≤ o.From := by omega
    simp [this]
  rw [if_neg h1]
  have e1 : 1 ≤ o.From := by omega
  by_cases h2 : o.To < o.From
  · rw [if_pos h2]; have : ¬ o.From ≤ o.To := by omega
    simp [this]
  rw [if_neg h2]
  have e2 : o.From ≤ o.To := by omega
  by_cases h3 : 2000 < o.To
  · rw [if_pos h3]; have : ¬ o.To ≤ 2000 := by omega
    simp [this]
  rw [if_neg h3]
  have e3 : o.To ≤ 2000 := by omega
  by_cases h4 : (o.Ids.length : Int) < 1
  · rw [if_pos h4]; have : ¬ 1 ≤ o.Ids.length := by omega
    simp [this]
  rw [if_neg h4]
  have e4 : 1 ≤ o.Ids.length := by omega
  simp only [e1, e2, e3, e4, decide_true, Bool.true_and]
  by_cases h5 : (24 : Int) < o.Ids.length
  · rw [if_pos h5]
    cases h : idsUp (-1) o.Ids
    · rfl
    · have := idsUp_len o.Ids (-1) (by omega) (by omega) h; omega
  rw [if_neg h5]
  have := spec_OccOk_loop k o hl o.Ids.length k 0 (by omega) (by omega) (by simp [prevId])
  rw [show ((0 : Nat) : Int) = 0 from rfl, List.drop_zero] at this
  rw [this]
  show _ = some (idsUp (prevId o.Ids 0) o.Ids)
  cases idsUp (prevId o.Ids 0) o.Ids <;> rfl
def occPrev (l : List GOcc) (a : GOcc) : Nat → Bool
  | 0 => true
  | j + 1 => match l[j]? with
    | some d => occLess d a
    | none => false
def occGood (l : List GOcc) (i : Nat) : Bool := match l[i]? with
  | some e => occOk e && occPrev l e i
  | none => false
def occsOk (l : List GOcc) : Bool := (List.range' 0 l.length).all (occGood l) && decide (l.length ≤ 40)
def IdsLe (l : List GOcc) (m : Nat) : Prop := ∀ o ∈ l, o.Ids.length ≤ m
theorem impl_OccsOk_loop (k : Nat) (l : List GOcc) (hl : l.length < 4611686018427387904) (m : Nat) (hm : IdsLe l m) (hm2 : m < 4611686018427387904) (hk : m + 1 ≤ k) : ∀ (d n i : Nat), i + d = l.length → d < n →
    impl_OccsOk.l0 k l n (i : Int) = some (if (List.range' i d).all (occGood l) then .ok () else .error false) := by
  intro d
  induction d with
  | zero =>
    intro n i hi hn
    obtain ⟨n, rfl⟩ : ∃ m, n = m + 1 := ⟨n - 1, by omega⟩
    rw [impl_OccsOk.l0, if_neg (by omega)]; simp
  | succ d ih =>
    intro n i hi hn
    obtain ⟨n, rfl⟩ : ∃ m, n = m + 1 := ⟨n - 1, by omega⟩
    have hlt : i < l.length := by omega
    have hnext := ih n (i + 1) (by omega) (by omega)
    have hb := hm l[i] (List.getElem_mem hlt)
    rw [impl_OccsOk.l0, if_pos (by omega), req_pos (by omega), Int.toNat_natCast, List.getElem?_eq_getElem hlt]
    simp only [Option.bind_some, impl_OccOk_eq l[i] (by omega) k (by omega), List.range'_succ, List.all_cons]
    have hg : occGood l i = (occOk l[i] && occPrev l l[i] i) := by unfold occGood; rw [List.getElem?_eq_getElem hlt]
    rw [hg]
    cases hok : occOk l[i]
    · simp
    · cases i with
      | zero => simp only [if_true]; rw [if_neg (by omega), wrS 0 (by omega), hnext]; simp only [occPrev, Bool.true_and]
      | succ j =>
        simp only [if_true]
        have hb2 := hm l[j] (List.getElem_mem (by omega))
        rw [if_pos (by omega)]
        simp only [wrP j (by omega)]
        rw [req_pos (by omega), Int.toNat_natCast, List.getElem?_eq_getElem (show j < l.length by omega)]
        simp only [Option.bind_some, impl_OccLess_eq l[j] l[j + 1] (by omega) k (by omega)]
        have hp : occPrev l l[j + 1] (j + 1) = occLess l[j] l[j + 1] := by simp only [occPrev, List.getElem?_eq_getElem (show j < l.length by omega)]
        rw [hp]
        cases occLess l[j] l[j + 1]
        · simp
        · simp only [if_true]; rw [wrS (j + 1) (by omega), hnext]; simp only [Bool.true_and]
theorem impl_OccsOk_eq (l : List GOcc) (hl : l.length < 4611686018427387904) (m : Nat) (hm : IdsLe l m) (hm2 : m < 4611686018427387904) (k : Nat) (hk : m + l.length + 1 ≤ k) : impl_OccsOk.f k l = some (occsOk l) := by
  unfold impl_OccsOk.f occsOk
  have := impl_OccsOk_loop k l hl m hm hm2 (by omega) l.length k 0 (by omega) (by omega)
  rw [show ((0 : Nat) : Int) = 0 from rfl] at this
  rw [this]
  cases (List.range' 0 l.length).all (occGood l)
  · simp
  · simp only [if_true, Option.bind_some, Bool.true_and, Option.some.injEq]
    rw [Bool.eq_iff_iff]; simp; omega
theorem spec_OccsOk_loop (k : Nat) (l : List GOcc) (hl : l.length < 4611686018427387904) (m : Nat) (hm : IdsLe l m) (hm2 : m < 4611686018427387904) (hk : m + 1 ≤ k) : ∀ (d n i : Nat), i + d = l.length → d < n →
    spec_OccsOk.l0 k l n (i : Int) = some (if (List.range' i d).all (occGood l) then .ok () else .error false) := by
  intro d
  induction d with
  | zero =>
    intro n i hi hn
    obtain ⟨n, rfl⟩ : ∃ m, n = m + 1 := ⟨n - 1, by omega⟩
    rw [spec_OccsOk.l0, if_neg (by omega)]; simp
  | succ d ih =>
    intro n i hi hn
    obtain ⟨n, rfl⟩ : ∃ m, n = m + 1 := ⟨n - 1, by omega⟩
    have hlt : i < l.length := by omega
    have hnext := ih n (i + 1) (by omega) (by omega)
    have hb := hm l[i] (List.getElem_mem hlt)
    rw [spec_OccsOk.l0, if_pos (by omega), req_pos (by omega), Int.toNat_natCast, List.getElem?_eq_getElem hlt]
    simp only [Option.bind_some, spec_OccOk_eq l[i] (by omega) k (by omega), List.range'_succ, List.all_cons]
    have hg : occGood l i = (occOk l[i] && occPrev l l[i] i) := by unfold occGood; rw [List.getElem?_eq_getElem hlt]
    rw [hg]
    cases hok : occOk l[i]
    · simp
    · cases i with
      | zero => simp only [if_true]; rw [if_neg (by omega), wrS 0 (by omega), hnext]; simp only [occPrev, Bool.true_and]
      | succ j =>
        simp only [if_true]
        have hb2 := hm l[j] (List.getElem_mem (by omega))
        rw [if_pos (by omega)]
        simp only [wrP j (by omega)]
        rw [req_pos (by omega), Int.toNat_natCast, List.getElem?_eq_getElem (show j < l.length by omega)]
        simp only [Option.bind_some]
        rw [req_pos (by omega)]
        simp only [spec_OccLess_eq l[j] l[j + 1] (by omega) k (by omega), Option.bind_some]
        have hp : occPrev l l[j + 1] (j + 1) = occLess l[j] l[j + 1] := by simp only [occPrev, List.getElem?_eq_getElem (show j < l.length by omega)]
        rw [hp]
        cases occLess l[j] l[j + 1]
        · simp
        · simp only [if_true]; rw [wrS (j + 1) (by omega), hnext]; simp only [Bool.true_and]
theorem spec_OccsOk_eq (l : List GOcc) (hl : l.length < 4611686018427387904) (m : Nat) (hm : IdsLe l m) (hm2 : m < 4611686018427387904) (k : Nat) (hk : m + l.length + 1 ≤ k) : spec_OccsOk.f k l = some (occsOk l) := by
  unfold spec_OccsOk.f occsOk
  by_cases h : (40 : Int) < l.length
  · rw [if_pos h]; have : ¬ l.length ≤ 40 := by omega
    simp [this]
  · rw [if_neg h]
    have := spec_OccsOk_loop k l hl m hm hm2 (by omega) l.length k 0 (by omega) (by omega)
    rw [show ((0 : Nat) : Int) = 0 from rfl] at this
    rw [this]
    have h' : l.length ≤ 40 := by omega
    cases (List.range' 0 l.length).all (occGood l) <;> simp [h']
theorem occsOk_len {l : List GOcc} (h : occsOk l = true) : l.length ≤ 40 := by unfold occsOk at h; simp at h; exact h.2
theorem occsOk_at {l : List GOcc} (h : occsOk l = true) {i : Nat} (hi : i < l.length) : occOk l[i] = true ∧ occPrev l l[i] i = true := by
  unfold occsOk at h
  simp only [Bool.and_eq_true, List.all_eq_true, List.mem_range'] at h
  have := h.1 i ⟨i, by omega, by omega⟩
  unfold occGood at this
  rw [List.getElem?_eq_getElem hi] at this
  simpa using this
theorem occOk_ids {o : GOcc} (h : occOk o = true) : o.Ids.length ≤ 24 ∧ 1 ≤ o.From ∧ o.From ≤ o.To ∧ o.To ≤ 2000 := by
  unfold occOk at h
  simp only [Bool.and_eq_true, decide_eq_true_eq] at h
  have := idsUp_len o.Ids (-1) (by omega) (by omega) h.2
  omega
theorem occsOk_all {l : List GOcc} (h : occsOk l = true) : ∀ o ∈ l, o.Ids.length ≤ 24 ∧ 1 ≤ o.From ∧ o.From ≤ o.To ∧ o.To ≤ 2000 := fun o ho => by
  obtain ⟨i, hi, rfl⟩ := List.mem_iff_getElem.1 ho
  exact occOk_ids (occsOk_at h hi).1
end Go.Proofs.YtdhlbpgjcfdofaaGreat
