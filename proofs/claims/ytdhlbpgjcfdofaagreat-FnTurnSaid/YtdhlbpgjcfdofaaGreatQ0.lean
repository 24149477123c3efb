/- Plain lemmas about the functions over data; first part. -/
import Derived.Test.YtdhlbpgjcfdofaaGreatL
namespace Go.Proofs.YtdhlbpgjcfdofaaGreat
open Go Go.Vm
set_option linter.unusedVariables false
set_option linter.unusedSimpArgs false
/- Plain lemmas: numbers, loops over lists; events. -/
theorem wr (x : Int) (h : -9223372036854775808 ≤ x ∧ x < 9223372036854775808) : IntKind.wrap .i64 x = x := wrap_ok h
theorem wrS (i : Nat) (h : i < 4611686018427387904) : IntKind.wrap .i64 ((i : Int) + 1) = ((i + 1 : Nat) : Int) := by rw [wr _ (by omega)]; simp
theorem wrP (i : Nat) (h : i < 4611686018427387904) : IntKind.wrap .i64 (((i + 1 : Nat) : Int) - 1) = (i : Int) := by rw [wr _ (by omega)]; simp
/-- from some number of rounds on -/
def Evn {α : Type} (g : Nat → Option α) (r : α) : Prop := ∃ K, ∀ k, K ≤ k → g k = some r
theorem Evn.const {α : Type} {g : Option α} {r : α} (h : g = some r) : Evn (fun _ => g) r := ⟨0, fun _ _ => h⟩
theorem Evn.bind {α β : Type} {g : Nat → Option α} {f : Nat → α → Option β} {r : α} {s : β} (h1 : Evn g r) (h2 : Evn (fun k => f k r) s) : Evn (fun k => (g k).bind (f k)) s := by
  obtain ⟨K1, h1⟩ := h1
  obtain ⟨K2, h2⟩ := h2
  exact ⟨K1 + K2, fun k hk => by simp only; rw [h1 k (by omega)]; exact h2 k (by omega)⟩
theorem Evn.get {α : Type} {g : Nat → Option α} {r : α} (h : Evn g r) : ∃ k, g k = some r := h.elim fun K h => ⟨K, h K (Nat.le_refl _)⟩
theorem Evn.req {α : Type} {c : Prop} [Decidable c] {g : Nat → Option α} {r : α} (hc : c) (h : Evn g r) : Evn (fun k => Vm.req c (g k)) r := by
  obtain ⟨K, h⟩ := h
  exact ⟨K, fun k hk => by simp only; rw [req_pos hc]; exact h k hk⟩
theorem Evn.pos {α : Type} {c : Prop} [Decidable c] {g g' : Nat → Option α} {r : α} (hc : c) (h : Evn g r) : Evn (fun k => if c then g k else g' k) r := by
  obtain ⟨K, h⟩ := h
  exact ⟨K, fun k hk => by simp only; rw [if_pos hc]; exact h k hk⟩
theorem Evn.neg {α : Type} {c : Prop} [Decidable c] {g g' : Nat → Option α} {r : α} (hc : ¬ c) (h : Evn g' r) : Evn (fun k => if c then g k else g' k) r := by
  obtain ⟨K, h⟩ := h
  exact ⟨K, fun k hk => by simp only; rw [if_neg hc]; exact h k hk⟩
theorem reach_lt {n b : Nat} (h : n * b ≤ reachBytes) (hb : 8 ≤ b) : n < 4611686018427387904 := by
  have h1 : n * 8 ≤ n * b := Nat.mul_le_mul_left n hb
  have h2 : reachBytes = 140737488351232 := rfl
  omega
theorem reach_le {n b : Nat} (h : n * b ≤ reachBytes) : n * b ≤ 140737488355328 := by
  have h2 : reachBytes = 140737488351232 := rfl
  omega

/- events -/
def evOk (e : GEv) : Bool := decide (0 ≤ e.Sym) && decide (e.Sym < 5) && decide (1 ≤ e.At) && decide (e.At ≤ 1000) && decide (0 ≤ e.Val) && decide (e.Val ≤ 100)
theorem spec_EvOk_eq (e : GEv) : spec_EvOk.f e = some (evOk e) := by
  unfold spec_EvOk.f evOk
  repeat' split
  all_goals (rw [Option.some.injEq, Bool.eq_iff_iff]; simp; omega)
theorem in_eq (a b c : Int) : impl_in.f a b c = some (decide (b ≤ a) && decide (a ≤ c)) := by
  unfold impl_in.f
  split
  all_goals (rw [Option.some.injEq, Bool.eq_iff_iff]; simp; omega)
theorem impl_EvOk_eq (e : GEv) : impl_EvOk.f e = some (evOk e) := by
  unfold impl_EvOk.f impl_isSym.f evOk
  simp only [in_eq, Option.bind_some]
  repeat' split
  all_goals (rw [Option.some.injEq, Bool.eq_iff_iff]; simp_all; try omega)
def prevOk (l : List GEv) (a : Int) : Nat → Bool
  | 0 => true
  | j + 1 => match l[j]? with
    | some d => decide (d.At < a)
    | none => false
def evGood (l : List GEv) (i : Nat) : Bool := match l[i]? with
  | some e => evOk e && prevOk l e.At i
  | none => false
def evsOk (l : List GEv) : Bool := (List.range' 0 l.length).all (evGood l) && decide (l.length ≤ 24)
theorem spec_EvsOk_loop (k : Nat) (l : List GEv) (hl : l.length < 4611686018427387904) : ∀ (d n i : Nat), i + d = l.length → d < n →
    spec_EvsOk.l0 k l n (i : Int) = some (if (List.range' i d).all (evGood l) then .ok () else .error false) := by
  intro d
  induction d with
  | zero =>
    intro n i hi hn
    obtain ⟨n, rfl⟩ : ∃ m, n = m + 1 := ⟨n - 1, by omega⟩
    rw [spec_EvsOk.l0, if_neg (by omega)]; simp
  | succ d ih =>
    intro n i hi hn
    obtain ⟨n, rfl⟩ : ∃ m, n = m + 1 := ⟨n - 1, by omega⟩
    have hlt : i < l.length := by omega
    have hnext := ih n (i + 1) (by omega) (by omega)
    rw [spec_EvsOk.l0, if_pos (by omega), req_pos (by omega), Int.toNat_natCast, List.getElem?_eq_getElem hlt]
    simp only [Option.bind_some, spec_EvOk_eq, List.range'_succ, List.all_cons]
    have hg : evGood l i = (evOk l[i] && prevOk l l[i].At i) := by unfold evGood; rw [List.getElem?_eq_getElem hlt]
    rw [hg]
    cases hok : evOk l[i]
    · simp
    · cases i with
      | zero => simp only [if_true]; rw [if_neg (by omega), wrS 0 (by omega), hnext]; simp only [prevOk, Bool.true_and]
      | succ j =>
        simp only [if_true]
        rw [if_pos (by omega), req_pos (by omega)]
        simp only [wrP j (by omega)]
        rw [req_pos (by omega), Int.toNat_natCast, List.getElem?_eq_getElem (show j < l.length by omega)]
        simp only [Option.bind_some]
        have hp : prevOk l l[j + 1].At (j + 1) = decide (l[j].At < l[j + 1].At) := by simp only [prevOk, List.getElem?_eq_getElem (show j < l.length by omega)]
        rw [hp]
        by_cases h : l[j].At < l[j + 1].At
        · rw [if_pos h, wrS (j + 1) (by omega), hnext]; simp only [h, decide_true, Bool.true_and]
        · rw [if_neg h]; simp only [h, decide_false, Bool.true_and, Bool.false_and]; rfl
theorem impl_EvsOk_loop (k : Nat) (l : List GEv) (hl : l.length < 4611686018427387904) : ∀ (d n i : Nat), i + d = l.length → d < n →
    impl_EvsOk.l0 k l n (i : Int) = some (if (List.range' i d).all (evGood l) then .ok () else .error false) := by
  intro d
  induction d with
  | zero =>
    intro n i hi hn
    obtain ⟨n, rfl⟩ : ∃ m, n = m + 1 := ⟨n - 1, by omega⟩
    rw [impl_EvsOk.l0, if_neg (by omega)]; simp
  | succ d ih =>
    intro n i hi hn
    obtain ⟨n, rfl⟩ : ∃ m, n = m + 1 := ⟨n - 1, by omega⟩
    have hlt : i < l.length := by omega
    have hnext := ih n (i + 1) (by omega) (by omega)
    rw [impl_EvsOk.l0, if_pos (by omega), req_pos (by omega), Int.toNat_natCast, List.getElem?_eq_getElem hlt]
    simp only [Option.bind_some, impl_EvOk_eq, List.range'_succ, List.all_cons]
    have hg : evGood l i = (evOk l[i] && prevOk l l[i].At i) := by unfold evGood; rw [List.getElem?_eq_getElem hlt]
    rw [hg]
    cases hok : evOk l[i]
    · simp
    · cases i with
      | zero => simp only [if_true]; rw [if_neg (by omega), wrS 0 (by omega), hnext]; simp only [prevOk, Bool.true_and]
      | succ j =>
        simp only [if_true]
        rw [if_pos (by omega)]
        simp only [wrP j (by omega)]
        rw [req_pos (by omega), Int.toNat_natCast, List.getElem?_eq_getElem (show j < l.length by omega)]
        simp only [Option.bind_some]
        have hp : prevOk l l[j + 1].At (j + 1) = decide (l[j].At < l[j + 1].At) := by simp only [prevOk, List.getElem?_eq_getElem (show j < l.length by omega)]
        rw [hp]
        by_cases h : l[j].At < l[j + 1].At
        · rw [if_pos h, wrS (j + 1) (by omega), hnext]; simp only [h, decide_true, Bool.true_and]
        · rw [if_neg h]; simp only [h, decide_false, Bool.true_and, Bool.false_and]; rfl
theorem spec_EvsOk_eq (l : List GEv) (hl : l.length < 4611686018427387904) : Evn (fun k => spec_EvsOk.f k l) (evsOk l) := by
  refine ⟨l.length + 1, fun k hk => ?_⟩
  dsimp only
  unfold spec_EvsOk.f evsOk
  by_cases h : 24 < (l.length : Int)
  · rw [if_pos h]; have : ¬ l.length ≤ 24 := by omega
    simp [this]
  · rw [if_neg h]
    have := spec_EvsOk_loop k l hl l.length k 0 (by omega) (by omega)
    rw [show ((0 : Nat) : Int) = 0 from rfl] at this
    rw [this]
    have h' : l.length ≤ 24 := by omega
    cases (List.range' 0 l.length).all (evGood l) <;> simp [h']
theorem impl_EvsOk_eq (l : List GEv) (hl : l.length < 4611686018427387904) : Evn (fun k => impl_EvsOk.f k l) (evsOk l) := by
  refine ⟨l.length + 1, fun k hk => ?_⟩
  dsimp only
  unfold impl_EvsOk.f evsOk
  have := impl_EvsOk_loop k l hl l.length k 0 (by omega) (by omega)
  rw [show ((0 : Nat) : Int) = 0 from rfl] at this
  rw [this]
  cases (List.range' 0 l.length).all (evGood l)
  · simp
  · simp only [if_true, Option.bind_some, Bool.true_and, Option.some.injEq]
    by_cases h : l.length ≤ 24
    · have : ¬ (24 : Int) < l.length := by omega
      simp [h, this]
    · have : (24 : Int) < l.length := by omega
      simp [h, this]
theorem evsOk_len {l : List GEv} (h : evsOk l = true) : l.length ≤ 24 := by
  unfold evsOk at h; simp at h; exact h.2
theorem evsOk_ok {l : List GEv} (h : evsOk l = true) {e : GEv} (he : e ∈ l) : evOk e = true := by
  unfold evsOk at h
  simp only [Bool.and_eq_true, List.all_eq_true, List.mem_range', decide_eq_true_eq] at h
  obtain ⟨i, hi⟩ := List.mem_iff_getElem?.1 he
  have hlt : i < l.length := by
    rcases Nat.lt_or_ge i l.length with h1 | h1
    · exact h1
    · rw [List.getElem?_eq_none h1] at hi; cases hi
  have := h.1 i ⟨i, hlt, by omega⟩
  unfold evGood at this
  rw [hi] at this
  simp only [Bool.and_eq_true] at this
  exact this.1
/- Occurrences: order, validity, shifts; both programs alike. -/
def lexCmp : List Int → List Int → Int
  | [], [] => 0
  | [], _ :: _ => -1
  | _ :: _, [] => 1
  | x :: xs, y :: ys => if x < y then -1 else if y < x then 1 else lexCmp xs ys
theorem lexCmp_refl : ∀ l, lexCmp l l = 0
  | [] => rfl
  | x :: xs => by simp [lexCmp, lexCmp_refl xs]
theorem l3Ids_loop (k : Nat) (a b : List Int) (ha : a.length < 4611686018427387904) : ∀ (d n i : Nat), i + d = a.length → i ≤ b.length → d < n →
    ((spec_l3Ids.l0 k a b n (i : Int)).bind fun o => match o with
      | .ok _ => (if (a.length : Int) < (b.length : Int) then some (-1) else (if (b.length : Int) < (a.length : Int) then some 1 else some 0))
      | .error r => some r) = some (lexCmp (a.drop i) (b.drop i)) := by
  intro d
  induction d with
  | zero =>
    intro n i hi hb hn
    obtain ⟨n, rfl⟩ : ∃ m, n = m + 1 := ⟨n - 1, by omega⟩
    rw [spec_l3Ids.l0, if_neg (by omega), List.drop_eq_nil_of_le (by omega)]
    simp only [Option.bind_some]
    cases h : b.drop i with
    | nil =>
      have : b.length ≤ i := List.drop_eq_nil_iff.1 h
      rw [if_neg (by omega), if_neg (by omega)]; rfl
    | cons y ys =>
      have : i < b.length := by
        rcases Nat.lt_or_ge i b.length with h1 | h1
        · exact h1
        · rw [List.drop_eq_nil_of_le h1] at h; cases h
      rw [if_pos (by omega)]; rfl
  | succ d ih =>
    intro n i hi hb hn
    obtain ⟨n, rfl⟩ : ∃ m, n = m + 1 := ⟨n - 1, by omega⟩
    have hlt : i < a.length := by omega
    rw [spec_l3Ids.l0, if_pos (by omega), List.drop_eq_getElem_cons hlt]
    by_cases h : i < b.length
    · rw [if_pos (by omega), req_pos (by omega), Int.toNat_natCast, List.getElem?_eq_getElem hlt]
      simp only [Option.bind_some]
      rw [req_pos (by omega), List.getElem?_eq_getElem h, List.drop_eq_getElem_cons h]
      simp only [Option.bind_some, lexCmp]
      by_cases h1 : a[i] < b[i]
      · rw [if_pos h1, if_pos h1]; rfl
      · rw [if_neg h1, if_neg h1, req_pos (by omega)]
        try simp only [Option.bind_some]
        rw [req_pos (by omega)]
        try simp only [Option.bind_some]
        by_cases h2 : b[i] < a[i]
        · rw [if_pos h2, if_pos h2]; rfl
        · rw [if_neg h2, if_neg h2, wrS i (by omega)]
          exact ih n (i + 1) (by omega) (by omega) (by omega)
    · rw [if_neg (by omega), List.drop_eq_nil_of_le (show b.length ≤ i by omega)]
      simp only [Option.bind_some, lexCmp]
      rw [if_neg (by omega), if_pos (by omega)]
theorem l3Ids_eq (a b : List Int) (ha : a.length < 4611686018427387904) (k : Nat) (hk : a.length + 1 ≤ k) : spec_l3Ids.f k a b = some (lexCmp a b) := by
  unfold spec_l3Ids.f
  have := l3Ids_loop k a b ha a.length k 0 (by omega) (by omega) (by omega)
  rw [show ((0 : Nat) : Int) = 0 from rfl] at this
  exact this
theorem cmp_eq (a b : Int) : cmp_Compare.f a b = some (if a < b then -1 else if b < a then 1 else 0) := by
  unfold cmp_Compare.f cmp_isNaN.f
  by_cases h : a < b
  · simp [h]
  · by_cases h2 : b < a <;> simp [h, h2]
theorem sliceCmp_loop (k : Nat) (a b : List Int) (ha : a.length < 4611686018427387904) : ∀ (d n i : Nat), i + d = a.length → i ≤ b.length → d < n →
    ((slices_Compare.l0 k a b n (i : Int)).bind fun o => match o with
      | .ok _ => (if (a.length : Int) < (b.length : Int) then some (-1) else some 0)
      | .error r => some r) = some (lexCmp (a.drop i) (b.drop i)) := by
  intro d
  induction d with
  | zero =>
    intro n i hi hb hn
    obtain ⟨n, rfl⟩ : ∃ m, n = m + 1 := ⟨n - 1, by omega⟩
    rw [slices_Compare.l0, if_neg (by omega), List.drop_eq_nil_of_le (by omega)]
    simp only [Option.bind_some]
    cases h : b.drop i with
    | nil =>
      have : b.length ≤ i := List.drop_eq_nil_iff.1 h
      rw [if_neg (by omega)]; rfl
    | cons y ys =>
      have : i < b.length := by
        rcases Nat.lt_or_ge i b.length with h1 | h1
        · exact h1
        · rw [List.drop_eq_nil_of_le h1] at h; cases h
      rw [if_pos (by omega)]; rfl
  | succ d ih =>
    intro n i hi hb hn
    obtain ⟨n, rfl⟩ : ∃ m, n = m + 1 := ⟨n - 1, by omega⟩
    have hlt : i < a.length := by omega
    rw [slices_Compare.l0, if_pos (by omega), List.drop_eq_getElem_cons hlt, req_pos (by omega), Int.toNat_natCast, List.getElem?_eq_getElem hlt]
    simp only [Option.bind_some]
    by_cases h : i < b.length
    · rw [if_pos (by omega), req_pos (by omega), List.getElem?_eq_getElem h, List.drop_eq_getElem_cons h]
      simp only [Option.bind_some, lexCmp, cmp_eq]
      by_cases h1 : a[i] < b[i]
      · rw [if_pos h1, if_pos h1, if_neg (by decide)]; rfl
      · rw [if_neg h1, if_neg h1]
        by_cases h2 : b[i] < a[i]
        · rw [if_pos h2, if_pos h2, if_neg (by decide)]; rfl
        · rw [if_neg h2, if_neg h2, if_pos rfl, wrS i (by omega)]
          exact ih n (i + 1) (by omega) (by omega) (by omega)
    · rw [if_neg (by omega), List.drop_eq_nil_of_le (show b.length ≤ i by omega)]
      simp only [Option.bind_some, lexCmp]
theorem sliceCmp_eq (a b : List Int) (ha : a.length < 4611686018427387904) (k : Nat) (hk : a.length + 1 ≤ k) : slices_Compare.f k a b = some (lexCmp a b) := by
  unfold slices_Compare.f
  have := sliceCmp_loop k a b ha a.length k 0 (by omega) (by omega) (by omega)
  rw [show ((0 : Nat) : Int) = 0 from rfl] at this
  exact this
def sgn (b : Bool) : Int := if b then -1 else 1
def occCmp (a b : GOcc) : Int := if a.To = b.To then (if a.From = b.From then lexCmp a.Ids b.Ids else sgn (decide (a.From < b.From))) else sgn (decide (a.To < b.To))
def occLess (a b : GOcc) : Bool := decide (occCmp a b < 0)
theorem occCmp_refl (a : GOcc) : occCmp a a = 0 := by simp [occCmp, lexCmp_refl]
theorem impl_compare_eq (a b : GOcc) (ha : a.Ids.length < 4611686018427387904) (k : Nat) (hk : a.Ids.length + 1 ≤ k) : impl_compare.f k a b = some (occCmp a b) := by
  unfold impl_compare.f occCmp impl_sign.f sgn
  rw [sliceCmp_eq _ _ ha k hk]
  split
  · split
    · rfl
    · by_cases h : a.From < b.From <;> simp [h]
  · by_cases h : a.To < b.To <;> simp [h]
theorem impl_OccLess_eq (a b : GOcc) (ha : a.Ids.length < 4611686018427387904) (k : Nat) (hk : a.Ids.length + 1 ≤ k) : impl_OccLess.f k a b = some (occLess a b) := by
  unfold impl_OccLess.f
  rw [impl_compare_eq a b ha k hk]; rfl
theorem spec_OccLess_eq (a b : GOcc) (ha : a.Ids.length < 4611686018427387904) (k : Nat) (hk : a.Ids.length + 1 ≤ k) : spec_OccLess.f k a b = some (occLess a b) := by
  unfold spec_OccLess.f occLess occCmp sgn
  rw [l3Ids_eq _ _ ha k hk]
  split
  · split
    · rfl
    · by_cases h : a.From < b.From <;> simp [h]
  · by_cases h : a.To < b.To <;> simp [h]
/-- numbers that rise from above p, below 24 -/
def idsUp : Int → List Int → Bool
  | _, [] => true
  | p, x :: xs => decide (p < x) && decide (x ≤ 23) && idsUp x xs
theorem idsUp_len : ∀ (l : List Int) (p : Int), -1 ≤ p → p ≤ 23 → idsUp p l = true → (l.length : Int) ≤ 23 - p
  | [], p, _, h, _ => by simp; omega
  | x :: xs, p, h0, h1, h => by
    simp only [idsUp, Bool.and_eq_true, decide_eq_true_eq] at h
    have := idsUp_len xs x (by omega) (by omega) h.2
    simp only [List.length_cons]; push_cast; omega
def occOk (o : GOcc) : Bool := decide (1 ≤ o.From) && decide (o.From ≤ o.To) && decide (o.To ≤ 2000) && decide (1 ≤ o.Ids.length) && idsUp (-1) o.Ids
theorem impl_OccOk_loop (k : Nat) (o : GOcc) (hl : o.Ids.length < 4611686018427387904) : ∀ (d n i : Nat) (p : Int), i + d = o.Ids.length → d < n → -1 ≤ p → p ≤ 23 →
    impl_OccOk.l0 k o n p (i : Int) = some (if idsUp p (o.Ids.drop i) then .ok () else .error false) := by
  intro d
  induction d with
  | zero =>
    intro n i p hi hn _ _
    obtain ⟨n, rfl⟩ : ∃ m, n = m + 1 := ⟨n - 1, by omega⟩
    rw [impl_OccOk.l0, if_neg (by omega), List.drop_eq_nil_of_le (by omega)]; rfl
  | succ d ih =>
    intro n i p hi hn h0 h1
    obtain ⟨n, rfl⟩ : ∃ m, n = m + 1 := ⟨n - 1, by omega⟩
    have hlt : i < o.Ids.length := by omega
    rw [impl_OccOk.l0, if_pos (by omega), req_pos (by omega), Int.toNat_natCast, List.getElem?_eq_getElem hlt, List.drop_eq_getElem_cons hlt]
    simp only [Option.bind_some, in_eq]
    rw [wr (p + 1) (by omega)]
    by_cases h : p < o.Ids[i] ∧ o.Ids[i] ≤ 23
    · have e : (decide (p + 1 ≤ o.Ids[i]) && decide (o.Ids[i] ≤ 23)) = true := by simp; omega
      have e2 : idsUp p (o.Ids[i] :: o.Ids.drop (i + 1)) = idsUp o.Ids[i] (o.Ids.drop (i + 1)) := by simp [idsUp, h.1, h.2]
      rw [if_pos e, wrS i (by omega), ih n (i + 1) _ (by omega) (by omega) (by omega) (by omega), e2]
    · have e : ¬ (decide (p + 1 ≤ o.Ids[i]) && decide (o.Ids[i] ≤ 23)) = true := by simp; omega
      rw [if_neg e]
      have e2 : idsUp p (o.Ids[i] :: o.Ids.drop (i + 1)) = false := by
        have : (decide (p < o.Ids[i]) && decide (o.Ids[i] ≤ 23)) = false := by
          rw [Bool.eq_false_iff]; simpa using h
        show (decide (p < o.Ids[i]) && decide (o.Ids[i] ≤ 23) && _) = false
        rw [this]; rfl
      rw [e2]; rfl
theorem impl_OccOk_eq (o : GOcc) (hl : o.Ids.length < 4611686018427387904) (k : Nat) (hk : o.Ids.length + 1 ≤ k) : impl_OccOk.f k o = some (occOk o) := by
  unfold impl_OccOk.f occOk
  have := impl_OccOk_loop k o hl o.Ids.length k 0 (-1) (by omega) (by omega) (by omega) (by omega)
  rw [show ((0 : Nat) : Int) = 0 from rfl, List.drop_zero] at this
  rw [this]
  cases idsUp (-1) o.Ids
  · simp
  · simp only [if_true, Option.bind_some, Bool.and_true, in_eq]
    by_cases h1 : o.From < 1
    · rw [if_pos h1]; have : ¬ 1 ≤ o.From := by omega
      simp [this]
    · rw [if_neg h1]
      have e1 : 1 ≤ o.From := by omega
      by_cases h2 : o.From ≤ o.To ∧ o.To ≤ 2000
      · simp only [h2.1, h2.2, e1, decide_true, Bool.and_true, if_true, Bool.true_and, Option.some.injEq]
        rw [Bool.eq_iff_iff]; simp; omega
      · have : (decide (o.From ≤ o.To) && decide (o.To ≤ 2000)) = false := by rw [Bool.eq_false_iff]; simpa using h2
        rw [Bool.and_assoc (decide (1 ≤ o.From)), this]
        simp
/-- what stands before place i -/
def prevId (l : List Int) : Nat → Int
  | 0 => -1
  | j + 1 => l.getD j 0
theorem spec_OccOk_loop (k : Nat) (o : GOcc) (hl : o.Ids.length < 4611686018427387904) : ∀ (d n i : Nat), i + d = o.Ids.length → d < n → -1 ≤ prevId o.Ids i →
    spec_OccOk.l0 k o n (i : Int) = some (if idsUp (prevId o.Ids i) (o.Ids.drop i) then .ok () else .error false) := by
  intro d
  induction d with
  | zero =>
    intro n i hi hn _
    obtain ⟨n, rfl⟩ : ∃ m, n = m + 1 := ⟨n - 1, by omega⟩
    rw [spec_OccOk.l0, if_neg (by omega), List.drop_eq_nil_of_le (by omega)]; rfl
  | succ d ih =>
    intro n i hi hn h0
    obtain ⟨n, rfl⟩ : ∃ m, n = m + 1 := ⟨n - 1, by omega⟩
    have hlt : i < o.Ids.length := by omega
    have hp : prevId o.Ids (i + 1) = o.Ids[i] := by simp [prevId, List.getD, List.getElem?_eq_getElem hlt]
    rw [spec_OccOk.l0, if_pos (by omega), req_pos (by omega), Int.toNat_natCast, List.getElem?_eq_getElem hlt, List.drop_eq_getElem_cons hlt]
    simp only [Option.bind_some]
    by_cases h1 : o.Ids[i] < 0
    · rw [if_pos h1]
      have : ¬ prevId o.Ids i < o.Ids[i] := by omega
      simp [idsUp, this]
    rw [if_neg h1, req_pos (by omega)]
    by_cases h2 : o.Ids[i] < 24
    · rw [if_pos h2]
      have e2 : o.Ids[i] ≤ 23 := by omega
      have hnext := ih n (i + 1) (by omega) (by omega) (by rw [hp]; omega)
      rw [hp] at hnext
      cases i with
      | zero =>
        rw [if_neg (by omega), wrS 0 (by omega), hnext]
        have : prevId o.Ids 0 < o.Ids[0] := by simp [prevId]; omega
        simp [idsUp, this, e2]
      | succ j =>
        rw [if_pos (by omega), req_pos (by omega)]
        try simp only [Option.bind_some]
        simp only [wrP j (by omega)]
        rw [req_pos (by omega), Int.toNat_natCast, List.getElem?_eq_getElem (show j < o.Ids.length by omega)]
        simp only [Option.bind_some]
        have hj : prevId o.Ids (j + 1) = o.Ids[j] := by simp [prevId, List.getD, List.getElem?_eq_getElem (show j < o.Ids.length by omega)]
        rw [hj]
        by_cases h3 : o.Ids[j] < o.Ids[j + 1]
        · rw [if_pos h3, wrS (j + 1) (by omega), hnext]; simp [idsUp, h3, e2]
        · rw [if_neg h3]; simp [idsUp, h3]
    · rw [if_neg h2]
      have : ¬ o.Ids[i] ≤ 23 := by omega
      simp [idsUp, this]
theorem spec_OccOk_eq (o : GOcc) (hl : o.Ids.length < 4611686018427387904) (k : Nat) (hk : o.Ids.length + 1 ≤ k) : spec_OccOk.f k o = some (occOk o) := by
  unfold spec_OccOk.f occOk
  by_cases h1 : o.From < 1
  · rw [if_pos h1]; have : ¬ 1 ≤ o.From := by omega
    simp [this]
  rw [if_neg h1]
  have e1 : 1 ≤ o.From := by omega
  by_cases h2 : o.To < o.From
  · rw [if_pos h2]; have : ¬ o.From ≤ o.To := by omega
    simp [this]
  rw [if_neg h2]
  have e2 : o.From ≤ o.To := by omega
  by_cases h3 : 2000 < o.To
  · rw [if_pos h3]; have : ¬ o.To ≤ 2000 := by omega
    simp [this]
  rw [if_neg h3]
  have e3 : o.To ≤ 2000 := by omega
  by_cases h4 : (o.Ids.length : Int) < 1
  · rw [if_pos h4]; have : ¬ 1 ≤ o.Ids.length := by omega
    simp [this]
  rw [if_neg h4]
  have e4 : 1 ≤ o.Ids.length := by omega
  simp only [e1, e2, e3, e4, decide_true, Bool.true_and]
  by_cases h5 : (24 : Int) < o.Ids.length
  · rw [if_pos h5]
    cases h : idsUp (-1) o.Ids
    · rfl
    · have := idsUp_len o.Ids (-1) (by omega) (by omega) h; omega
  rw [if_neg h5]
  have := spec_OccOk_loop k o hl o.Ids.length k 0 (by omega) (by omega) (by simp [prevId])
  rw [show ((0 : Nat) : Int) = 0 from rfl, List.drop_zero] at this
  rw [this]
  show _ = some (idsUp (prevId o.Ids 0) o.Ids)
  cases idsUp (prevId o.Ids 0) o.Ids <;> rfl
def occPrev (l : List GOcc) (a : GOcc) : Nat → Bool
  | 0 => true
  | j + 1 => match l[j]? with
    | some d => occLess d a
    | none => false
def occGood (l : List GOcc) (i : Nat) : Bool := match l[i]? with
  | some e => occOk e && occPrev l e i
  | none => false
def occsOk (l : List GOcc) : Bool := (List.range' 0 l.length).all (occGood l) && decide (l.length ≤ 40)
def IdsLe (l : List GOcc) (m : Nat) : Prop := ∀ o ∈ l, o.Ids.length ≤ m
theorem impl_OccsOk_loop (k : Nat) (l : List GOcc) (hl : l.length < 4611686018427387904) (m : Nat) (hm : IdsLe l m) (hm2 : m < 4611686018427387904) (hk : m + 1 ≤ k) : ∀ (d n i : Nat), i + d = l.length → d < n →
    impl_OccsOk.l0 k l n (i : Int) = some (if (List.range' i d).all (occGood l) then .ok () else .error false) := by
  intro d
  induction d with
  | zero =>
    intro n i hi hn
    obtain ⟨n, rfl⟩ : ∃ m, n = m + 1 := ⟨n - 1, by omega⟩
    rw [impl_OccsOk.l0, if_neg (by omega)]; simp
  | succ d ih =>
    intro n i hi hn
    obtain ⟨n, rfl⟩ : ∃ m, n = m + 1 := ⟨n - 1, by omega⟩
    have hlt : i < l.length := by omega
    have hnext := ih n (i + 1) (by omega) (by omega)
    have hb := hm l[i] (List.getElem_mem hlt)
    rw [impl_OccsOk.l0, if_pos (by omega), req_pos (by omega), Int.toNat_natCast, List.getElem?_eq_getElem hlt]
    simp only [Option.bind_some, impl_OccOk_eq l[i] (by omega) k (by omega), List.range'_succ, List.all_cons]
    have hg : occGood l i = (occOk l[i] && occPrev l l[i] i) := by unfold occGood; rw [List.getElem?_eq_getElem hlt]
    rw [hg]
    cases hok : occOk l[i]
    · simp
    · cases i with
      | zero => simp only [if_true]; rw [if_neg (by omega), wrS 0 (by omega), hnext]; simp only [occPrev, Bool.true_and]
      | succ j =>
        simp only [if_true]
        have hb2 := hm l[j] (List.getElem_mem (by omega))
        rw [if_pos (by omega)]
        simp only [wrP j (by omega)]
        rw [req_pos (by omega), Int.toNat_natCast, List.getElem?_eq_getElem (show j < l.length by omega)]
        simp only [Option.bind_some, impl_OccLess_eq l[j] l[j + 1] (by omega) k (by omega)]
        have hp : occPrev l l[j + 1] (j + 1) = occLess l[j] l[j + 1] := by simp only [occPrev, List.getElem?_eq_getElem (show j < l.length by omega)]
        rw [hp]
        cases occLess l[j] l[j + 1]
        · simp
        · simp only [if_true]; rw [wrS (j + 1) (by omega), hnext]; simp only [Bool.true_and]
theorem impl_OccsOk_eq (l : List GOcc) (hl : l.length < 4611686018427387904) (m : Nat) (hm : IdsLe l m) (hm2 : m < 4611686018427387904) (k : Nat) (hk : m + l.length + 1 ≤ k) : impl_OccsOk.f k l = some (occsOk l) := by
  unfold impl_OccsOk.f occsOk
  have := impl_OccsOk_loop k l hl m hm hm2 (by omega) l.length k 0 (by omega) (by omega)
  rw [show ((0 : Nat) : Int) = 0 from rfl] at this
  rw [this]
  cases (List.range' 0 l.length).all (occGood l)
  · simp
  · simp only [if_true, Option.bind_some, Bool.true_and, Option.some.injEq]
    rw [Bool.eq_iff_iff]; simp; omega
theorem spec_OccsOk_loop (k : Nat) (l : List GOcc) (hl : l.length < 4611686018427387904) (m : Nat) (hm : IdsLe l m) (hm2 : m < 4611686018427387904) (hk : m + 1 ≤ k) : ∀ (d n i : Nat), i + d = l.length → d < n →
    spec_OccsOk.l0 k l n (i : Int) = some (if (List.range' i d).all (occGood l) then .ok () else .error false) := by
  intro d
  induction d with
  | zero =>
    intro n i hi hn
    obtain ⟨n, rfl⟩ : ∃ m, n = m + 1 := ⟨n - 1, by omega⟩
    rw [spec_OccsOk.l0, if_neg (by omega)]; simp
  | succ d ih =>
    intro n i hi hn
    obtain ⟨n, rfl⟩ : ∃ m, n = m + 1 := ⟨n - 1, by omega⟩
    have hlt : i < l.length := by omega
    have hnext := ih n (i + 1) (by omega) (by omega)
    have hb := hm l[i] (List.getElem_mem hlt)
    rw [spec_OccsOk.l0, if_pos (by omega), req_pos (by omega), Int.toNat_natCast, List.getElem?_eq_getElem hlt]
    simp only [Option.bind_some, spec_OccOk_eq l[i] (by omega) k (by omega), List.range'_succ, List.all_cons]
    have hg : occGood l i = (occOk l[i] && occPrev l l[i] i) := by unfold occGood; rw [List.getElem?_eq_getElem hlt]
    rw [hg]
    cases hok : occOk l[i]
    · simp
    · cases i with
      | zero => simp only [if_true]; rw [if_neg (by omega), wrS 0 (by omega), hnext]; simp only [occPrev, Bool.true_and]
      | succ j =>
        simp only [if_true]
        have hb2 := hm l[j] (List.getElem_mem (by omega))
        rw [if_pos (by omega)]
        simp only [wrP j (by omega)]
        rw [req_pos (by omega), Int.toNat_natCast, List.getElem?_eq_getElem (show j < l.length by omega)]
        simp only [Option.bind_some]
        rw [req_pos (by omega)]
        simp only [spec_OccLess_eq l[j] l[j + 1] (by omega) k (by omega), Option.bind_some]
        have hp : occPrev l l[j + 1] (j + 1) = occLess l[j] l[j + 1] := by simp only [occPrev, List.getElem?_eq_getElem (show j < l.length by omega)]
        rw [hp]
        cases occLess l[j] l[j + 1]
        · simp
        · simp only [if_true]; rw [wrS (j + 1) (by omega), hnext]; simp only [Bool.true_and]
theorem spec_OccsOk_eq (l : List GOcc) (hl : l.length < 4611686018427387904) (m : Nat) (hm : IdsLe l m) (hm2 : m < 4611686018427387904) (k : Nat) (hk : m + l.length + 1 ≤ k) : spec_OccsOk.f k l = some (occsOk l) := by
  unfold spec_OccsOk.f occsOk
  by_cases h : (40 : Int) < l.length
  · rw [if_pos h]; have : ¬ l.length ≤ 40 := by omega
    simp [this]
  · rw [if_neg h]
    have := spec_OccsOk_loop k l hl m hm hm2 (by omega) l.length k 0 (by omega) (by omega)
    rw [show ((0 : Nat) : Int) = 0 from rfl] at this
    rw [this]
    have h' : l.length ≤ 40 := by omega
    cases (List.range' 0 l.length).all (occGood l) <;> simp [h']
theorem occsOk_len {l : List GOcc} (h : occsOk l = true) : l.length ≤ 40 := by unfold occsOk at h; simp at h; exact h.2
theorem occsOk_at {l : List GOcc} (h : occsOk l = true) {i : Nat} (hi : i < l.length) : occOk l[i] = true ∧ occPrev l l[i] i = true := by
  unfold occsOk at h
  simp only [Bool.and_eq_true, List.all_eq_true, List.mem_range'] at h
  have := h.1 i ⟨i, by omega, by omega⟩
  unfold occGood at this
  rw [List.getElem?_eq_getElem hi] at this
  simpa using this
theorem occOk_ids {o : GOcc} (h : occOk o = true) : o.Ids.length ≤ 24 ∧ 1 ≤ o.From ∧ o.From ≤ o.To ∧ o.To ≤ 2000 := by
  unfold occOk at h
  simp only [Bool.and_eq_true, decide_eq_true_eq] at h
  have := idsUp_len o.Ids (-1) (by omega) (by omega) h.2
  omega
theorem occsOk_all {l : List GOcc} (h : occsOk l = true) : ∀ o ∈ l, o.Ids.length ≤ 24 ∧ 1 ≤ o.From ∧ o.From ≤ o.To ∧ o.To ≤ 2000 := fun o ho => by
  obtain ⟨i, hi, rfl⟩ := List.mem_iff_getElem.1 ho
  exact occOk_ids (occsOk_at h hi).1
/- The order of occurrences; ordered lists, and an occurrence put into one. -/
theorem lexCmp_zero : ∀ a b, lexCmp a b = 0 → a = b
  | [], [], _ => rfl
  | [], _ :: _, h => by simp [lexCmp] at h
  | _ :: _, [], h => by simp [lexCmp] at h
  | x :: xs, y :: ys, h => by
    unfold lexCmp at h
    split at h
    · cases h
    split at h
    · cases h
    rw [lexCmp_zero xs ys h, show x = y by omega]
theorem lexCmp_anti : ∀ a b, lexCmp a b = - lexCmp b a
  | [], [] => rfl
  | [], _ :: _ => rfl
  | _ :: _, [] => rfl
  | x :: xs, y :: ys => by
    unfold lexCmp
    by_cases h1 : x < y
    · rw [if_pos h1, if_neg (by omega), if_pos h1]
    by_cases h2 : y < x
    · rw [if_neg h1, if_pos h2, if_pos h2]; rfl
    rw [if_neg h1, if_neg h2, if_neg h2, if_neg h1]; exact lexCmp_anti xs ys
theorem lexCmp_trans : ∀ a b c, lexCmp a b < 0 → lexCmp b c < 0 → lexCmp a c < 0
  | [], [], _, h, _ => by simp [lexCmp] at h
  | _ :: _, [], _, h, _ => by simp [lexCmp] at h
  | _, _ :: _, [], _, h => by simp [lexCmp] at h
  | [], _ :: _, _ :: _, _, _ => by simp [lexCmp]
  | x :: xs, y :: ys, z :: zs, h, k => by
    unfold lexCmp at h k ⊢
    by_cases h1 : x < y
    · by_cases k1 : y < z
      · rw [if_pos (by omega)]; omega
      · rw [if_neg k1] at k
        split at k
        · omega
        · rw [if_pos (by omega)]; omega
    · rw [if_neg h1] at h
      split at h
      · omega
      · by_cases k1 : y < z
        · rw [if_pos (by omega)]; omega
        · rw [if_neg k1] at k
          split at k
          · omega
          · rw [if_neg (by omega), if_neg (by omega)]; exact lexCmp_trans xs ys zs h k
theorem sgn_val (b : Bool) : sgn b = if b then -1 else 1 := rfl
theorem occCmp_zero {a b : GOcc} (h : occCmp a b = 0) : a = b := by
  unfold occCmp at h
  split at h
  · split at h
    · obtain ⟨a1, a2, a3⟩ := a; obtain ⟨b1, b2, b3⟩ := b
      have := lexCmp_zero _ _ h
      simp_all
    · unfold sgn at h; split at h <;> cases h
  · unfold sgn at h; split at h <;> cases h
theorem occCmp_anti (a b : GOcc) : occCmp a b = - occCmp b a := by
  unfold occCmp sgn
  by_cases h1 : a.To = b.To
  · rw [if_pos h1, if_pos h1.symm]
    by_cases h2 : a.From = b.From
    · rw [if_pos h2, if_pos h2.symm]; exact lexCmp_anti _ _
    · rw [if_neg h2, if_neg (show ¬ b.From = a.From from fun e => h2 e.symm)]
      by_cases h3 : a.From < b.From
      · have : ¬ b.From < a.From := by omega
        simp [h3, this]
      · have : b.From < a.From := by omega
        simp [h3, this]
  · rw [if_neg h1, if_neg (show ¬ b.To = a.To from fun e => h1 e.symm)]
    by_cases h3 : a.To < b.To
    · have : ¬ b.To < a.To := by omega
      simp [h3, this]
    · have : b.To < a.To := by omega
      simp [h3, this]
theorem occCmp_lt (a b : GOcc) : occCmp a b < 0 ↔ a.To < b.To ∨ (a.To = b.To ∧ (a.From < b.From ∨ (a.From = b.From ∧ lexCmp a.Ids b.Ids < 0))) := by
  unfold occCmp sgn
  by_cases h1 : a.To = b.To
  · rw [if_pos h1]
    by_cases h2 : a.From = b.From
    · rw [if_pos h2]; simp [h1, h2]
    · rw [if_neg h2]
      by_cases h3 : a.From < b.From
      · simp [h1, h3]
      · simp [h1, h2, h3]
  · rw [if_neg h1]
    by_cases h3 : a.To < b.To
    · simp [h3]
    · simp [h1, h3]
theorem occLess_trans {a b c : GOcc} (h : occLess a b = true) (k : occLess b c = true) : occLess a c = true := by
  unfold occLess at *
  simp only [decide_eq_true_eq] at *
  rw [occCmp_lt] at *
  rcases h with h | ⟨h1, h⟩
  · rcases k with k | ⟨k1, k⟩
    · exact .inl (by omega)
    · exact .inl (by omega)
  · rcases k with k | ⟨k1, k⟩
    · exact .inl (by omega)
    · refine .inr ⟨by omega, ?_⟩
      rcases h with h | ⟨h2, h⟩
      · rcases k with k | ⟨k2, k⟩
        · exact .inl (by omega)
        · exact .inl (by omega)
      · rcases k with k | ⟨k2, k⟩
        · exact .inl (by omega)
        · exact .inr ⟨by omega, lexCmp_trans _ _ _ h k⟩
theorem occLess_irrefl (a : GOcc) : occLess a a = false := by unfold occLess; rw [occCmp_refl]; rfl
theorem occLess_asymm {a b : GOcc} (h : occLess a b = true) : occLess b a = false := by
  unfold occLess at *
  simp only [decide_eq_true_eq, decide_eq_false_iff_not] at *
  have := occCmp_anti a b
  omega
theorem occLess_total {a b : GOcc} (h : occLess a b = false) (hne : a ≠ b) : occLess b a = true := by
  unfold occLess at *
  simp only [decide_eq_true_eq, decide_eq_false_iff_not] at *
  have := occCmp_anti a b
  have : occCmp a b ≠ 0 := fun e => hne (occCmp_zero e)
  omega
/-- an ordered list -/
def Asc (l : List GOcc) : Prop := l.Pairwise fun a b => occLess a b = true
def putM : List GOcc → GOcc → List GOcc
  | [], o => [o]
  | x :: l, o => if occLess x o then x :: putM l o else if occCmp x o = 0 then x :: l else o :: x :: l
def mergeM (l m : List GOcc) : List GOcc := m.foldl putM l
theorem mem_putM {x o : GOcc} : ∀ {l : List GOcc}, x ∈ putM l o ↔ x ∈ l ∨ x = o
  | [] => by simp [putM]
  | y :: l => by
    unfold putM
    split
    · simp only [List.mem_cons, mem_putM (l := l), or_assoc]
    · split
      · rename_i h
        have := occCmp_zero h
        subst this
        simp only [List.mem_cons]
        constructor
        · exact fun h => .inl h
        · rintro (h | rfl)
          · exact h
          · exact .inl rfl
      · simp only [List.mem_cons]
        constructor
        · rintro (h | h)
          · exact .inr h
          · exact .inl h
        · rintro (h | h)
          · exact .inr h
          · exact .inl h
theorem asc_putM {o : GOcc} : ∀ {l : List GOcc}, Asc l → Asc (putM l o)
  | [], _ => by simp [putM, Asc]
  | y :: l, h => by
    have h' := List.pairwise_cons.1 h
    unfold putM
    split
    · rename_i h1
      refine List.pairwise_cons.2 ⟨fun z hz => ?_, asc_putM h'.2⟩
      rcases mem_putM.1 hz with h2 | rfl
      · exact h'.1 z h2
      · exact h1
    · split
      · exact h
      · rename_i h1 h2
        have h3 : occLess o y = true := occLess_total (by simpa using h1) (fun e => h2 (by rw [e]; exact occCmp_refl _))
        refine List.pairwise_cons.2 ⟨fun z hz => ?_, h⟩
        rcases List.mem_cons.1 hz with rfl | h4
        · exact h3
        · exact occLess_trans h3 (h'.1 z h4)
theorem length_putM (o : GOcc) : ∀ l : List GOcc, (putM l o).length ≤ l.length + 1
  | [] => by simp [putM]
  | y :: l => by
    have := length_putM o l
    unfold putM
    split
    · simp; omega
    · split <;> simp
theorem mergeM_cons (l : List GOcc) (x : GOcc) (m : List GOcc) : mergeM l (x :: m) = mergeM (putM l x) m := rfl
theorem asc_mergeM : ∀ {m l : List GOcc}, Asc l → Asc (mergeM l m)
  | [], _, h => h
  | x :: m, l, h => by rw [mergeM_cons]; exact asc_mergeM (asc_putM h)
theorem length_mergeM : ∀ (m l : List GOcc), (mergeM l m).length ≤ l.length + m.length
  | [], _ => by simp [mergeM]
  | x :: m, l => by rw [mergeM_cons]; have := length_mergeM m (putM l x); have := length_putM x l; simp; omega
theorem mem_mergeM {x : GOcc} : ∀ {m l : List GOcc}, x ∈ mergeM l m ↔ x ∈ l ∨ x ∈ m
  | [], l => by simp [mergeM]
  | y :: m, l => by rw [mergeM_cons, mem_mergeM, mem_putM, List.mem_cons, or_assoc]
/-- where one stands or would stand -/
def rank (l : List GOcc) (o : GOcc) : Nat := (l.takeWhile fun x => occLess x o).length
theorem rank_le (l : List GOcc) (o : GOcc) : rank l o ≤ l.length := by unfold rank; exact (List.takeWhile_prefix _).length_le
theorem putM_rank (o : GOcc) : ∀ l : List GOcc, putM l o = if ∃ x, l[rank l o]? = some x ∧ occCmp x o = 0 then l else l.take (rank l o) ++ [o] ++ l.drop (rank l o)
  | [] => by simp [putM, rank]
  | y :: l => by
    unfold putM
    by_cases h : occLess y o = true
    · have e : rank (y :: l) o = rank l o + 1 := by unfold rank; rw [List.takeWhile_cons, if_pos h]; rfl
      rw [if_pos h, e, putM_rank o l]
      simp only [List.getElem?_cons_succ, List.take_succ_cons, List.drop_succ_cons]
      split <;> rfl
    · have e : rank (y :: l) o = 0 := by unfold rank; rw [List.takeWhile_cons, if_neg h]; rfl
      rw [if_neg h, e]
      simp only [List.getElem?_cons_zero, List.take_zero, List.drop_zero, Option.some.injEq, exists_eq_left']
      rfl
theorem rank_less {o : GOcc} : ∀ {l : List GOcc} {i : Nat}, i < rank l o → ∃ x, l[i]? = some x ∧ occLess x o = true
  | [], i, h => by simp [rank] at h
  | y :: l, i, h => by
    by_cases hy : occLess y o = true
    · have e : rank (y :: l) o = rank l o + 1 := by unfold rank; rw [List.takeWhile_cons, if_pos hy]; rfl
      cases i with
      | zero => exact ⟨y, rfl, hy⟩
      | succ i => rw [e] at h; exact rank_less (l := l) (i := i) (by omega)
    · have e : rank (y :: l) o = 0 := by unfold rank; rw [List.takeWhile_cons, if_neg hy]; rfl
      rw [e] at h; omega
theorem rank_end {l : List GOcc} {o : GOcc} (h : rank l o < l.length) : occLess l[rank l o] o = false := by
  induction l with
  | nil => simp at h
  | cons y l ih =>
    by_cases hy : occLess y o = true
    · have e : rank (y :: l) o = rank l o + 1 := by unfold rank; rw [List.takeWhile_cons, if_pos hy]; rfl
      have := ih (by rw [e] at h; simpa using h)
      simp only [e, List.getElem_cons_succ]
      exact this
    · have e : rank (y :: l) o = 0 := by unfold rank; rw [List.takeWhile_cons, if_neg hy]; rfl
      simp only [e, List.getElem_cons_zero]
      simpa using hy
theorem asc_ge {l : List GOcc} {o : GOcc} (hs : Asc l) {i : Nat} (h1 : rank l o ≤ i) (h2 : i < l.length) : occLess l[i] o = false := by
  have h3 := rank_end (l := l) (o := o) (by omega)
  rcases Nat.lt_or_ge (rank l o) i with h4 | h4
  · have h5 : occLess l[rank l o] l[i] = true := List.pairwise_iff_getElem.1 hs _ _ _ _ h4
    cases h6 : occLess l[i] o
    · rfl
    · rw [occLess_trans h5 h6] at h3; cases h3
  · have : i = rank l o := by omega
    subst this; exact h3
/-- a loop over a list -/
theorem loop_fold {α σ : Type} (l : List α) (body : σ → α → Option σ) (L : Nat → σ → Int → Option σ) (g : σ → α → σ) (Inv : Nat → σ → Prop)
    (hend : ∀ n s, L (n + 1) s (l.length : Int) = some s)
    (hstep : ∀ n s (i : Nat) (h : i < l.length), L (n + 1) s (i : Int) = (body s l[i]).bind fun s' => L n s' ((i + 1 : Nat) : Int))
    (hbody : ∀ i s (h : i < l.length), Inv i s → body s l[i] = some (g s l[i]) ∧ Inv (i + 1) (g s l[i])) :
    ∀ (d i n : Nat) (s : σ), i + d = l.length → d < n → Inv i s → L n s (i : Int) = some ((l.drop i).foldl g s) ∧ Inv l.length ((l.drop i).foldl g s) := by
  intro d
  induction d with
  | zero =>
    intro i n s hi hn hI
    obtain ⟨n, rfl⟩ : ∃ m, n = m + 1 := ⟨n - 1, by omega⟩
    have e : i = l.length := by omega
    subst e
    rw [hend, List.drop_length]
    exact ⟨rfl, hI⟩
  | succ d ih =>
    intro i n s hi hn hI
    obtain ⟨n, rfl⟩ : ∃ m, n = m + 1 := ⟨n - 1, by omega⟩
    have hlt : i < l.length := by omega
    obtain ⟨h1, h2⟩ := hbody i s hlt hI
    rw [hstep n s i hlt, h1, List.drop_eq_getElem_cons hlt]
    exact ih (i + 1) n _ (by omega) (by omega) h2
theorem loop_fold0 {α σ : Type} (l : List α) (body : σ → α → Option σ) (L : Nat → σ → Int → Option σ) (g : σ → α → σ) (Inv : Nat → σ → Prop)
    (hend : ∀ n s, L (n + 1) s (l.length : Int) = some s)
    (hstep : ∀ n s (i : Nat) (h : i < l.length), L (n + 1) s (i : Int) = (body s l[i]).bind fun s' => L n s' ((i + 1 : Nat) : Int))
    (hbody : ∀ i s (h : i < l.length), Inv i s → body s l[i] = some (g s l[i]) ∧ Inv (i + 1) (g s l[i])) (n : Nat) (s : σ) (hn : l.length < n) (hI : Inv 0 s) :
    L n s 0 = some (l.foldl g s) ∧ Inv l.length (l.foldl g s) := by
  have := loop_fold l body L g Inv hend hstep hbody l.length 0 n s (by omega) hn hI
  simpa using this
/-- the numbers of one are few -/
abbrev Few (o : GOcc) : Prop := o.Ids.length ≤ 1000
abbrev Fews (l : List GOcc) : Prop := ∀ o ∈ l, Few o
theorem cmp_k (a b : GOcc) (ha : Few a) (k : Nat) (hk : 1000000000000 ≤ k) : impl_compare.f k a b = some (occCmp a b) := impl_compare_eq a b (by omega) k (by omega)
theorem less_k (a b : GOcc) (ha : Few a) (k : Nat) (hk : 1000000000000 ≤ k) : spec_OccLess.f k a b = some (occLess a b) := spec_OccLess_eq a b (by omega) k (by omega)
theorem same_k (a b : GOcc) (ha : Few a) (k : Nat) (hk : 1000000000000 ≤ k) : spec_l3Same.f k a b = some (decide (occCmp a b = 0)) := by
  unfold spec_l3Same.f occCmp sgn
  rw [l3Ids_eq _ _ (by omega) k (by omega)]
  by_cases h1 : a.From = b.From
  · rw [if_pos h1]
    by_cases h2 : a.To = b.To
    · rw [if_pos h2, if_pos h2, if_pos h1]
      by_cases h3 : (a.Ids.length : Int) = b.Ids.length
      · rw [if_pos h3]; simp only [Option.bind_some]
        rw [Option.some.injEq, Bool.eq_iff_iff]; simp
      · rw [if_neg h3]
        have : lexCmp a.Ids b.Ids ≠ 0 := fun e => h3 (by rw [lexCmp_zero _ _ e])
        simp [this]
    · rw [if_neg h2, if_neg h2]; split <;> simp
  · rw [if_neg h1]
    by_cases h2 : a.To = b.To
    · rw [if_pos h2, if_neg h1]; split <;> simp
    · rw [if_neg h2]; split <;> simp
/- An occurrence put into an ordered list: both programs. Merges, copies, alternatives. -/
theorem mid_eq (a b : Nat) (h : a + b < 1000000000000000) : IntKind.wrap .i64 (binOf .shr .u64 (IntKind.wrap .u64 (IntKind.wrap .i64 ((a : Int) + (b : Int)))) 1) = (((a + b) / 2 : Nat) : Int) := by
  rw [show IntKind.wrap .i64 ((a : Int) + (b : Int)) = (a : Int) + (b : Int) from wr _ (by omega)]
  have e : IntKind.wrap .u64 ((a : Int) + (b : Int)) = (a : Int) + (b : Int) := by
    show ((a : Int) + (b : Int)) % 18446744073709551616 = _
    exact Int.emod_eq_of_lt (by omega) (by omega)
  rw [e]
  have e2 : binOf .shr .u64 ((a : Int) + (b : Int)) 1 = ((a : Int) + (b : Int)).fdiv 2 := rfl
  rw [e2, Int.fdiv_eq_ediv_of_nonneg _ (by omega), wr _ (by omega)]
  omega
theorem bs_loop (k : Nat) (hk : 1000000000000 ≤ k) (l : List GOcc) (o : GOcc) (hl : l.length ≤ 1000000000000) (hf : Fews l) (hs : Asc l) : ∀ (d a b n : Nat), b - a ≤ d → a ≤ rank l o → rank l o ≤ b → b ≤ l.length → d < n →
    slices_BinarySearchFunc.l0 k (fun y0 y1 => impl_compare.f k y0 y1) l o n (a : Int) (b : Int) = some ((rank l o : Nat) : Int) := by
  intro d
  induction d with
  | zero =>
    intro a b n h1 h2 h3 h4 hn
    obtain ⟨n, rfl⟩ : ∃ m, n = m + 1 := ⟨n - 1, by omega⟩
    rw [slices_BinarySearchFunc.l0, if_neg (by omega), show a = rank l o by omega]
  | succ d ih =>
    intro a b n h1 h2 h3 h4 hn
    obtain ⟨n, rfl⟩ : ∃ m, n = m + 1 := ⟨n - 1, by omega⟩
    by_cases h : a < b
    · have hm : (a + b) / 2 < l.length := by omega
      rw [slices_BinarySearchFunc.l0, if_pos (by omega), mid_eq a b (by omega), req_pos (by omega), req_pos (by omega), Int.toNat_natCast, List.getElem?_eq_getElem hm]
      simp only [Option.bind_some, cmp_k _ o (hf _ (List.getElem_mem hm)) k hk]
      by_cases hc : occCmp l[(a + b) / 2] o < 0
      · rw [if_pos hc, wrS _ (by omega)]
        refine ih _ b n (by omega) ?_ h3 h4 (by omega)
        rcases Nat.lt_or_ge ((a + b) / 2) (rank l o) with h5 | h5
        · omega
        · have := asc_ge hs h5 hm
          unfold occLess at this
          simp at this
          omega
      · rw [if_neg hc]
        refine ih a _ n (by omega) h2 ?_ (by omega) (by omega)
        rcases Nat.lt_or_ge ((a + b) / 2) (rank l o) with h5 | h5
        · obtain ⟨x, e1, e2⟩ := rank_less h5
          rw [List.getElem?_eq_getElem hm, Option.some.injEq] at e1
          subst e1
          unfold occLess at e2
          simp at e2
          omega
        · exact h5
    · rw [slices_BinarySearchFunc.l0, if_neg (by omega), show a = rank l o by omega]
theorem bs_eq (k : Nat) (hk : 1000000000000 ≤ k) (l : List GOcc) (o : GOcc) (hl : l.length ≤ 100000000000) (hf : Fews l) (hs : Asc l) :
    slices_BinarySearchFunc.f (fun y0 y1 => impl_compare.f k y0 y1) k l o = some (((rank l o : Nat) : Int), decide (∃ x, l[rank l o]? = some x ∧ occCmp x o = 0)) := by
  unfold slices_BinarySearchFunc.f
  have hr := rank_le l o
  have := bs_loop k hk l o (by omega) hf hs l.length 0 l.length k (by omega) (by omega) hr (Nat.le_refl _) (by omega)
  rw [show ((0 : Nat) : Int) = 0 from rfl] at this
  rw [this]
  simp only [Option.bind_some]
  by_cases h : rank l o < l.length
  · rw [if_pos (by omega), req_pos (by omega), Int.toNat_natCast, List.getElem?_eq_getElem h]
    simp only [Option.bind_some, cmp_k _ o (hf _ (List.getElem_mem h)) k hk, Option.some.injEq, Prod.mk.injEq, true_and]
    rw [Bool.eq_iff_iff]
    simp
  · rw [if_neg (by omega), List.getElem?_eq_none (by omega)]
    simp
theorem impl_put_eq (k : Nat) (hk : 1000000000000 ≤ k) (l : List GOcc) (o : GOcc) (hl : l.length ≤ 100000000000) (hf : Fews l) (hs : Asc l) : impl_put.f k l o = some (putM l o) := by
  unfold impl_put.f
  rw [bs_eq k hk l o hl hf hs]
  simp only [Option.bind_some]
  have hr := rank_le l o
  by_cases h : ∃ x, l[rank l o]? = some x ∧ occCmp x o = 0
  · rw [if_pos (by simpa using h), putM_rank, if_pos h]
  · rw [if_neg (by simpa using h), putM_rank, if_neg h]
    unfold slices_Clone.f slices_Insert.f
    rw [req_pos (by omega)]
    simp only [Option.bind_some]
    rw [req_pos (by omega), req_pos (by omega), req_pos (show [o].length = 1 from rfl), req_pos (by omega)]
    rfl
theorem spec_put_loop (k : Nat) (hk : 1000000000000 ≤ k) (l : List GOcc) (o : GOcc) (hl : l.length ≤ 100000000000) (hf : Fews l) : ∀ (d i n : Nat), i + d = rank l o → d < n →
    spec_l3Put.l0 k l o n (i : Int) = some ((rank l o : Nat) : Int) := by
  have hr := rank_le l o
  intro d
  induction d with
  | zero =>
    intro i n h1 hn
    obtain ⟨n, rfl⟩ : ∃ m, n = m + 1 := ⟨n - 1, by omega⟩
    have e : i = rank l o := by omega
    subst e
    by_cases h : rank l o < l.length
    · have h2 := rank_end h
      rw [spec_l3Put.l0, if_pos (by omega), req_pos (by omega), req_pos (by omega), Int.toNat_natCast, List.getElem?_eq_getElem h]
      simp only [Option.bind_some, less_k _ o (hf _ (List.getElem_mem h)) k hk, h2, Bool.false_eq_true, if_false]
    · rw [spec_l3Put.l0, if_neg (by omega)]
  | succ d ih =>
    intro i n h1 hn
    obtain ⟨n, rfl⟩ : ∃ m, n = m + 1 := ⟨n - 1, by omega⟩
    have h : i < l.length := by omega
    obtain ⟨x, e1, e2⟩ := rank_less (l := l) (o := o) (i := i) (by omega)
    rw [List.getElem?_eq_getElem h, Option.some.injEq] at e1
    subst e1
    rw [spec_l3Put.l0, if_pos (by omega), req_pos (by omega), req_pos (by omega), Int.toNat_natCast, List.getElem?_eq_getElem h]
    simp only [Option.bind_some, less_k _ o (hf _ (List.getElem_mem h)) k hk, e2, if_true]
    rw [wrS i (by omega)]
    exact ih (i + 1) n (by omega) (by omega)
theorem copy_k (o : GOcc) (h : Few o) : spec_l3Copy.f o = some o := by
  unfold spec_l3Copy.f; rw [req_pos (by omega)]; rfl
theorem clone_k (o : GOcc) (h : Few o) : impl_Occ_clone.f o = some o := by
  unfold impl_Occ_clone.f; exact req_pos (by omega)
theorem spec_put_eq (k : Nat) (hk : 1000000000000 ≤ k) (l : List GOcc) (o : GOcc) (hl : l.length ≤ 100000000000) (hf : Fews l) (ho : Few o) : spec_l3Put.f k l o = some (putM l o) := by
  unfold spec_l3Put.f
  have hr := rank_le l o
  have := spec_put_loop k hk l o hl hf (rank l o) 0 k (by omega) (by omega)
  rw [show ((0 : Nat) : Int) = 0 from rfl] at this
  rw [this]
  simp only [Option.bind_some]
  by_cases h : rank l o < l.length
  · rw [if_pos (by omega), req_pos (by omega), req_pos (by omega), Int.toNat_natCast, List.getElem?_eq_getElem h]
    simp only [Option.bind_some, same_k _ o (hf _ (List.getElem_mem h)) k hk]
    by_cases h2 : occCmp l[rank l o] o = 0
    · rw [if_pos (by simpa using h2), putM_rank, if_pos ⟨_, List.getElem?_eq_getElem h, h2⟩]
    · rw [if_neg (by simpa using h2), putM_rank, if_neg (fun ⟨x, e1, e2⟩ => h2 (by rw [List.getElem?_eq_getElem h, Option.some.injEq] at e1; rw [e1]; exact e2))]
      repeat rw [req_pos (by omega)]
      rw [copy_k o ho]
      simp only [Option.bind_some]
      repeat rw [req_pos (by omega)]
      try rw [Int.toNat_natCast]
      rw [show (([] : List GOcc) ++ (l.drop (rank l o)).take ((l.length : Int) - ((rank l o : Nat) : Int)).toNat) = l.drop (rank l o) from List.take_of_length_le (by rw [List.length_drop]; omega)]
  · rw [if_neg (by omega), putM_rank, if_neg (fun ⟨x, e1, e2⟩ => by rw [List.getElem?_eq_none (by omega)] at e1; cases e1)]
    repeat rw [req_pos (by omega)]
    rw [copy_k o ho]
    simp only [Option.bind_some]
    repeat rw [req_pos (by omega)]
    try rw [Int.toNat_natCast]
    rw [show (([] : List GOcc) ++ (l.drop (rank l o)).take ((l.length : Int) - ((rank l o : Nat) : Int)).toNat) = l.drop (rank l o) from List.take_of_length_le (by rw [List.length_drop]; omega)]
theorem fews_putM {l : List GOcc} {o : GOcc} (h : Fews l) (ho : Few o) : Fews (putM l o) := fun x hx => by
  rcases mem_putM.1 hx with h1 | rfl
  · exact h x h1
  · exact ho
theorem fews_mergeM {l m : List GOcc} (h : Fews l) (hm : Fews m) : Fews (mergeM l m) := fun x hx => by
  rcases mem_mergeM.1 hx with h1 | h1
  · exact h x h1
  · exact hm x h1
theorem impl_putAll_eq (k : Nat) (hk : 1000000000000 ≤ k) (l m : List GOcc) (hl : l.length + m.length ≤ 90000000000) (hf : Fews l) (hm : Fews m) (hs : Asc l) : impl_putAll.f k l m = some (mergeM l m) := by
  unfold impl_putAll.f
  have := loop_fold0 m (fun s e => impl_put.f k s e) (impl_putAll.l0 k m) putM (fun i s => s.length ≤ l.length + i ∧ Fews s ∧ Asc s)
    (fun n s => by rw [impl_putAll.l0, if_neg (by omega)])
    (fun n s i h => by rw [impl_putAll.l0, if_pos (by omega), req_pos (by omega), Int.toNat_natCast, List.getElem?_eq_getElem h]; simp only [Option.bind_some]; rw [wrS i (by omega)])
    (fun i s h hI => ⟨impl_put_eq k hk s _ (by omega) hI.2.1 hI.2.2, by have := length_putM m[i] s; omega, fews_putM hI.2.1 (hm _ (List.getElem_mem h)), asc_putM hI.2.2⟩)
    k l (by omega) ⟨by omega, hf, hs⟩
  rw [this.1]; rfl
theorem spec_merge_eq (k : Nat) (hk : 1000000000000 ≤ k) (l m : List GOcc) (hl : l.length + m.length ≤ 90000000000) (hf : Fews l) (hm : Fews m) : spec_l4Merge.f k l m = some (mergeM l m) := by
  unfold spec_l4Merge.f
  have := loop_fold0 m (fun s e => spec_l3Put.f k s e) (spec_l4Merge.l0 k m) putM (fun i s => s.length ≤ l.length + i ∧ Fews s)
    (fun n s => by rw [spec_l4Merge.l0, if_neg (by omega)])
    (fun n s i h => by rw [spec_l4Merge.l0, if_pos (by omega), req_pos (by omega), Int.toNat_natCast, List.getElem?_eq_getElem h]; simp only [Option.bind_some]; rw [wrS i (by omega)])
    (fun i s h hI => ⟨spec_put_eq k hk s _ (by omega) hI.2 (hm _ (List.getElem_mem h)), by have := length_putM m[i] s; omega, fews_putM hI.2 (hm _ (List.getElem_mem h))⟩)
    k l (by omega) ⟨by omega, hf⟩
  rw [this.1]; rfl
theorem fold_snoc {α : Type} (l acc : List α) : l.foldl (fun s e => s ++ [e]) acc = acc ++ l := by
  induction l generalizing acc with
  | nil => simp
  | cons x l ih => rw [List.foldl_cons, ih]; simp
theorem cloneOccs_k (k : Nat) (hk : 1000000000000 ≤ k) (l : List GOcc) (hl : l.length ≤ 90000000000) (hf : Fews l) : impl_cloneOccs.f k l = some l := by
  unfold impl_cloneOccs.f
  have := loop_fold0 l (fun s e => (impl_Occ_clone.f e).bind fun x28 => (req ((s.length + 1) * 40 ≤ 140737488355328) (some (s ++ [x28])))) (impl_cloneOccs.l0 k l) (fun s e => s ++ [e]) (fun i s => s.length = i)
    (fun n s => by rw [impl_cloneOccs.l0, if_neg (by omega)])
    (fun n s i h => by
      rw [impl_cloneOccs.l0, if_pos (by omega), req_pos (by omega), Int.toNat_natCast, List.getElem?_eq_getElem h]; simp only [Option.bind_some]; rw [wrS i (by omega), clone_k _ (hf _ (List.getElem_mem h))]; simp only [Option.bind_some]
      unfold req; split <;> rfl)
    (fun i s h hI => ⟨by rw [clone_k _ (hf _ (List.getElem_mem h))]; simp only [Option.bind_some]; rw [req_pos (by omega)], by simp [hI]⟩)
    k [] (by omega) rfl
  rw [this.1, fold_snoc]; rfl
theorem spec_l3List_k (k : Nat) (hk : 1000000000000 ≤ k) (l : List GOcc) (hl : l.length ≤ 90000000000) (hf : Fews l) : spec_l3List.f k l = some l := by
  unfold spec_l3List.f
  have := loop_fold0 l (fun s e => (spec_l3Copy.f e).bind fun x28 => (req ((s.length + 1) * 40 ≤ 140737488355328) (some (s ++ [x28])))) (spec_l3List.l0 k l) (fun s e => s ++ [e]) (fun i s => s.length = i)
    (fun n s => by rw [spec_l3List.l0, if_neg (by omega)])
    (fun n s i h => by
      rw [spec_l3List.l0, if_pos (by omega), req_pos (by omega), Int.toNat_natCast, List.getElem?_eq_getElem h]; simp only [Option.bind_some]; rw [wrS i (by omega), copy_k _ (hf _ (List.getElem_mem h))]; simp only [Option.bind_some]
      unfold req; split <;> rfl)
    (fun i s h hI => ⟨by rw [copy_k _ (hf _ (List.getElem_mem h))]; simp only [Option.bind_some]; rw [req_pos (by omega)], by simp [hI]⟩)
    k [] (by omega) rfl
  rw [this.1, fold_snoc]; rfl
def told (l : List GOcc) : List GOcc × Bool := if 40 < l.length then ([], false) else (l, true)
theorem few_k (k : Nat) (hk : 1000000000000 ≤ k) (l : List GOcc) (hl : l.length ≤ 90000000000) (hf : Fews l) : impl_few.f k l = some (told l) := by
  unfold impl_few.f told
  by_cases h : 40 < l.length
  · rw [if_pos (by omega), if_pos h]
  · rw [if_neg (by omega), if_neg h, cloneOccs_k k hk l hl hf]; rfl
theorem told_k (k : Nat) (hk : 1000000000000 ≤ k) (l : List GOcc) (hl : l.length ≤ 90000000000) (hf : Fews l) : spec_l4Told.f k l = some (told l) := by
  unfold spec_l4Told.f told
  by_cases h : 40 < l.length
  · rw [if_pos (by omega), if_pos h]
  · rw [if_neg (by omega), if_neg h, spec_l3List_k k hk l hl hf]; rfl
theorem asc_of_ok {l : List GOcc} (h : occsOk l = true) : Asc l := by
  have step : ∀ i (hi : i + 1 < l.length), occLess l[i] l[i + 1] = true := fun i hi => by
    have := (occsOk_at h hi).2
    simpa only [occPrev, List.getElem?_eq_getElem (show i < l.length by omega)] using this
  have far : ∀ d i (hi : i + d + 1 < l.length), occLess l[i] l[i + d + 1] = true := fun d => by
    induction d with
    | zero => intro i hi; exact step i hi
    | succ d ih => intro i hi; exact occLess_trans (ih i (by omega)) (step (i + d + 1) hi)
  refine List.pairwise_iff_getElem.2 fun i j hi hj hij => ?_
  have := far (j - i - 1) i (by omega)
  have e : i + (j - i - 1) + 1 = j := by omega
  simp only [e] at this
  exact this
theorem fews_of_ok {l : List GOcc} (h : occsOk l = true) : Fews l := fun o ho => by have := occsOk_all h o ho; omega
def orM (a b : List GOcc) : List GOcc × Bool := if occsOk a = true ∧ occsOk b = true then told (mergeM a b) else ([], false)
/-- what stands in both programs for a list that was handed on -/
def Small (l : List GOcc) : Prop := l.length ≤ 1000000 ∧ Fews l
theorem impl_ok_k (k : Nat) (hk : 1000000000000 ≤ k) (l : List GOcc) (h : Small l) : impl_OccsOk.f k l = some (occsOk l) := impl_OccsOk_eq l (by have := h.1; omega) 1000 h.2 (by omega) k (by have := h.1; omega)
theorem spec_ok_k (k : Nat) (hk : 1000000000000 ≤ k) (l : List GOcc) (h : Small l) : spec_OccsOk.f k l = some (occsOk l) := spec_OccsOk_eq l (by have := h.1; omega) 1000 h.2 (by omega) k (by have := h.1; omega)
theorem impl_OrOf_eq (k : Nat) (hk : 1000000000000 ≤ k) (a b : List GOcc) (ha : Small a) (hb : Small b) : impl_OrOf.f k a b = some (orM a b) := by
  unfold impl_OrOf.f orM
  rw [impl_ok_k k hk a ha]
  simp only [Option.bind_some]
  by_cases h1 : occsOk a = true
  · rw [if_pos h1, impl_ok_k k hk b hb]
    simp only [Option.bind_some]
    by_cases h2 : occsOk b = true
    · have l1 := occsOk_len h1
      have l2 := occsOk_len h2
      have l3 := length_mergeM b a
      rw [if_pos h2, if_pos ⟨h1, h2⟩, impl_putAll_eq k hk a b (by omega) ha.2 hb.2 (asc_of_ok h1)]
      simp only [Option.bind_some]
      rw [few_k k hk _ (by omega) (fews_mergeM ha.2 hb.2)]; rfl
    · rw [if_neg h2, if_neg (fun x => h2 x.2)]
  · rw [if_neg h1, if_neg (fun x => h1 x.1)]
theorem spec_OrOf_eq (k : Nat) (hk : 1000000000000 ≤ k) (a b : List GOcc) (ha : Small a) (hb : Small b) : spec_OrOf.f k a b = some (orM a b) := by
  unfold spec_OrOf.f orM
  rw [spec_ok_k k hk a ha]
  simp only [Option.bind_some]
  by_cases h1 : occsOk a = true
  · rw [if_pos h1, spec_ok_k k hk b hb]
    simp only [Option.bind_some]
    by_cases h2 : occsOk b = true
    · have l1 := occsOk_len h1
      have l2 := occsOk_len h2
      have l3 := length_mergeM b a
      rw [if_pos h2, if_pos ⟨h1, h2⟩, spec_l3List_k k hk a (by omega) ha.2]
      simp only [Option.bind_some]
      rw [spec_merge_eq k hk a b (by omega) ha.2 hb.2]
      simp only [Option.bind_some]
      rw [told_k k hk _ (by omega) (fews_mergeM ha.2 hb.2)]; rfl
    · rw [if_neg h2, if_neg (fun x => h2 x.2)]
  · rw [if_neg h1, if_neg (fun x => h1 x.1)]
/- Two occurrences joined: both programs. -/
/-- numbers that rise -/
abbrev Up (l : List Int) : Prop := l.Pairwise fun a b => a < b
theorem up_ext : ∀ {a b : List Int}, Up a → Up b → (∀ x, x ∈ a ↔ x ∈ b) → a = b
  | [], [], _, _, _ => rfl
  | [], y :: b, _, _, h => by have := (h y).2 (by simp); simp at this
  | x :: a, [], _, _, h => by have := (h x).1 (by simp); simp at this
  | x :: a, y :: b, ha, hb, h => by
    obtain ⟨a1, a2⟩ := List.pairwise_cons.1 ha
    obtain ⟨b1, b2⟩ := List.pairwise_cons.1 hb
    have e : x = y := by
      have h1 := (h x).1 (by simp)
      have h2 := (h y).2 (by simp)
      rcases List.mem_cons.1 h1 with h1 | h1
      · exact h1
      · rcases List.mem_cons.1 h2 with h2 | h2
        · exact h2.symm
        · have := b1 x h1; have := a1 y h2; omega
    subst e
    rw [up_ext a2 b2 fun z => ?_]
    have hz := h z
    simp only [List.mem_cons] at hz
    constructor
    · intro h1
      rcases hz.1 (.inr h1) with h2 | h2
      · have := a1 z h1; omega
      · exact h2
    · intro h1
      rcases hz.2 (.inr h1) with h2 | h2
      · have := b1 z h1; omega
      · exact h2
def unionM : List Int → List Int → List Int
  | [], b => b
  | x :: a, [] => x :: a
  | x :: a, y :: b => if x < y then x :: unionM a (y :: b) else if x = y then y :: unionM a b else y :: unionM (x :: a) b
termination_by a b => a.length + b.length
theorem mem_unionM {z : Int} : ∀ {a b : List Int}, z ∈ unionM a b ↔ z ∈ a ∨ z ∈ b
  | [], b => by simp [unionM]
  | x :: a, [] => by simp [unionM]
  | x :: a, y :: b => by
    unfold unionM
    split
    · simp only [List.mem_cons, mem_unionM (a := a) (b := y :: b), or_assoc]
    · split
      · rename_i h
        subst h
        simp only [List.mem_cons, mem_unionM (a := a) (b := b)]
        constructor
        · rintro (h | h | h)
          · exact .inl (.inl h)
          · exact .inl (.inr h)
          · exact .inr (.inr h)
        · rintro ((h | h) | (h | h))
          · exact .inl h
          · exact .inr (.inl h)
          · exact .inl h
          · exact .inr (.inr h)
      · simp only [List.mem_cons, mem_unionM (a := x :: a) (b := b)]
        constructor
        · rintro (h | h | h)
          · exact .inr (.inl h)
          · exact .inl h
          · exact .inr (.inr h)
        · rintro (h | h | h)
          · exact .inr (.inl h)
          · exact .inl h
          · exact .inr (.inr h)
termination_by a b => a.length + b.length
theorem up_unionM : ∀ {a b : List Int}, Up a → Up b → Up (unionM a b)
  | [], b, _, h => by simpa [unionM] using h
  | x :: a, [], h, _ => by simpa [unionM] using h
  | x :: a, y :: b, ha, hb => by
    obtain ⟨a1, a2⟩ := List.pairwise_cons.1 ha
    obtain ⟨b1, b2⟩ := List.pairwise_cons.1 hb
    unfold unionM
    split
    · refine List.pairwise_cons.2 ⟨fun z hz => ?_, up_unionM a2 hb⟩
      rcases mem_unionM.1 hz with h | h
      · exact a1 z h
      · rcases List.mem_cons.1 h with rfl | h
        · assumption
        · have := b1 z h; omega
    · split
      · rename_i h1 h2
        refine List.pairwise_cons.2 ⟨fun z hz => ?_, up_unionM a2 b2⟩
        rcases mem_unionM.1 hz with h | h
        · have := a1 z h; omega
        · exact b1 z h
      · refine List.pairwise_cons.2 ⟨fun z hz => ?_, up_unionM ha b2⟩
        rcases mem_unionM.1 hz with h | h
        · rcases List.mem_cons.1 h with rfl | h
          · omega
          · have := a1 z h; omega
        · exact b1 z h
termination_by a b => a.length + b.length
theorem union_comm {a b : List Int} (ha : Up a) (hb : Up b) : unionM a b = unionM b a := up_ext (up_unionM ha hb) (up_unionM hb ha) fun x => by rw [mem_unionM, mem_unionM, or_comm]
theorem mem_uniq {z : Int} : ∀ {l : List Int}, z ∈ uniq l ↔ z ∈ l
  | [] => by simp [uniq]
  | [x] => by simp [uniq]
  | x :: y :: l => by
    have ih := mem_uniq (z := z) (l := y :: l)
    unfold uniq
    split
    · rename_i h
      subst h
      rw [ih]; simp
    · rw [List.mem_cons, ih, List.mem_cons (a := z) (b := x)]
theorem up_uniq : ∀ {l : List Int}, l.Pairwise (fun a b => a ≤ b) → Up (uniq l)
  | [], _ => by simp [uniq]
  | [x], _ => by simp [uniq]
  | x :: y :: l, h => by
    obtain ⟨h1, h2⟩ := List.pairwise_cons.1 h
    unfold uniq
    split
    · exact up_uniq h2
    · rename_i hne
      refine List.pairwise_cons.2 ⟨fun z hz => ?_, up_uniq h2⟩
      have hz' := mem_uniq.1 hz
      have a1 := h1 y (by simp)
      rcases List.mem_cons.1 hz' with rfl | h3
      · omega
      · have := (List.pairwise_cons.1 h2).1 z h3; omega
def sortM (l : List Int) : List Int := l.mergeSort fun x y => decide (x ≤ y)
theorem sortM_le (l : List Int) : (sortM l).Pairwise fun a b => a ≤ b := by
  have := List.pairwise_mergeSort (le := fun x y : Int => decide (x ≤ y)) (fun a b c h1 h2 => by simp at *; omega) (fun a b => by simp; omega) l
  exact this.imp fun h => by simpa using h
theorem mem_sortM {z : Int} {l : List Int} : z ∈ sortM l ↔ z ∈ l := (List.mergeSort_perm l _).mem_iff
theorem length_sortM (l : List Int) : (sortM l).length = l.length := List.length_mergeSort l
theorem union_sort {a b : List Int} (ha : Up a) (hb : Up b) : uniq (sortM (a ++ b)) = unionM a b := up_ext (up_uniq (sortM_le _)) (up_unionM ha hb) fun x => by rw [mem_uniq, mem_sortM, mem_unionM, List.mem_append]
/-- the numbers of an occurrence: rising, below 24 -/
def IdsOk (l : List Int) : Prop := Up l ∧ ∀ x ∈ l, 0 ≤ x ∧ x ≤ 23
theorem idsUp_iff : ∀ {l : List Int} {p : Int}, idsUp p l = true → Up l ∧ ∀ x ∈ l, p < x ∧ x ≤ 23
  | [], _, _ => by simp
  | x :: l, p, h => by
    unfold idsUp at h
    simp only [Bool.and_eq_true, decide_eq_true_eq] at h
    obtain ⟨a, b⟩ := idsUp_iff (l := l) (p := x) h.2
    refine ⟨List.pairwise_cons.2 ⟨fun y hy => (b y hy).1, a⟩, fun y hy => ?_⟩
    rcases List.mem_cons.1 hy with rfl | hy
    · omega
    · have := b y hy; omega
theorem idsOk_of {l : List Int} (h : idsUp (-1) l = true) : IdsOk l := by
  obtain ⟨a, b⟩ := idsUp_iff h
  exact ⟨a, fun x hx => by have := b x hx; omega⟩
theorem up_len : ∀ {l : List Int} {p : Int}, Up l → (∀ x ∈ l, p ≤ x ∧ x ≤ 23) → p ≤ 24 → (l.length : Int) ≤ 24 - p
  | [], p, _, _, h => by simp; omega
  | x :: l, p, h, k, _ => by
    obtain ⟨h1, h2⟩ := List.pairwise_cons.1 h
    have hx := k x (by simp)
    have := up_len (l := l) (p := x + 1) h2 (fun y hy => by have := h1 y hy; have := k y (by simp [hy]); omega) (by omega)
    simp; omega
theorem idsOk_len {l : List Int} (h : IdsOk l) : l.length ≤ 24 := by have := up_len (p := 0) h.1 h.2 (by omega); omega
theorem idsOk_union {a b : List Int} (ha : IdsOk a) (hb : IdsOk b) : IdsOk (unionM a b) := ⟨up_unionM ha.1 hb.1, fun x hx => by
  rcases mem_unionM.1 hx with h | h
  · exact ha.2 x h
  · exact hb.2 x h⟩
def joinM (a b : GOcc) : GOcc := ⟨min a.From b.From, max a.To b.To, unionM a.Ids b.Ids⟩
theorem joinM_comm {a b : GOcc} (ha : IdsOk a.Ids) (hb : IdsOk b.Ids) : joinM a b = joinM b a := by unfold joinM; rw [union_comm ha.1 hb.1, Int.min_comm, Int.max_comm]
theorem union_loop (k : Nat) (a b : List Int) (ha : a.length ≤ 1000) (hb : b.length ≤ 1000) : ∀ (d i j n : Nat) (acc : List Int), i + j + d = a.length + b.length → i ≤ a.length → j ≤ b.length → d < n → acc.length ≤ i + j →
    spec_l3Union.l0 k a b n acc (i : Int) (j : Int) = some (acc ++ unionM (a.drop i) (b.drop j)) := by
  intro d
  induction d using Nat.strongRecOn with
  | _ d ih =>
  intro i j n acc h1 h2 h3 hn hacc
  obtain ⟨n, rfl⟩ : ∃ m, n = m + 1 := ⟨n - 1, by omega⟩
  by_cases hi : i < a.length
  · by_cases hj : j < b.length
    · rw [spec_l3Union.l0, if_pos (by omega), if_pos (by omega), req_pos (by omega), Int.toNat_natCast, List.getElem?_eq_getElem hi]
      simp only [Option.bind_some]
      rw [req_pos (by omega), Int.toNat_natCast, List.getElem?_eq_getElem hj]
      simp only [Option.bind_some]
      rw [List.drop_eq_getElem_cons hi, List.drop_eq_getElem_cons hj]
      unfold unionM
      by_cases c1 : a[i] < b[j]
      · rw [if_pos c1, if_pos c1, req_pos (by omega), req_pos (by omega), wrS i (by omega), ih (d - 1) (by omega) (i + 1) j n _ (by omega) (by omega) h3 (by omega) (by simp; omega), List.append_assoc, ← List.drop_eq_getElem_cons hj]
        rfl
      · rw [if_neg c1, if_neg c1, req_pos (by omega), req_pos (by omega)]
        by_cases c2 : a[i] = b[j]
        · rw [if_pos c2, if_pos c2, req_pos (by omega), req_pos (by omega), wrS i (by omega), wrS j (by omega), ih (d - 2) (by omega) (i + 1) (j + 1) n _ (by omega) (by omega) (by omega) (by omega) (by simp; omega), List.append_assoc]
          rfl
        · rw [if_neg c2, if_neg c2, req_pos (by omega), req_pos (by omega), wrS j (by omega), ih (d - 1) (by omega) i (j + 1) n _ (by omega) h2 (by omega) (by omega) (by simp; omega), List.append_assoc, ← List.drop_eq_getElem_cons hi]
          rfl
    · rw [spec_l3Union.l0, if_pos (by omega), if_neg (by omega), req_pos (by omega), Int.toNat_natCast, List.getElem?_eq_getElem hi]
      simp only [Option.bind_some]
      rw [req_pos (by omega), wrS i (by omega), ih (d - 1) (by omega) (i + 1) j n _ (by omega) (by omega) h3 (by omega) (by simp; omega), List.drop_eq_nil_of_le (show b.length ≤ j by omega), List.drop_eq_getElem_cons hi, List.append_assoc]
      have e : ∀ l : List Int, unionM l [] = l := fun l => by cases l <;> simp [unionM]
      rw [e, e]; rfl
  · by_cases hj : j < b.length
    · rw [spec_l3Union.l0, if_neg (by omega), if_pos (by omega), req_pos (by omega), Int.toNat_natCast, List.getElem?_eq_getElem hj]
      simp only [Option.bind_some]
      rw [req_pos (by omega), wrS j (by omega), ih (d - 1) (by omega) i (j + 1) n _ (by omega) h2 (by omega) (by omega) (by simp; omega), List.drop_eq_nil_of_le (show a.length ≤ i by omega), List.drop_eq_getElem_cons hj, List.append_assoc]
      simp [unionM]
    · rw [spec_l3Union.l0, if_neg (by omega), if_neg (by omega), List.drop_eq_nil_of_le (show a.length ≤ i by omega), List.drop_eq_nil_of_le (show b.length ≤ j by omega)]
      simp [unionM]
theorem spec_join_eq (k : Nat) (hk : 1000000000000 ≤ k) (a b : GOcc) (ha : Few a) (hb : Few b) : spec_l3Join.f k a b = some (joinM a b) := by
  unfold spec_l3Join.f spec_l3Union.f spec_l1Min.f spec_l1Max.f joinM
  have := union_loop k a.Ids b.Ids ha hb (a.Ids.length + b.Ids.length) 0 0 k [] (by omega) (by omega) (by omega) (by omega) (by simp)
  rw [show ((0 : Nat) : Int) = 0 from rfl] at this
  rw [this]
  have e1 : (if a.From < b.From then some a.From else some b.From) = some (min a.From b.From) := by split <;> (congr 1; omega)
  have e2 : (if b.To < a.To then some a.To else some b.To) = some (max a.To b.To) := by split <;> (congr 1; omega)
  rw [e1, e2]
  rfl
theorem concat_eq (k : Nat) (hk : 1000000000000 ≤ k) (a b : List Int) (ha : a.length ≤ 1000) (hb : b.length ≤ 1000) : slices_Concat.f k [a, b] = some (a ++ b) := by
  obtain ⟨k', rfl⟩ : ∃ m, k = m + 3 := ⟨k - 3, by omega⟩
  unfold slices_Concat.f slices_Grow.f
  have e0 : slices_Concat.l0 (k' + 3) [a, b] (k' + 3) 0 0 = some ((a.length : Int) + b.length) := by
    rw [slices_Concat.l0, if_pos (by simp), req_pos (by omega)]
    simp only [Int.toNat_zero, List.getElem?_cons_zero, Option.bind_some]
    rw [wr (0 + (a.length : Int)) (by omega), if_neg (by omega), show IntKind.wrap .i64 (0 + 1) = 1 from rfl, slices_Concat.l0, if_pos (by simp), req_pos (by omega)]
    simp only [Int.toNat_one, List.getElem?_cons_succ, List.getElem?_cons_zero, Option.bind_some]
    rw [wr _ (by omega), if_neg (by omega), show IntKind.wrap .i64 (1 + 1) = 2 from rfl, slices_Concat.l0, if_neg (by simp)]
    congr 1; omega
  have e1 : slices_Concat.l1 (k' + 3) [a, b] (k' + 3) [] 0 = some (a ++ b) := by
    rw [slices_Concat.l1, if_pos (by simp), req_pos (by omega)]
    simp only [Int.toNat_zero, List.getElem?_cons_zero, Option.bind_some]
    rw [req_pos (by simp; omega), show IntKind.wrap .i64 (0 + 1) = 1 from rfl, slices_Concat.l1, if_pos (by simp), req_pos (by omega)]
    simp only [Int.toNat_one, List.getElem?_cons_succ, List.getElem?_cons_zero, Option.bind_some]
    rw [req_pos (by simp; omega), show IntKind.wrap .i64 (1 + 1) = 2 from rfl, slices_Concat.l1, if_neg (by simp)]
    rfl
  rw [e0]
  simp only [Option.bind_some]
  rw [req_pos trivial, req_pos (by omega), req_pos (by omega)]
  simp only [Option.bind_some]
  rw [e1]; rfl
theorem impl_join_eq (k : Nat) (hk : 1000000000000 ≤ k) (a b : GOcc) (ha : IdsOk a.Ids) (hb : IdsOk b.Ids) : impl_join.f k a b = some (joinM a b) := by
  have l1 := idsOk_len ha
  have l2 := idsOk_len hb
  unfold impl_join.f slices_Sort.f slices_Compact.f
  rw [concat_eq k hk _ _ (by omega) (by omega)]
  simp only [Option.bind_some]
  have e : (a.Ids ++ b.Ids).mergeSort (fun x y => decide (x ≤ y)) = sortM (a.Ids ++ b.Ids) := rfl
  rw [req_pos (by simp; omega), e]
  simp only [Option.bind_some]
  have l3 := length_sortM (a.Ids ++ b.Ids)
  rw [req_pos l3, req_pos (by rw [l3]; simp; omega)]
  have l4 : (uniq (sortM (a.Ids ++ b.Ids))).length ≤ 24 := by rw [union_sort ha.1 hb.1]; exact idsOk_len (idsOk_union ha hb)
  simp only [Option.bind_some]
  rw [req_pos (by omega), req_pos (by omega), req_pos (by omega), req_pos (by omega), union_sort ha.1 hb.1]
  unfold joinM
  by_cases c1 : b.From < a.From
  · rw [if_pos c1]
    by_cases c2 : a.To < b.To
    · rw [if_pos c2]; congr 2 <;> omega
    · rw [if_neg c2]; congr 2 <;> omega
  · rw [if_neg c1]
    by_cases c2 : a.To < b.To
    · rw [if_pos c2]; congr 2 <;> omega
    · rw [if_neg c2]; congr 2 <;> omega
/- One occurrence and those that wait: both programs. -/
/-- a loop over a list, its state told in another way -/
theorem loop_ret {α σ τ : Type} (ret : σ → τ) (l : List α) (body : σ → α → Option σ) (L : Nat → σ → Int → Option τ) (g : σ → α → σ) (Inv : Nat → σ → Prop)
    (hend : ∀ n s, L (n + 1) s (l.length : Int) = some (ret s))
    (hstep : ∀ n s (i : Nat) (h : i < l.length), L (n + 1) s (i : Int) = (body s l[i]).bind fun s' => L n s' ((i + 1 : Nat) : Int))
    (hbody : ∀ i s (h : i < l.length), Inv i s → body s l[i] = some (g s l[i]) ∧ Inv (i + 1) (g s l[i])) :
    ∀ (d i n : Nat) (s : σ), i + d = l.length → d < n → Inv i s → L n s (i : Int) = some (ret ((l.drop i).foldl g s)) ∧ Inv l.length ((l.drop i).foldl g s) := by
  intro d
  induction d with
  | zero =>
    intro i n s hi hn hI
    obtain ⟨n, rfl⟩ : ∃ m, n = m + 1 := ⟨n - 1, by omega⟩
    have e : i = l.length := by omega
    subst e
    rw [hend, List.drop_length]
    exact ⟨rfl, hI⟩
  | succ d ih =>
    intro i n s hi hn hI
    obtain ⟨n, rfl⟩ : ∃ m, n = m + 1 := ⟨n - 1, by omega⟩
    have hlt : i < l.length := by omega
    obtain ⟨h1, h2⟩ := hbody i s hlt hI
    rw [hstep n s i hlt, h1, List.drop_eq_getElem_cons hlt]
    exact ih (i + 1) n _ (by omega) (by omega) h2
theorem loop_ret0 {α σ τ : Type} (ret : σ → τ) (l : List α) (body : σ → α → Option σ) (L : Nat → σ → Int → Option τ) (g : σ → α → σ) (Inv : Nat → σ → Prop)
    (hend : ∀ n s, L (n + 1) s (l.length : Int) = some (ret s))
    (hstep : ∀ n s (i : Nat) (h : i < l.length), L (n + 1) s (i : Int) = (body s l[i]).bind fun s' => L n s' ((i + 1 : Nat) : Int))
    (hbody : ∀ i s (h : i < l.length), Inv i s → body s l[i] = some (g s l[i]) ∧ Inv (i + 1) (g s l[i])) (n : Nat) (s : σ) (hn : l.length < n) (hI : Inv 0 s) :
    L n s 0 = some (ret (l.foldl g s)) ∧ Inv l.length (l.foldl g s) := by
  have := loop_ret ret l body L g Inv hend hstep hbody l.length 0 n s (by omega) hn hI
  simpa using this
/-- those of a list that hold, kept in order -/
theorem fold_filter {α : Type} (p : α → Bool) : ∀ (l acc : List α), l.foldl (fun s e => if p e = true then s ++ [e] else s) acc = acc ++ l.filter p
  | [], acc => by simp
  | x :: l, acc => by
    rw [List.foldl_cons, fold_filter p l]
    by_cases h : p x = true
    · rw [if_pos h, List.filter_cons_of_pos h]; simp
    · rw [if_neg h, List.filter_cons_of_neg h]
/-- all numbers of a list of occurrences are right -/
def Ids (l : List GOcc) : Prop := ∀ o ∈ l, IdsOk o.Ids
theorem Ids.few {l : List GOcc} (h : Ids l) : Fews l := fun o ho => by have := idsOk_len (h o ho); omega
theorem ids_put {l : List GOcc} {o : GOcc} (h : Ids l) (ho : IdsOk o.Ids) : Ids (putM l o) := fun x hx => by
  rcases mem_putM.1 hx with h1 | rfl
  · exact h x h1
  · exact ho
theorem ids_merge {l m : List GOcc} (h : Ids l) (hm : Ids m) : Ids (mergeM l m) := fun x hx => by
  rcases mem_mergeM.1 hx with h1 | h1
  · exact h x h1
  · exact hm x h1
theorem ids_join {a b : GOcc} (ha : IdsOk a.Ids) (hb : IdsOk b.Ids) : IdsOk (joinM a b).Ids := idsOk_union ha hb
theorem ids_of_ok {l : List GOcc} (h : occsOk l = true) : Ids l := fun o ho => by
  obtain ⟨i, hi, rfl⟩ := List.mem_iff_getElem.1 ho
  have := (occsOk_at h hi).1
  unfold occOk at this
  simp only [Bool.and_eq_true, decide_eq_true_eq] at this
  exact idsOk_of this.2
/-- what is found of one and of those that wait -/
def sumM (o : GOcc) (l : List GOcc) : GOcc := l.foldl joinM o
def eachM (o : GOcc) (l : List GOcc) : List GOcc := l.foldl (fun s e => putM s (joinM o e)) []
def foundM (mode : Int) (o : GOcc) (l : List GOcc) : List GOcc :=
  if l.length = 0 then [] else if mode = 1 then [joinM o (l[l.length - 1]?.getD o)] else if mode = 2 then [joinM o (l[0]?.getD o)] else if mode = 4 then [sumM o l] else eachM o l
def goneM (mode : Int) (l : List GOcc) : List GOcc := if mode = 1 then [] else if mode = 2 then l.take 1 else if mode = 4 then l else if mode = 3 then l else []
theorem ids_sum : ∀ {l : List GOcc} {o : GOcc}, Ids l → IdsOk o.Ids → IdsOk (sumM o l).Ids
  | [], _, _, h => h
  | x :: l, o, hl, h => ids_sum (l := l) (o := joinM o x) (fun y hy => hl y (by simp [hy])) (ids_join h (hl x (by simp)))
theorem each_facts (o : GOcc) (ho : IdsOk o.Ids) : ∀ (l acc : List GOcc), Ids l → Ids acc → Asc acc → Ids (l.foldl (fun s e => putM s (joinM o e)) acc) ∧ Asc (l.foldl (fun s e => putM s (joinM o e)) acc) ∧ (l.foldl (fun s e => putM s (joinM o e)) acc).length ≤ acc.length + l.length
  | [], acc, _, h, h2 => ⟨h, h2, by simp⟩
  | x :: l, acc, hl, h, h2 => by
    obtain ⟨a, b, c⟩ := each_facts o ho l (putM acc (joinM o x)) (fun y hy => hl y (by simp [hy])) (ids_put h (ids_join ho (hl x (by simp)))) (asc_putM h2)
    have := length_putM (joinM o x) acc
    exact ⟨a, b, by simp only [List.foldl_cons, List.length_cons]; omega⟩
theorem combine_sum (k : Nat) (hk : 1000000000000 ≤ k) (o : GOcc) (l : List GOcc) (hl : l.length ≤ 1000000) (hi : Ids l) (ho : IdsOk o.Ids) :
    impl_combine.l0 k l k o.From o.To o.Ids 0 = some ((sumM o l).From, (sumM o l).To, (sumM o l).Ids) := by
  have := loop_ret0 (fun s : GOcc => (s.From, s.To, s.Ids)) l (fun s e => impl_join.f k s e) (fun n s i => impl_combine.l0 k l n s.From s.To s.Ids i) joinM (fun i s => IdsOk s.Ids)
    (fun n s => by rw [impl_combine.l0, if_neg (by omega)])
    (fun n s i h => by
      rw [impl_combine.l0, if_pos (by omega), req_pos (by omega), Int.toNat_natCast, List.getElem?_eq_getElem h]
      simp only [Option.bind_some]
      rw [wrS i (by omega)])
    (fun i s h hI => ⟨impl_join_eq k hk s _ hI (hi _ (List.getElem_mem h)), ids_join hI (hi _ (List.getElem_mem h))⟩) k o (by omega) ho
  exact this.1
theorem combine_each (k : Nat) (hk : 1000000000000 ≤ k) (o : GOcc) (l : List GOcc) (hl : l.length ≤ 1000000) (hi : Ids l) (ho : IdsOk o.Ids) : impl_combine.l1 k o l k [] 0 = some (eachM o l) := by
  have := loop_fold0 l (fun s e => (impl_join.f k o e).bind fun x => impl_put.f k s x) (impl_combine.l1 k o l) (fun s e => putM s (joinM o e)) (fun i s => s.length ≤ i ∧ Ids s ∧ Asc s)
    (fun n s => by rw [impl_combine.l1, if_neg (by omega)])
    (fun n s i h => by
      rw [impl_combine.l1, if_pos (by omega), req_pos (by omega), Int.toNat_natCast, List.getElem?_eq_getElem h]
      simp only [Option.bind_some]
      rw [wrS i (by omega), Option.bind_assoc])
    (fun i s h hI => by
      have hx := hi _ (List.getElem_mem h)
      refine ⟨by rw [impl_join_eq k hk o _ ho hx]; exact impl_put_eq k hk s _ (by omega) hI.2.1.few hI.2.2, ?_, ids_put hI.2.1 (ids_join ho hx), asc_putM hI.2.2⟩
      have := length_putM (joinM o l[i]) s; omega)
    k [] (by omega) ⟨by simp, fun x hx => by simp at hx, by simp [Asc]⟩
  exact this.1
theorem combine_eq (k : Nat) (hk : 1000000000000 ≤ k) (mode : Int) (o : GOcc) (l : List GOcc) (hl : l.length ≤ 1000000) (hi : Ids l) (ho : IdsOk o.Ids) :
    impl_combine.f k mode o l = some (foundM mode o l, if l.length = 0 then [] else goneM mode l) := by
  unfold impl_combine.f foundM goneM
  by_cases h0 : l.length = 0
  · rw [if_pos (by omega), if_pos h0, if_pos h0]
  rw [if_neg (by omega), if_neg h0, if_neg h0]
  by_cases h1 : mode = 1
  · obtain ⟨j, hj⟩ : ∃ j, l.length = j + 1 := ⟨l.length - 1, by omega⟩
    have hlt : j < l.length := by omega
    have e : IntKind.wrap .i64 ((l.length : Int) - 1) = (j : Int) := by rw [hj]; exact wrP j (by omega)
    rw [if_pos h1, if_pos h1, if_pos h1, e, req_pos (by omega), Int.toNat_natCast, List.getElem?_eq_getElem hlt]
    simp only [Option.bind_some]
    rw [impl_join_eq k hk o _ ho (hi _ (List.getElem_mem hlt)), show l.length - 1 = j by omega, List.getElem?_eq_getElem hlt]
    rfl
  rw [if_neg h1, if_neg h1, if_neg h1]
  by_cases h2 : mode = 2
  · have hlt : 0 < l.length := by omega
    rw [if_pos h2, if_pos h2, if_pos h2, req_pos (by omega), List.getElem?_eq_getElem hlt]
    simp only [Option.bind_some]
    rw [impl_join_eq k hk o _ ho (hi _ (List.getElem_mem hlt))]
    simp only [Option.bind_some]
    rw [req_pos (by omega), req_pos (by omega), req_pos (by omega)]
    rfl
  rw [if_neg h2, if_neg h2, if_neg h2]
  by_cases h4 : mode = 4
  · rw [if_pos h4, if_pos h4, if_pos h4, combine_sum k hk o l hl hi ho]
    rfl
  rw [if_neg h4, if_neg h4, if_neg h4, combine_each k hk o l hl hi ho]
  simp only [Option.bind_some]
  by_cases h3 : mode = 3
  · rw [if_pos h3, if_pos h3]
  · rw [if_neg h3, if_neg h3]
/-- a list without some -/
def remM (l gone : List GOcc) : List GOcc := l.filter fun x => !(gone.any fun g => decide (occCmp g x = 0))
theorem found_iff {l : List GOcc} {o : GOcc} (hs : Asc l) : (∃ x, l[rank l o]? = some x ∧ occCmp x o = 0) ↔ (l.any fun g => decide (occCmp g o = 0)) = true := by
  rw [List.any_eq_true]
  constructor
  · rintro ⟨x, h1, h2⟩
    exact ⟨x, List.mem_of_getElem? h1, by simpa using h2⟩
  · rintro ⟨x, h1, h2⟩
    have h2 : occCmp x o = 0 := by simpa using h2
    have e := occCmp_zero h2
    subst e
    obtain ⟨i, hi, rfl⟩ := List.mem_iff_getElem.1 h1
    refine ⟨l[i], ?_, occCmp_refl _⟩
    have hr := rank_le l l[i]
    rcases Nat.lt_trichotomy i (rank l l[i]) with h | h | h
    · obtain ⟨y, e1, e2⟩ := rank_less h
      rw [List.getElem?_eq_getElem hi, Option.some.injEq] at e1
      subst e1
      rw [occLess_irrefl] at e2; cases e2
    · rw [← h]; exact List.getElem?_eq_getElem hi
    · have h3 := rank_end (l := l) (o := l[i]) (by omega)
      have h4 : occLess l[rank l l[i]] l[i] = true := List.pairwise_iff_getElem.1 hs _ _ _ _ h
      rw [h4] at h3; cases h3
theorem without_eq (k : Nat) (hk : 1000000000000 ≤ k) (l gone : List GOcc) (hl : l.length ≤ 1000000) (hg : gone.length ≤ 1000000) (hf : Fews gone) (hs : Asc gone) : impl_without.f k l gone = some (remM l gone) := by
  unfold impl_without.f
  have := loop_fold0 l (fun s e => (slices_BinarySearchFunc.f (fun y0 y1 => impl_compare.f k y0 y1) k gone e).bind fun x => if x.2 = true then some s else (req ((s.length + 1) * 40 ≤ 140737488355328) (some (s ++ [e])))) (impl_without.l0 k l gone)
    (fun s e => if (!(gone.any fun g => decide (occCmp g e = 0))) = true then s ++ [e] else s) (fun i s => s.length ≤ i)
    (fun n s => by rw [impl_without.l0, if_neg (by omega)])
    (fun n s i h => by
      rw [impl_without.l0, if_pos (by omega), req_pos (by omega), Int.toNat_natCast, List.getElem?_eq_getElem h]
      simp only [Option.bind_some]
      rw [wrS i (by omega), bs_eq k hk gone _ (by omega) hf hs]
      simp only [Option.bind_some]
      split
      · rfl
      · unfold req; split <;> rfl)
    (fun i s h hI => by
      rw [bs_eq k hk gone _ (by omega) hf hs]
      simp only [Option.bind_some]
      by_cases c : ∃ x, gone[rank gone l[i]]? = some x ∧ occCmp x l[i] = 0
      · have c2 := (found_iff hs).1 c
        rw [if_pos (by simpa using c), c2]
        exact ⟨rfl, by simp; omega⟩
      · have c2 : (gone.any fun g => decide (occCmp g l[i] = 0)) = false := by
          cases h' : (gone.any fun g => decide (occCmp g l[i] = 0))
          · rfl
          · exact absurd ((found_iff hs).2 h') c
        rw [if_neg (by simpa using c), c2, req_pos (by omega)]
        exact ⟨rfl, by simp; omega⟩)
    k [] (by omega) (by simp)
  rw [this.1, fold_filter]; rfl
theorem those_eq (k : Nat) (hk : 1000000000000 ≤ k) (g1 : GOcc → Option Bool) (p : GOcc → Bool) (l : List GOcc) (hl : l.length ≤ 1000000) (hp : ∀ x ∈ l, g1 x = some (p x)) : impl_those.f g1 k l = some (l.filter p) := by
  unfold impl_those.f
  have := loop_fold0 l (fun s e => (g1 e).bind fun x => if x = true then (req ((s.length + 1) * 40 ≤ 140737488355328) (some (s ++ [e]))) else some s) (impl_those.l0 k g1 l)
    (fun s e => if p e = true then s ++ [e] else s) (fun i s => s.length ≤ i)
    (fun n s => by rw [impl_those.l0, if_neg (by omega)])
    (fun n s i h => by
      rw [impl_those.l0, if_pos (by omega), req_pos (by omega), Int.toNat_natCast, List.getElem?_eq_getElem h]
      simp only [Option.bind_some]
      rw [wrS i (by omega), hp _ (List.getElem_mem h)]
      simp only [Option.bind_some]
      split
      · unfold req; split <;> rfl
      · rfl)
    (fun i s h hI => by
      rw [hp _ (List.getElem_mem h)]
      simp only [Option.bind_some]
      by_cases c : p l[i] = true
      · rw [if_pos c, if_pos c, req_pos (by omega)]
        exact ⟨rfl, by simp; omega⟩
      · rw [if_neg c, if_neg c]
        exact ⟨rfl, by omega⟩)
    k [] (by omega) (by simp)
  rw [this.1, fold_filter]; rfl
/- What is paired by a mode, in the reference's words. -/
theorem pick_l0 (k : Nat) (hk : 1000000000000 ≤ k) (l : List GOcc) (p : GOcc → Bool) (hl : l.length ≤ 1000000) : spec_l4Pick.l0 k l (l.map p) k [] 0 = some (l.filter p) := by
  have := loop_fold0 l (fun s e => if p e = true then (req ((s.length + 1) * 40 ≤ 140737488355328) (some (s ++ [e]))) else some s) (spec_l4Pick.l0 k l (l.map p)) (fun s e => if p e = true then s ++ [e] else s) (fun i s => s.length ≤ i)
    (fun n s => by rw [spec_l4Pick.l0, if_neg (by omega)])
    (fun n s i h => by
      rw [spec_l4Pick.l0, if_pos (by omega), req_pos (by omega), Int.toNat_natCast, List.getElem?_map, List.getElem?_eq_getElem h]
      simp only [Option.map_some, Option.bind_some]
      rw [wrS i (by omega)]
      split
      · rw [req_pos (by omega), req_pos (by omega)]; unfold req; split <;> rfl
      · rfl)
    (fun i s h hI => by
      by_cases c : p l[i] = true
      · rw [if_pos c, if_pos c, req_pos (by omega)]; exact ⟨rfl, by simp; omega⟩
      · rw [if_neg c, if_neg c]; exact ⟨rfl, by omega⟩)
    k [] (by omega) (by simp)
  rw [this.1, fold_filter]; rfl
theorem pick_l2 (k : Nat) (hk : 1000000000000 ≤ k) (l : List GOcc) (p : GOcc → Bool) (hl : l.length ≤ 1000000) : spec_l4Pick.l2 k l (l.map p) k [] 0 = some (l.filter fun e => !p e) := by
  have := loop_fold0 l (fun s e => if p e = true then some s else (req ((s.length + 1) * 40 ≤ 140737488355328) (some (s ++ [e])))) (spec_l4Pick.l2 k l (l.map p)) (fun s e => if (!p e) = true then s ++ [e] else s) (fun i s => s.length ≤ i)
    (fun n s => by rw [spec_l4Pick.l2, if_neg (by omega)])
    (fun n s i h => by
      rw [spec_l4Pick.l2, if_pos (by omega), req_pos (by omega), Int.toNat_natCast, List.getElem?_map, List.getElem?_eq_getElem h]
      simp only [Option.map_some, Option.bind_some]
      rw [wrS i (by omega)]
      split
      · rfl
      · rw [req_pos (by omega), req_pos (by omega)]; unfold req; split <;> rfl)
    (fun i s h hI => by
      by_cases c : p l[i] = true
      · rw [if_pos c, if_neg (by simp [c])]; exact ⟨rfl, by omega⟩
      · rw [if_neg c, if_pos (by simp [c]), req_pos (by omega)]; exact ⟨rfl, by simp; omega⟩)
    k [] (by omega) (by simp)
  rw [this.1, fold_filter]; rfl
theorem pick_l1 (k : Nat) (hk : 1000000000000 ≤ k) (l : List GOcc) (p : GOcc → Bool) (hl : l.length ≤ 1000000) (hf : Fews l) (x : GOcc) (t : List GOcc) : spec_l4Pick.l1 k l (l.map p) (x :: t) k [] 0 = some (l.filter fun e => !(p e && decide (occCmp e x = 0))) := by
  have := loop_fold0 l (fun s e => if p e = true then (if occCmp e x = 0 then some s else (req ((s.length + 1) * 40 ≤ 140737488355328) (some (s ++ [e])))) else (req ((s.length + 1) * 40 ≤ 140737488355328) (some (s ++ [e])))) (spec_l4Pick.l1 k l (l.map p) (x :: t)) (fun s e => if (!(p e && decide (occCmp e x = 0))) = true then s ++ [e] else s) (fun i s => s.length ≤ i)
    (fun n s => by rw [spec_l4Pick.l1, if_neg (by omega)])
    (fun n s i h => by
      rw [spec_l4Pick.l1, if_pos (by omega), req_pos (by omega), Int.toNat_natCast, List.getElem?_map, List.getElem?_eq_getElem h]
      simp only [Option.map_some, Option.bind_some]
      rw [wrS i (by omega)]
      split
      · rw [req_pos (by omega), req_pos (by omega), req_pos (by omega), req_pos (by omega)]
        simp only [List.getElem?_cons_zero, Option.bind_some, same_k _ x (hf _ (List.getElem_mem h)) k hk]
        by_cases c : occCmp l[i] x = 0
        · rw [if_pos (by simpa using c), if_pos c]; rfl
        · rw [if_neg (by simpa using c), if_neg c, req_pos (by omega), req_pos (by omega)]; unfold req; split <;> rfl
      · rw [req_pos (by omega), req_pos (by omega)]; unfold req; split <;> rfl)
    (fun i s h hI => by
      by_cases c : p l[i] = true
      · by_cases c2 : occCmp l[i] x = 0
        · rw [if_pos c, if_pos c2, if_neg (by simp [c, c2])]; exact ⟨rfl, by omega⟩
        · rw [if_pos c, if_neg c2, if_pos (by simp [c2]), req_pos (by omega)]; exact ⟨rfl, by simp; omega⟩
      · rw [if_neg c, if_pos (by simp [c]), req_pos (by omega)]; exact ⟨rfl, by simp; omega⟩)
    k [] (by omega) (by simp)
  rw [this.1, fold_filter]; rfl
def pickM (mode : Int) (l : List GOcc) (p : GOcc → Bool) : List GOcc := if mode = 1 then (l.filter p).drop ((l.filter p).length - 1) else if mode = 2 then (l.filter p).take 1 else l.filter p
theorem rem_nil (l : List GOcc) : remM l [] = l := by unfold remM; simp
theorem pick_eq (k : Nat) (hk : 1000000000000 ≤ k) (mode : Int) (hm : 0 ≤ mode ∧ mode ≤ 4) (l : List GOcc) (p : GOcc → Bool) (hl : l.length ≤ 1000000) (hf : Fews l) :
    spec_l4Pick.f k mode l (l.map p) = some (pickM mode l p, remM l (if (l.filter p).length = 0 then [] else goneM mode (l.filter p))) := by
  unfold spec_l4Pick.f pickM goneM
  rw [pick_l0 k hk l p hl]
  simp only [Option.bind_some]
  have hlen : (l.filter p).length ≤ l.length := List.length_filter_le _ _
  generalize hs : l.filter p = s at hlen ⊢
  by_cases h0 : s.length = 0
  · rw [if_pos (by omega), if_pos h0, rem_nil]
    have e : s = [] := List.length_eq_zero_iff.1 h0
    subst e
    simp
  rw [if_neg (by omega), if_neg h0]
  by_cases m0 : mode = 0
  · subst m0
    simp [rem_nil]
  rw [if_neg m0]
  by_cases m1 : mode = 1
  · obtain ⟨j, hj⟩ : ∃ j, s.length = j + 1 := ⟨s.length - 1, by omega⟩
    have e : IntKind.wrap .i64 (((s.length : Nat) : Int) - 1) = (j : Int) := by rw [hj]; exact wrP j (by omega)
    rw [if_pos m1, if_pos m1, if_pos m1, e, req_pos (by omega), req_pos (by omega), req_pos (by omega), rem_nil, Int.toNat_natCast, show s.length - 1 = j by omega, List.take_of_length_le (by rw [List.length_drop]; omega)]
  rw [if_neg m1, if_neg m1, if_neg m1]
  by_cases m2 : mode = 2
  · rw [if_pos m2, if_pos m2, if_pos m2, req_pos (by omega), req_pos (by omega), req_pos (by omega)]
    cases s with
    | nil => simp at h0
    | cons x t =>
      rw [pick_l1 k hk l p hl hf x t]
      simp only [Option.bind_some, Option.some.injEq, Prod.mk.injEq, true_and]
      unfold remM
      apply List.filter_congr
      intro e he
      have hx : p x = true := by
        have : x ∈ l.filter p := by rw [hs]; simp
        exact (List.mem_filter.1 this).2
      have sym : occCmp x e = 0 ↔ occCmp e x = 0 := by have := occCmp_anti x e; omega
      by_cases c : occCmp e x = 0
      · have := occCmp_zero c
        subst this
        simp [hx, occCmp_refl]
      · simp [c, sym]
  rw [if_neg m2, if_neg m2, if_neg m2, pick_l2 k hk l p hl]
  have gone : (if mode = 4 then s else if mode = 3 then s else []) = s := by
    by_cases m4 : mode = 4
    · rw [if_pos m4]
    · rw [if_neg m4, if_pos (by omega)]
  rw [gone]
  simp only [Option.bind_some, Option.some.injEq, Prod.mk.injEq, true_and]
  unfold remM
  apply List.filter_congr
  intro e he
  congr 1
  rw [Bool.eq_iff_iff, List.any_eq_true]
  constructor
  · intro h
    exact ⟨e, by rw [← hs]; exact List.mem_filter.2 ⟨he, h⟩, by simp [occCmp_refl]⟩
  · rintro ⟨g, h1, h2⟩
    have := occCmp_zero (show occCmp g e = 0 by simpa using h2)
    subst this
    rw [← hs] at h1
    exact (List.mem_filter.1 h1).2
theorem make_sum (k : Nat) (hk : 1000000000000 ≤ k) (o : GOcc) (l : List GOcc) (hl : l.length ≤ 1000000) (hi : Ids l) (ho : IdsOk o.Ids) :
    spec_l4Make.l0 k l k o.From o.To o.Ids 0 = some ((sumM o l).From, (sumM o l).To, (sumM o l).Ids) := by
  have := loop_ret0 (fun s : GOcc => (s.From, s.To, s.Ids)) l (fun s e => spec_l3Join.f k s e) (fun n s i => spec_l4Make.l0 k l n s.From s.To s.Ids i) joinM (fun i s => IdsOk s.Ids)
    (fun n s => by rw [spec_l4Make.l0, if_neg (by omega)])
    (fun n s i h => by
      rw [spec_l4Make.l0, if_pos (by omega), req_pos (by omega), Int.toNat_natCast, List.getElem?_eq_getElem h]
      simp only [Option.bind_some]
      rw [wrS i (by omega)])
    (fun i s h hI => ⟨spec_join_eq k hk s _ (by have := idsOk_len hI; omega) (hi.few _ (List.getElem_mem h)), ids_join hI (hi _ (List.getElem_mem h))⟩) k o (by omega) ho
  exact this.1
theorem make_each (k : Nat) (hk : 1000000000000 ≤ k) (o : GOcc) (l : List GOcc) (hl : l.length ≤ 1000000) (hi : Ids l) (ho : IdsOk o.Ids) : spec_l4Make.l1 k l o k [] 0 = some (eachM o l) := by
  have := loop_fold0 l (fun s e => (spec_l3Join.f k e o).bind fun x => spec_l3Put.f k s x) (spec_l4Make.l1 k l o) (fun s e => putM s (joinM o e)) (fun i s => s.length ≤ i ∧ Ids s)
    (fun n s => by rw [spec_l4Make.l1, if_neg (by omega)])
    (fun n s i h => by
      rw [spec_l4Make.l1, if_pos (by omega), req_pos (by omega), Int.toNat_natCast, List.getElem?_eq_getElem h]
      simp only [Option.bind_some]
      rw [wrS i (by omega), Option.bind_assoc])
    (fun i s h hI => by
      have hx := hi _ (List.getElem_mem h)
      have hj := ids_join ho hx
      refine ⟨by rw [spec_join_eq k hk _ o (hi.few _ (List.getElem_mem h)) (by have := idsOk_len ho; omega), joinM_comm hx ho]; exact spec_put_eq k hk s _ (by omega) hI.2.few (by have := idsOk_len hj; omega), ?_, ids_put hI.2 hj⟩
      have := length_putM (joinM o l[i]) s; omega)
    k [] (by omega) ⟨by simp, fun x hx => by simp at hx⟩
  exact this.1
theorem make_eq (k : Nat) (hk : 1000000000000 ≤ k) (mode : Int) (o : GOcc) (l : List GOcc) (p : GOcc → Bool) (hl : l.length ≤ 1000000) (hi : Ids l) (ho : IdsOk o.Ids) :
    spec_l4Make.f k mode (pickM mode l p) o = some (foundM mode o (l.filter p)) := by
  have hlen : (l.filter p).length ≤ l.length := List.length_filter_le _ _
  have hs : Ids (l.filter p) := fun x hx => hi x (List.mem_filter.1 hx).1
  unfold spec_l4Make.f pickM foundM
  generalize l.filter p = s at hlen hs ⊢
  by_cases h0 : s.length = 0
  · have e : s = [] := List.length_eq_zero_iff.1 h0
    subst e
    simp
  rw [if_neg h0]
  by_cases m1 : mode = 1
  · have hlt : s.length - 1 < s.length := by omega
    have e : s.drop (s.length - 1) = [s[s.length - 1]] := by rw [List.drop_eq_getElem_cons hlt, List.drop_eq_nil_of_le (by omega)]
    rw [if_pos m1, if_pos m1, if_neg (by rw [e]; simp), if_neg (by omega), e, make_each k hk o _ (by simp) (fun x hx => by rw [List.mem_singleton.1 hx]; exact hs _ (List.getElem_mem hlt)) ho, List.getElem?_eq_getElem hlt]
    rfl
  rw [if_neg m1, if_neg m1]
  by_cases m2 : mode = 2
  · cases s with
    | nil => simp at h0
    | cons x t =>
      rw [if_pos m2, if_pos m2, if_neg (by simp), if_neg (by omega), show (x :: t).take 1 = [x] from rfl, make_each k hk o _ (by simp) (fun y hy => by rw [List.mem_singleton.1 hy]; exact hs _ (by simp)) ho]
      rfl
  rw [if_neg m2, if_neg m2, if_neg (by omega)]
  by_cases m4 : mode = 4
  · rw [if_pos m4, if_pos m4, make_sum k hk o s (by omega) hs ho]
    simp only [Option.bind_some]
    rw [req_pos (by simp)]
    rfl
  · rw [if_neg m4, if_neg m4, make_each k hk o s (by omega) hs ho]
    rfl
/- Points in time: a sequence, a conjunction, an absence, a repetition. -/
/-- an ordered list of occurrences with right numbers, no longer than m -/
def Ok (m : Nat) (l : List GOcc) : Prop := Asc l ∧ Ids l ∧ l.length ≤ m
theorem Ok.nil (m : Nat) : Ok m [] := ⟨by simp [Asc], fun x hx => by simp at hx, by simp⟩
theorem Ok.mono {m n : Nat} {l : List GOcc} (h : Ok m l) (hm : m ≤ n) : Ok n l := ⟨h.1, h.2.1, Nat.le_trans h.2.2 hm⟩
theorem Ok.filter {m : Nat} {l : List GOcc} (p : GOcc → Bool) (h : Ok m l) : Ok m (l.filter p) := ⟨List.Pairwise.sublist List.filter_sublist h.1, fun x hx => h.2.1 x (List.mem_filter.1 hx).1, Nat.le_trans (List.length_filter_le _ _) h.2.2⟩
theorem Ok.rem {m : Nat} {l gone : List GOcc} (h : Ok m l) : Ok m (remM l gone) := h.filter _
theorem Ok.merge {m n : Nat} {l r : List GOcc} (h : Ok m l) (hr : Ok n r) : Ok (m + n) (mergeM l r) := ⟨asc_mergeM h.1, ids_merge h.2.1 hr.2.1, by have := length_mergeM r l; have := h.2.2; have := hr.2.2; omega⟩
theorem Ok.put {m : Nat} {l : List GOcc} {o : GOcc} (h : Ok m l) (ho : IdsOk o.Ids) : Ok (m + 1) (putM l o) := ⟨asc_putM h.1, ids_put h.2.1 ho, by have := length_putM o l; have := h.2.2; omega⟩
theorem Ok.found {m : Nat} {mode : Int} {o : GOcc} {l : List GOcc} (h : Ok m l) (ho : IdsOk o.Ids) : Ok m (foundM mode o l) := by
  have one : ∀ x : GOcc, IdsOk x.Ids → l.length ≠ 0 → Ok m [x] := fun x hx hl => ⟨by simp [Asc], fun y hy => by rw [List.mem_singleton.1 hy]; exact hx, by have := h.2.2; simp; omega⟩
  unfold foundM
  by_cases h0 : l.length = 0
  · rw [if_pos h0]; exact Ok.nil m
  rw [if_neg h0]
  split
  · exact one _ (ids_join ho (by rw [List.getElem?_eq_getElem (show l.length - 1 < l.length by omega)]; exact h.2.1 _ (List.getElem_mem _))) h0
  split
  · exact one _ (ids_join ho (by rw [List.getElem?_eq_getElem (show 0 < l.length by omega)]; exact h.2.1 _ (List.getElem_mem _))) h0
  split
  · exact one _ (ids_sum h.2.1 ho) h0
  · obtain ⟨a, b, c⟩ := each_facts o ho l [] h.2.1 (Ok.nil 0).2.1 (Ok.nil 0).1
    exact ⟨b, a, by simp at c; have := h.2.2; exact Nat.le_trans c this⟩
theorem Ok.gone {m : Nat} {mode : Int} {l : List GOcc} (h : Ok m l) : Ok m (if l.length = 0 then [] else goneM mode l) := by
  split
  · exact Ok.nil m
  unfold goneM
  split
  · exact Ok.nil m
  split
  · exact ⟨List.Pairwise.sublist (List.take_sublist _ _) h.1, fun x hx => h.2.1 x (List.mem_of_mem_take hx), by have := h.2.2; simp; omega⟩
  split
  · exact h
  split
  · exact h
  · exact Ok.nil m
/-- one on the right of a sequence or an absence: what is left waiting, and what was found -/
def oneM (mode : Int) (p : GOcc → GOcc → Bool) (s : List GOcc × List GOcc) (o : GOcc) : List GOcc × List GOcc :=
  (remM s.1 (if (s.1.filter (p o)).length = 0 then [] else goneM mode (s.1.filter (p o))), mergeM s.2 (foundM mode o (s.1.filter (p o))))
theorem oneM_ok {mode : Int} {p : GOcc → GOcc → Bool} {s : List GOcc × List GOcc} {o : GOcc} {m n : Nat} (h1 : Ok m s.1) (h2 : Ok n s.2) (ho : IdsOk o.Ids) : Ok m (oneM mode p s o).1 ∧ Ok (n + m) (oneM mode p s o).2 :=
  ⟨h1.rem, h2.merge ((h1.filter _).found ho)⟩
def before (o s : GOcc) : Bool := decide (s.To < o.From)
theorem seq_loop (k : Nat) (hk : 1000000000000 ≤ k) (mode : Int) (right : List GOcc) (left : List GOcc) (m c : Nat) (hm : m ≤ 20000) (hc : right.length ≤ c) (hc2 : c ≤ 100) (hl : Ok m left) (hr : Ids right) :
    impl_Pair_seq.l0 k mode right k left [] 0 = some (right.foldl (oneM mode before) (left, [])) ∧ Ok m (right.foldl (oneM mode before) (left, [])).1 ∧ Ok (c * m) (right.foldl (oneM mode before) (left, [])).2 := by
  have := loop_ret0 (fun s : List GOcc × List GOcc => s) right (fun s e => (impl_those.f (fun y0 => impl_Pair_seq_1.f y0 e) k s.1).bind fun x46 => ((impl_combine.f k mode e x46).bind fun x49 => ((impl_putAll.f k s.2 x49.1).bind fun x52 => ((impl_without.f k s.1 x49.2).bind fun x55 => some (x55, x52))))) (fun n s i => impl_Pair_seq.l0 k mode right n s.1 s.2 i) (oneM mode before) (fun i s => Ok m s.1 ∧ Ok (i * m) s.2)
    (fun n s => by rw [impl_Pair_seq.l0, if_neg (by omega)])
    (fun n s i h => by
      rw [impl_Pair_seq.l0, if_pos (by omega), req_pos (by omega), Int.toNat_natCast, List.getElem?_eq_getElem h]
      simp only [Option.bind_some, Option.bind_assoc]
      rw [wrS i (by omega)])
    (fun i s h hI => by
      obtain ⟨h1, h2⟩ := hI
      have ho := hr _ (List.getElem_mem h)
      have hb : i * m ≤ 100 * 20000 := Nat.mul_le_mul (by omega) hm
      have hf := h1.filter (before right[i])
      have hfo := hf.found (mode := mode) ho
      have hg := hf.gone (mode := mode)
      have e1 : impl_those.f (fun y0 => impl_Pair_seq_1.f y0 right[i]) k s.1 = some (s.1.filter (before right[i])) := those_eq k hk _ _ _ (by have := h1.2.2; omega) (fun x hx => rfl)
      have := h1.2.2; have := h2.2.2; have := hf.2.2; have := hfo.2.2; have := hg.2.2
      refine ⟨?_, ?_⟩
      · rw [e1]
        simp only [Option.bind_some]
        rw [combine_eq k hk mode _ _ (by omega) hf.2.1 ho]
        simp only [Option.bind_some]
        rw [impl_putAll_eq k hk _ _ (by omega) h2.2.1.few hfo.2.1.few h2.1]
        simp only [Option.bind_some]
        rw [without_eq k hk _ _ (by omega) (by omega) hg.2.1.few hg.1]
        rfl
      · have := oneM_ok (mode := mode) (p := before) h1 h2 ho
        refine ⟨this.1, ?_⟩
        rw [Nat.succ_mul]
        exact this.2)
    k (left, []) (by omega) ⟨hl, by simpa using Ok.nil 0⟩
  exact ⟨this.1, this.2.1, this.2.2.mono (Nat.mul_le_mul_right _ hc)⟩
/- Points in time, in the reference's words. -/
theorem loop_set {α : Type} (l : List α) (p : α → Bool) (L : Nat → List Bool → Int → Option (List Bool)) (hend : ∀ n s, L (n + 1) s (l.length : Int) = some s)
    (hstep : ∀ n s (i : Nat) (h : i < l.length), s.length = l.length → L (n + 1) s (i : Int) = L n (s.set i (p l[i])) ((i + 1 : Nat) : Int)) :
    ∀ (d i n : Nat) (s : List Bool), i + d = l.length → d < n → s.length = l.length → s.take i = (l.map p).take i → L n s (i : Int) = some (l.map p) := by
  intro d
  induction d with
  | zero =>
    intro i n s hi hn hs ht
    obtain ⟨n, rfl⟩ : ∃ m, n = m + 1 := ⟨n - 1, by omega⟩
    have e : i = l.length := by omega
    subst e
    rw [hend, Option.some.injEq]
    rwa [List.take_of_length_le (by omega), List.take_of_length_le (by simp)] at ht
  | succ d ih =>
    intro i n s hi hn hs ht
    obtain ⟨n, rfl⟩ : ∃ m, n = m + 1 := ⟨n - 1, by omega⟩
    have hlt : i < l.length := by omega
    rw [hstep n s i hlt hs]
    refine ih (i + 1) n _ (by omega) (by omega) (by simpa using hs) ?_
    rw [List.take_add_one, List.take_set_of_le (Nat.le_refl _), ht, List.take_add_one]
    simp [hlt, hs]
theorem before_eq (k : Nat) (hk : 1000000000000 ≤ k) (l : List GOcc) (o : GOcc) (hl : l.length ≤ 1000000) : spec_l4Before.f k l o = some (l.map (before o)) := by
  unfold spec_l4Before.f
  rw [req_pos (by omega), req_pos (by omega), req_pos (by omega)]
  have := loop_set l (before o) (spec_l4Before.l0 k l o) (fun n s => by rw [spec_l4Before.l0, if_neg (by omega)])
    (fun n s i h hs => by
      rw [spec_l4Before.l0, if_pos (by omega), req_pos (by omega), Int.toNat_natCast, List.getElem?_eq_getElem h]
      simp only [Option.bind_some]
      rw [req_pos (by omega), req_pos (by omega), List.getElem?_eq_getElem (show i < s.length by omega)]
      simp only [Option.bind_some]
      rw [wrS i (by omega)]
      rfl)
    l.length 0 k (List.replicate l.length false) (by omega) (by omega) (by simp) (by simp)
  rw [show ((0 : Nat) : Int) = 0 from rfl] at this
  rw [this]; rfl
theorem whole_eq (k : Nat) (hk : 1000000000000 ≤ k) (l : List GOcc) (hl : l.length ≤ 1000000) : spec_l4Whole.f k l = some (l.map fun _ => true) := by
  unfold spec_l4Whole.f
  rw [req_pos (by omega), req_pos (by omega), req_pos (by omega)]
  have := loop_set l (fun _ => true) (spec_l4Whole.l0 k l) (fun n s => by rw [spec_l4Whole.l0, if_neg (by omega)])
    (fun n s i h hs => by
      rw [spec_l4Whole.l0, if_pos (by omega), req_pos (by omega), req_pos (by omega), Int.toNat_natCast, List.getElem?_eq_getElem (show i < s.length by omega)]
      simp only [Option.bind_some]
      rw [wrS i (by omega)])
    l.length 0 k (List.replicate l.length false) (by omega) (by omega) (by simp) (by simp)
  rw [show ((0 : Nat) : Int) = 0 from rfl] at this
  rw [this]; rfl
theorem spec_seq_loop (k : Nat) (hk : 1000000000000 ≤ k) (mode : Int) (hmo : 0 ≤ mode ∧ mode ≤ 4) (right : List GOcc) (left : List GOcc) (m c : Nat) (hm : m ≤ 20000) (hc : right.length ≤ c) (hc2 : c ≤ 100) (hl : Ok m left) (hr : Ids right) :
    spec_l4Seq.l0 k mode right k left [] 0 = some (right.foldl (oneM mode before) (left, [])) := by
  have := loop_ret0 (fun s : List GOcc × List GOcc => s) right (fun s e => (spec_l4Before.f k s.1 e).bind fun x52 => ((spec_l4Pick.f k mode s.1 x52).bind fun x55 => ((spec_l4Make.f k mode x55.1 e).bind fun x61 => ((spec_l4Merge.f k s.2 x61).bind fun x64 => some (x55.2, x64))))) (fun n s i => spec_l4Seq.l0 k mode right n s.1 s.2 i) (oneM mode before) (fun i s => Ok m s.1 ∧ Ok (i * m) s.2)
    (fun n s => by rw [spec_l4Seq.l0, if_neg (by omega)])
    (fun n s i h => by
      rw [spec_l4Seq.l0, if_pos (by omega), req_pos (by omega), Int.toNat_natCast, List.getElem?_eq_getElem h]
      simp only [Option.bind_some, Option.bind_assoc]
      simp only [req_pos (show (0 : Int) ≤ (i : Int) by omega), wrS i (show i < 4611686018427387904 by omega)])
    (fun i s h hI => by
      obtain ⟨h1, h2⟩ := hI
      have ho := hr _ (List.getElem_mem h)
      have hb : i * m ≤ 100 * 20000 := Nat.mul_le_mul (by omega) hm
      have hf := h1.filter (before right[i])
      have hfo := hf.found (mode := mode) ho
      have := h1.2.2; have := h2.2.2; have := hf.2.2; have := hfo.2.2
      refine ⟨?_, ?_⟩
      · rw [before_eq k hk _ _ (by omega)]
        simp only [Option.bind_some]
        rw [pick_eq k hk mode hmo _ _ (by omega) h1.2.1.few]
        simp only [Option.bind_some]
        rw [make_eq k hk mode _ _ _ (by omega) h1.2.1 ho]
        simp only [Option.bind_some]
        rw [spec_merge_eq k hk _ _ (by omega) h2.2.1.few hfo.2.1.few]
        rfl
      · have := oneM_ok (mode := mode) (p := before) h1 h2 ho
        refine ⟨this.1, ?_⟩
        rw [Nat.succ_mul]
        exact this.2)
    k (left, []) (by omega) ⟨hl, by simpa using Ok.nil 0⟩
  exact this.1
/- A conjunction at a point in time: both programs. -/
theorem fold_put_mem {f : GOcc → GOcc} {z : GOcc} : ∀ {l acc : List GOcc}, z ∈ acc → z ∈ l.foldl (fun s e => putM s (f e)) acc
  | [], _, h => h
  | x :: l, acc, h => fold_put_mem (l := l) (mem_putM.2 (.inl h))
theorem found_len (mode : Int) (o : GOcc) (l : List GOcc) : (foundM mode o l).length = 0 ↔ l.length = 0 := by
  unfold foundM
  by_cases h0 : l.length = 0
  · simp [h0]
  · rw [if_neg h0]
    split
    · simp [h0]
    split
    · simp [h0]
    split
    · simp [h0]
    · cases l with
      | nil => simp at h0
      | cons x l =>
        have : joinM o x ∈ eachM o (x :: l) := by
          unfold eachM
          rw [List.foldl_cons]
          exact fold_put_mem (mem_putM.2 (.inr rfl))
        have := List.length_pos_of_mem this
        simp at h0 ⊢
        intro e
        rw [e] at this
        simp at this
theorem filter_all (l : List GOcc) : l.filter (fun _ => true) = l := List.filter_eq_self.2 fun _ _ => rfl
def storeM (mode : Int) (own : List GOcc) (o : GOcc) (alone : Bool) : List GOcc := if mode = 1 then [o] else if mode = 0 then putM own o else if alone = true then putM own o else own
theorem store_eq (k : Nat) (hk : 1000000000000 ≤ k) (mode : Int) (own : List GOcc) (o : GOcc) (alone : Bool) (m : Nat) (hm : m ≤ 1000000) (h : Ok m own) : impl_store.f k mode own o alone = some (storeM mode own o alone) := by
  unfold impl_store.f storeM
  have := h.2.2
  rw [impl_put_eq k hk own o (by omega) h.2.1.few h.1]
  simp only [Option.bind_some]
  split
  · rfl
  split
  · rfl
  split <;> rfl
theorem Ok.store {m : Nat} {mode : Int} {own : List GOcc} {o : GOcc} {alone : Bool} (h : Ok m own) (ho : IdsOk o.Ids) : Ok (m + 1) (storeM mode own o alone) := by
  unfold storeM
  split
  · exact ⟨by simp [Asc], fun y hy => by rw [List.mem_singleton.1 hy]; exact ho, by simp⟩
  split
  · exact h.put ho
  split
  · exact h.put ho
  · exact h.mono (by omega)
/-- one met with those of the other side: its own side, the other side, what was found -/
def halfM (mode : Int) (s : List GOcc × List GOcc × List GOcc) (o : GOcc) : List GOcc × List GOcc × List GOcc :=
  (storeM mode s.1 o (decide (s.2.1.length = 0)), remM s.2.1 (if s.2.1.length = 0 then [] else goneM mode s.2.1), mergeM s.2.2 (foundM mode o s.2.1))
theorem halfM_ok {mode : Int} {s : List GOcc × List GOcc × List GOcc} {o : GOcc} {a b c : Nat} (h1 : Ok a s.1) (h2 : Ok b s.2.1) (h3 : Ok c s.2.2) (ho : IdsOk o.Ids) : Ok (a + 1) (halfM mode s o).1 ∧ Ok b (halfM mode s o).2.1 ∧ Ok (c + b) (halfM mode s o).2.2 :=
  ⟨h1.store ho, h2.rem, h3.merge (h2.found ho)⟩
/-- the program's half -/
theorem impl_half (k : Nat) (hk : 1000000000000 ≤ k) (mode : Int) (own other out : List GOcc) (o : GOcc) (a b c : Nat) (ha : a ≤ 100000) (hb : b ≤ 100000) (hc : c ≤ 5000000) (h1 : Ok a own) (h2 : Ok b other) (h3 : Ok c out) (ho : IdsOk o.Ids) :
    ((impl_combine.f k mode o other).bind fun x48 => ((impl_putAll.f k out x48.1).bind fun x51 => ((impl_without.f k other x48.2).bind fun x54 => ((impl_store.f k mode own o ((x48.1.length : Int) == 0)).bind fun x57 => some (x57, x54, x51))))) = some (halfM mode (own, other, out) o) := by
  have hfo := h2.found (mode := mode) ho
  have hg := h2.gone (mode := mode)
  have := h1.2.2; have := h2.2.2; have := h3.2.2; have := hfo.2.2; have := hg.2.2
  rw [combine_eq k hk mode o other (by omega) h2.2.1 ho]
  simp only [Option.bind_some]
  rw [impl_putAll_eq k hk _ _ (by omega) h3.2.1.few hfo.2.1.few h3.1]
  simp only [Option.bind_some]
  rw [without_eq k hk _ _ (by omega) (by omega) hg.2.1.few hg.1]
  simp only [Option.bind_some]
  have e : (((foundM mode o other).length : Int) == 0) = decide (other.length = 0) := by
    rw [Bool.eq_iff_iff]
    simp only [beq_iff_eq, decide_eq_true_eq]
    rw [← found_len mode o other]
    omega
  rw [e, store_eq k hk mode own o _ a (by omega) h1]
  rfl
/-- the reference's half -/
theorem spec_half (k : Nat) (hk : 1000000000000 ≤ k) (mode : Int) (hmo : 0 ≤ mode ∧ mode ≤ 4) (own other out : List GOcc) (o : GOcc) (a b c : Nat) (ha : a ≤ 100000) (hb : b ≤ 100000) (hc : c ≤ 5000000) (h1 : Ok a own) (h2 : Ok b other) (h3 : Ok c out) (ho : IdsOk o.Ids) :
    ((spec_l4One.f k mode other own o).bind fun x36 => ((spec_l4Merge.f k out x36.2.2).bind fun x39 => some (x36.2.1, x36.1, x39))) = some (halfM mode (own, other, out) o) := by
  have hfo := h2.found (mode := mode) ho
  have := h1.2.2; have := h2.2.2; have := h3.2.2; have := hfo.2.2
  have hfew : Few o := by have := idsOk_len ho; omega
  unfold spec_l4One.f
  rw [whole_eq k hk other (by omega)]
  simp only [Option.bind_some]
  rw [pick_eq k hk mode hmo other _ (by omega) h2.2.1.few]
  simp only [Option.bind_some]
  rw [make_eq k hk mode o other _ (by omega) h2.2.1 ho, spec_put_eq k hk own o (by omega) h1.2.1.few hfew]
  simp only [Option.bind_some, filter_all]
  have mg := spec_merge_eq k hk out (foundM mode o other) (by omega) h3.2.1.few hfo.2.1.few
  unfold halfM storeM
  by_cases m0 : mode = 0
  · rw [if_pos m0]
    simp only [Option.bind_some, mg]
    rw [if_neg (show ¬ mode = 1 by omega), if_pos m0]
  rw [if_neg m0]
  by_cases m1 : mode = 1
  · rw [if_pos m1]
    simp only [Option.bind_some, mg]
    rw [if_pos m1]
  rw [if_neg m1]
  have e : ((pickM mode other fun _ => true).length : Int) = 0 ↔ other.length = 0 := by
    unfold pickM
    rw [filter_all, if_neg m1]
    split
    · rw [List.length_take]; omega
    · omega
  by_cases h0 : other.length = 0
  · rw [if_pos (e.2 h0)]
    simp only [Option.bind_some, mg]
    rw [if_neg m1, if_neg m0, if_pos (show decide (other.length = 0) = true by simpa using h0)]
  · rw [if_neg (fun x => h0 (e.1 x))]
    simp only [Option.bind_some, mg]
    rw [if_neg m1, if_neg m0, if_neg (show ¬ decide (other.length = 0) = true by simpa using h0)]
/- A sequence and a conjunction at a point in time: both programs give one answer. -/
/-- one on the right of a conjunction: left, right, found -/
def otherM (mode : Int) (s : List GOcc × List GOcc × List GOcc) (o : GOcc) : List GOcc × List GOcc × List GOcc :=
  ((halfM mode (s.2.1, s.1, s.2.2) o).2.1, (halfM mode (s.2.1, s.1, s.2.2) o).1, (halfM mode (s.2.1, s.1, s.2.2) o).2.2)
/-- left and right have grown by no more than i, found by no more than i times both -/
def AndInv (m : Nat) (i : Nat) (s : List GOcc × List GOcc × List GOcc) : Prop := Ok (m + i) s.1 ∧ Ok (m + i) s.2.1 ∧ Ok (i * (m + 100)) s.2.2
theorem AndInv.half {m i : Nat} {mode : Int} {s : List GOcc × List GOcc × List GOcc} {o : GOcc} (h : AndInv m i s) (hi : i < 100) (ho : IdsOk o.Ids) : AndInv m (i + 1) (halfM mode s o) := by
  obtain ⟨a, b, c⟩ := halfM_ok (mode := mode) h.1 h.2.1 h.2.2 ho
  refine ⟨a, b.mono (by omega), c.mono ?_⟩
  rw [Nat.succ_mul]; omega
theorem AndInv.other {m i : Nat} {mode : Int} {s : List GOcc × List GOcc × List GOcc} {o : GOcc} (h : AndInv m i s) (hi : i < 100) (ho : IdsOk o.Ids) : AndInv m (i + 1) (otherM mode s o) := by
  obtain ⟨a, b, c⟩ := halfM_ok (mode := mode) (s := (s.2.1, s.1, s.2.2)) h.2.1 h.1 h.2.2 ho
  refine ⟨b.mono (by omega), a, c.mono ?_⟩
  rw [Nat.succ_mul]; omega
def andM (mode : Int) (l r left right : List GOcc) : List GOcc × List GOcc × List GOcc := right.foldl (otherM mode) (left.foldl (halfM mode) (l, r, []))
theorem and_eq (k : Nat) (hk : 1000000000000 ≤ k) (mode : Int) (p : GPair) (left right : List GOcc) (m : Nat) (hm : m ≤ 20000) (h1 : Ok m p.Left) (h2 : Ok m p.Right) (hl : Ids left) (hr : Ids right) (hn : left.length + right.length ≤ 100) :
    impl_Pair_and.f k p mode left right = some (⟨(andM mode p.Left p.Right left right).1, (andM mode p.Left p.Right left right).2.1⟩, (andM mode p.Left p.Right left right).2.2) ∧ AndInv m 100 (andM mode p.Left p.Right left right) := by
  have big : ∀ i, i ≤ 100 → i * (m + 100) ≤ 100 * 20100 := fun i hi => Nat.mul_le_mul hi (by omega)
  have a1 := loop_ret0 (fun s : List GOcc × List GOcc × List GOcc => s) left (fun s e => ((impl_combine.f k mode e s.2.1).bind fun x48 => ((impl_putAll.f k s.2.2 x48.1).bind fun x51 => ((impl_without.f k s.2.1 x48.2).bind fun x54 => ((impl_store.f k mode s.1 e ((x48.1.length : Int) == 0)).bind fun x57 => some (x57, x54, x51)))))) (fun n s i => impl_Pair_and.l0 k mode left n s.1 s.2.1 s.2.2 i) (halfM mode) (AndInv m)
    (fun n s => by rw [impl_Pair_and.l0, if_neg (by omega)])
    (fun n s i h => by
      rw [impl_Pair_and.l0, if_pos (by omega), req_pos (by omega), Int.toNat_natCast, List.getElem?_eq_getElem h]
      simp only [Option.bind_some, Option.bind_assoc]
      rw [wrS i (by omega)])
    (fun i s h hI => ⟨impl_half k hk mode s.1 s.2.1 s.2.2 _ (m + i) (m + i) _ (by omega) (by omega) (by have := big i (by omega); omega) hI.1 hI.2.1 hI.2.2 (hl _ (List.getElem_mem h)), hI.half (by omega) (hl _ (List.getElem_mem h))⟩)
    k (p.Left, p.Right, []) (by omega) ⟨h1, h2, by simpa using Ok.nil 0⟩
  have a2 := loop_ret0 (fun s : List GOcc × List GOcc × List GOcc => s) right (fun s e => ((impl_combine.f k mode e s.1).bind fun x48 => ((impl_putAll.f k s.2.2 x48.1).bind fun x51 => ((impl_without.f k s.1 x48.2).bind fun x54 => ((impl_store.f k mode s.2.1 e ((x48.1.length : Int) == 0)).bind fun x57 => some (x54, x57, x51)))))) (fun n s i => impl_Pair_and.l1 k mode right n s.1 s.2.1 s.2.2 i) (otherM mode) (fun i => AndInv m (left.length + i))
    (fun n s => by rw [impl_Pair_and.l1, if_neg (by omega)])
    (fun n s i h => by
      rw [impl_Pair_and.l1, if_pos (by omega), req_pos (by omega), Int.toNat_natCast, List.getElem?_eq_getElem h]
      simp only [Option.bind_some, Option.bind_assoc]
      rw [wrS i (by omega)])
    (fun i s h hI => by
      have q := impl_half k hk mode s.2.1 s.1 s.2.2 _ (m + (left.length + i)) (m + (left.length + i)) _ (by omega) (by omega) (by have := big (left.length + i) (by omega); omega) hI.2.1 hI.1 hI.2.2 (hr _ (List.getElem_mem h))
      refine ⟨?_, hI.other (by omega) (hr _ (List.getElem_mem h))⟩
      have q2 := congrArg (Option.map fun t : List GOcc × List GOcc × List GOcc => (t.2.1, t.1, t.2.2)) q
      simp only [Option.map_bind, Option.map_some, Function.comp_def] at q2
      exact q2)
    k (left.foldl (halfM mode) (p.Left, p.Right, [])) (by omega) a1.2
  refine ⟨?_, ?_⟩
  · unfold impl_Pair_and.f
    rw [a1.1]
    simp only [Option.bind_some]
    rw [a2.1]
    rfl
  · obtain ⟨x, y, z⟩ := a2.2
    exact ⟨x.mono (by omega), y.mono (by omega), z.mono (Nat.mul_le_mul_right _ (by omega))⟩
/- A conjunction at a point in time, in the reference's words; a sequence whole. -/
theorem spec_and_eq (k : Nat) (hk : 1000000000000 ≤ k) (mode : Int) (hmo : 0 ≤ mode ∧ mode ≤ 4) (p : GPair) (left right : List GOcc) (m : Nat) (hm : m ≤ 20000) (h1 : Ok m p.Left) (h2 : Ok m p.Right) (hl : Ids left) (hr : Ids right) (hn : left.length + right.length ≤ 100) :
    spec_l4And.f k mode p left right = some (⟨(andM mode p.Left p.Right left right).1, (andM mode p.Left p.Right left right).2.1⟩, (andM mode p.Left p.Right left right).2.2) := by
  have big : ∀ i, i ≤ 100 → i * (m + 100) ≤ 100 * 20100 := fun i hi => Nat.mul_le_mul hi (by omega)
  have a1 := loop_ret0 (fun s : List GOcc × List GOcc × List GOcc => s) left (fun s e => ((spec_l4One.f k mode s.2.1 s.1 e).bind fun x36 => ((spec_l4Merge.f k s.2.2 x36.2.2).bind fun x39 => some (x36.2.1, x36.1, x39)))) (fun n s i => spec_l4And.l0 k mode left n s.1 s.2.1 s.2.2 i) (halfM mode) (AndInv m)
    (fun n s => by rw [spec_l4And.l0, if_neg (by omega)])
    (fun n s i h => by
      rw [spec_l4And.l0, if_pos (by omega), req_pos (by omega), Int.toNat_natCast, List.getElem?_eq_getElem h]
      simp only [Option.bind_some, Option.bind_assoc]
      rw [wrS i (by omega)])
    (fun i s h hI => ⟨spec_half k hk mode hmo s.1 s.2.1 s.2.2 _ (m + i) (m + i) _ (by omega) (by omega) (by have := big i (by omega); omega) hI.1 hI.2.1 hI.2.2 (hl _ (List.getElem_mem h)), hI.half (by omega) (hl _ (List.getElem_mem h))⟩)
    k (p.Left, p.Right, []) (by omega) ⟨h1, h2, by simpa using Ok.nil 0⟩
  have a2 := loop_ret0 (fun s : List GOcc × List GOcc × List GOcc => s) right (fun s e => ((spec_l4One.f k mode s.1 s.2.1 e).bind fun x36 => ((spec_l4Merge.f k s.2.2 x36.2.2).bind fun x39 => some (x36.1, x36.2.1, x39)))) (fun n s i => spec_l4And.l1 k mode right n s.1 s.2.1 s.2.2 i) (otherM mode) (fun i => AndInv m (left.length + i))
    (fun n s => by rw [spec_l4And.l1, if_neg (by omega)])
    (fun n s i h => by
      rw [spec_l4And.l1, if_pos (by omega), req_pos (by omega), Int.toNat_natCast, List.getElem?_eq_getElem h]
      simp only [Option.bind_some, Option.bind_assoc]
      rw [wrS i (by omega)])
    (fun i s h hI => by
      have q := spec_half k hk mode hmo s.2.1 s.1 s.2.2 _ (m + (left.length + i)) (m + (left.length + i)) _ (by omega) (by omega) (by have := big (left.length + i) (by omega); omega) hI.2.1 hI.1 hI.2.2 (hr _ (List.getElem_mem h))
      refine ⟨?_, hI.other (by omega) (hr _ (List.getElem_mem h))⟩
      have q2 := congrArg (Option.map fun t : List GOcc × List GOcc × List GOcc => (t.2.1, t.1, t.2.2)) q
      simp only [Option.map_bind, Option.map_some, Function.comp_def] at q2
      exact q2)
    k (left.foldl (halfM mode) (p.Left, p.Right, [])) (by omega) a1.2
  unfold spec_l4And.f
  rw [a1.1]
  simp only [Option.bind_some]
  rw [a2.1]
  rfl
def seqM (mode : Int) (l left right : List GOcc) : List GOcc × List GOcc := (mergeM (right.foldl (oneM mode before) (l, [])).1 left, (right.foldl (oneM mode before) (l, [])).2)
theorem seq_eq (k : Nat) (hk : 1000000000000 ≤ k) (mode : Int) (p : GPair) (left right : List GOcc) (m : Nat) (hm : m ≤ 20000) (h1 : Ok m p.Left) (hl : Ids left) (hr : Ids right) (hn : left.length ≤ 100) (hn2 : right.length ≤ 100) :
    impl_Pair_seq.f k p mode left right = some (⟨(seqM mode p.Left left right).1, p.Right⟩, (seqM mode p.Left left right).2) ∧ Ok (m + left.length) (seqM mode p.Left left right).1 ∧ Ok (100 * m) (seqM mode p.Left left right).2 := by
  obtain ⟨a, b, c⟩ := seq_loop k hk mode right p.Left m 100 hm hn2 (by omega) h1 hr
  have := b.2.2
  refine ⟨?_, ⟨asc_mergeM b.1, ids_merge b.2.1 hl, by have := length_mergeM left (right.foldl (oneM mode before) (p.Left, [])).1; show (mergeM _ _).length ≤ _; omega⟩, c⟩
  unfold impl_Pair_seq.f
  rw [a]
  simp only [Option.bind_some]
  rw [impl_putAll_eq k hk _ _ (by omega) b.2.1.few hl.few b.1]
  rfl
theorem spec_seq_eq (k : Nat) (hk : 1000000000000 ≤ k) (mode : Int) (hmo : 0 ≤ mode ∧ mode ≤ 4) (p : GPair) (left right : List GOcc) (m : Nat) (hm : m ≤ 20000) (h1 : Ok m p.Left) (hl : Ids left) (hr : Ids right) (hn : left.length ≤ 100) (hn2 : right.length ≤ 100) :
    spec_l4Seq.f k mode p left right = some (⟨(seqM mode p.Left left right).1, p.Right⟩, (seqM mode p.Left left right).2) := by
  obtain ⟨_, b, _⟩ := seq_loop k hk mode right p.Left m 100 hm hn2 (by omega) h1 hr
  have := b.2.2
  unfold spec_l4Seq.f
  rw [spec_seq_loop k hk mode hmo right p.Left m 100 hm hn2 (by omega) h1 hr]
  simp only [Option.bind_some]
  rw [spec_merge_eq k hk _ _ (by omega) b.2.1.few hl.few]
  rfl
/- Spans: what lies between, and what is open. -/
def midM (mid : List GOcc) (a b : Int) : Bool := mid.any fun x => decide (a < x.From) && decide (x.To < b)
def openM (mid : List GOcc) (o s : GOcc) : Bool := decide (s.To < o.From) && !midM mid s.To o.From
theorem between_loop (k : Nat) (mid : List GOcc) (a b : Int) (hl : mid.length ≤ 1000000) : ∀ (d i n : Nat), i + d = mid.length → d < n → spec_l5Between.l0 k mid a b n (i : Int) = some (if midM (mid.drop i) a b = true then .error true else .ok ()) := by
  intro d
  induction d with
  | zero =>
    intro i n hi hn
    obtain ⟨n, rfl⟩ : ∃ m, n = m + 1 := ⟨n - 1, by omega⟩
    rw [spec_l5Between.l0, if_neg (by omega), List.drop_eq_nil_of_le (by omega)]
    rfl
  | succ d ih =>
    intro i n hi hn
    obtain ⟨n, rfl⟩ : ∃ m, n = m + 1 := ⟨n - 1, by omega⟩
    have h : i < mid.length := by omega
    have nx := ih (i + 1) n (by omega) (by omega)
    rw [spec_l5Between.l0, if_pos (by omega), req_pos (by omega), Int.toNat_natCast, List.getElem?_eq_getElem h, List.drop_eq_getElem_cons h]
    simp only [Option.bind_some]
    have e : midM (mid[i] :: mid.drop (i + 1)) a b = ((decide (a < mid[i].From) && decide (mid[i].To < b)) || midM (mid.drop (i + 1)) a b) := by unfold midM; rw [List.any_cons]
    rw [e]
    by_cases c1 : a < mid[i].From
    · rw [if_pos c1, req_pos (by omega)]
      by_cases c2 : mid[i].To < b
      · rw [if_pos c2]; simp [c1, c2]
      · rw [if_neg c2, wrS i (by omega), nx]; simp [c2]
    · rw [if_neg c1, wrS i (by omega), nx]; simp [c1]
theorem between_eq (k : Nat) (hk : 1000000000000 ≤ k) (mid : List GOcc) (a b : Int) (hl : mid.length ≤ 1000000) : spec_l5Between.f k mid a b = some (midM mid a b) := by
  unfold spec_l5Between.f
  have := between_loop k mid a b hl mid.length 0 k (by omega) (by omega)
  rw [show ((0 : Nat) : Int) = 0 from rfl, List.drop_zero] at this
  rw [this]
  cases midM mid a b <;> rfl
theorem l5Open_eq (k : Nat) (hk : 1000000000000 ≤ k) (s : GSpan) (o : GOcc) (hl : s.Left.length ≤ 1000000) (hm : s.Mid.length ≤ 1000000) : spec_l5Open.f k s o = some (s.Left.map (openM s.Mid o)) := by
  unfold spec_l5Open.f
  rw [req_pos (by omega), req_pos (by omega), req_pos (by omega)]
  have := loop_set s.Left (openM s.Mid o) (spec_l5Open.l0 k s o) (fun n t => by rw [spec_l5Open.l0, if_neg (by omega)])
    (fun n t i h hs => by
      rw [spec_l5Open.l0, if_pos (by omega), req_pos (by omega), Int.toNat_natCast, List.getElem?_eq_getElem h]
      simp only [Option.bind_some]
      unfold openM
      by_cases c : s.Left[i].To < o.From
      · rw [if_pos c, req_pos (by omega), between_eq k hk _ _ _ hm]
        simp only [Option.bind_some]
        rw [req_pos (by omega), req_pos (by omega), List.getElem?_eq_getElem (show i < t.length by omega)]
        simp only [Option.bind_some]
        rw [wrS i (by omega)]
        simp [c]
      · rw [if_neg c, req_pos (by omega), req_pos (by omega), List.getElem?_eq_getElem (show i < t.length by omega)]
        simp only [Option.bind_some]
        rw [wrS i (by omega)]
        simp [c])
    s.Left.length 0 k (List.replicate s.Left.length false) (by omega) (by omega) (by simp) (by simp)
  rw [show ((0 : Nat) : Int) = 0 from rfl] at this
  rw [this]; rfl
/- Open spans in the program. -/
theorem index_loop (k : Nat) (g1 : GOcc → Option Bool) (p : GOcc → Bool) (l : List GOcc) (hl : l.length ≤ 1000000) (hp : ∀ x ∈ l, g1 x = some (p x)) : ∀ (d i n : Nat), i + d = l.length → d < n →
    ∃ r, slices_IndexFunc_2.l0 k g1 l n (i : Int) = some r ∧ (((l.drop i).any p = false ∧ r = .ok ()) ∨ ((l.drop i).any p = true ∧ ∃ j : Nat, r = .error (j : Int))) := by
  intro d
  induction d with
  | zero =>
    intro i n hi hn
    obtain ⟨n, rfl⟩ : ∃ m, n = m + 1 := ⟨n - 1, by omega⟩
    rw [slices_IndexFunc_2.l0, if_neg (by omega), List.drop_eq_nil_of_le (by omega)]
    exact ⟨_, rfl, .inl ⟨rfl, rfl⟩⟩
  | succ d ih =>
    intro i n hi hn
    obtain ⟨n, rfl⟩ : ∃ m, n = m + 1 := ⟨n - 1, by omega⟩
    have h : i < l.length := by omega
    rw [slices_IndexFunc_2.l0, if_pos (by omega), req_pos (by omega), Int.toNat_natCast, List.getElem?_eq_getElem h, List.drop_eq_getElem_cons h]
    simp only [Option.bind_some, hp _ (List.getElem_mem h), List.any_cons]
    by_cases c : p l[i] = true
    · rw [if_pos c]
      exact ⟨_, rfl, .inr ⟨by simp [c], i, rfl⟩⟩
    · rw [if_neg c, wrS i (by omega)]
      have c' : p l[i] = false := by simpa using c
      rw [c', Bool.false_or]
      exact ih (i + 1) n (by omega) (by omega)
theorem contains_eq (k : Nat) (hk : 1000000000000 ≤ k) (g1 : GOcc → Option Bool) (p : GOcc → Bool) (l : List GOcc) (hl : l.length ≤ 1000000) (hp : ∀ x ∈ l, g1 x = some (p x)) : slices_ContainsFunc_2.f g1 k l = some (l.any p) := by
  unfold slices_ContainsFunc_2.f slices_IndexFunc_2.f
  obtain ⟨r, h1, h2⟩ := index_loop k g1 p l hl hp l.length 0 k (by omega) (by omega)
  rw [show ((0 : Nat) : Int) = 0 from rfl] at h1
  rw [List.drop_zero] at h2
  rw [h1]
  rcases h2 with ⟨h2, rfl⟩ | ⟨h2, j, rfl⟩
  · rw [h2]; rfl
  · rw [h2]
    simp only [Option.bind_some]
    congr 1
theorem open_eq (k : Nat) (hk : 1000000000000 ≤ k) (s : GSpan) (o : GOcc) (hl : s.Left.length ≤ 1000000) (hm : s.Mid.length ≤ 1000000) : impl_Span_open.f k s o = some (s.Left.filter (openM s.Mid o)) := by
  unfold impl_Span_open.f
  rw [those_eq k hk _ (openM s.Mid o) s.Left hl (fun x hx => by
    unfold impl_Span_open_1.f openM
    by_cases c : x.To < o.From
    · rw [if_pos c, contains_eq k hk _ (fun y => decide (x.To < y.From) && decide (y.To < o.From)) s.Mid hm (fun y hy => by
        unfold impl_Span_open_1_1.f
        by_cases c2 : x.To < y.From
        · rw [if_pos c2]; simp [c2]
        · rw [if_neg c2]; simp [c2])]
      simp only [Option.bind_some, midM]
      simp [c]
    · rw [if_neg c]; simp [c])]
  rfl
/- An absence at a point in time: both programs. -/
theorem not_loop (k : Nat) (hk : 1000000000000 ≤ k) (mode : Int) (sp : GSpan) (right : List GOcc) (m : Nat) (hm : m ≤ 20000) (hc : right.length ≤ 100) (hl : Ok m sp.Left) (hmid : sp.Mid.length ≤ 1000000) (hr : Ids right) :
    impl_Span_not.l0 k sp mode right k sp.Left [] 0 = some (right.foldl (oneM mode (openM sp.Mid)) (sp.Left, [])) ∧ Ok m (right.foldl (oneM mode (openM sp.Mid)) (sp.Left, [])).1 ∧ Ok (100 * m) (right.foldl (oneM mode (openM sp.Mid)) (sp.Left, [])).2 := by
  have := loop_ret0 (fun s : List GOcc × List GOcc => s) right (fun s e => (impl_Span_open.f k ⟨s.1, sp.Mid⟩ e).bind fun x46 => ((impl_combine.f k mode e x46).bind fun x49 => ((impl_putAll.f k s.2 x49.1).bind fun x52 => ((impl_without.f k s.1 x49.2).bind fun x55 => some (x55, x52))))) (fun n s i => impl_Span_not.l0 k sp mode right n s.1 s.2 i) (oneM mode (openM sp.Mid)) (fun i s => Ok m s.1 ∧ Ok (i * m) s.2)
    (fun n s => by rw [impl_Span_not.l0, if_neg (by omega)])
    (fun n s i h => by
      rw [impl_Span_not.l0, if_pos (by omega), req_pos (by omega), Int.toNat_natCast, List.getElem?_eq_getElem h]
      simp only [Option.bind_some, Option.bind_assoc]
      rw [wrS i (by omega)])
    (fun i s h hI => by
      obtain ⟨h1, h2⟩ := hI
      have ho := hr _ (List.getElem_mem h)
      have hb : i * m ≤ 100 * 20000 := Nat.mul_le_mul (by omega) hm
      have hf := h1.filter (openM sp.Mid right[i])
      have hfo := hf.found (mode := mode) ho
      have hg := hf.gone (mode := mode)
      have := h1.2.2; have := h2.2.2; have := hf.2.2; have := hfo.2.2; have := hg.2.2
      refine ⟨?_, ?_⟩
      · rw [open_eq k hk ⟨s.1, sp.Mid⟩ _ (show s.1.length ≤ 1000000 by omega) hmid]
        simp only [Option.bind_some]
        rw [combine_eq k hk mode _ _ (by omega) hf.2.1 ho]
        simp only [Option.bind_some]
        rw [impl_putAll_eq k hk _ _ (by omega) h2.2.1.few hfo.2.1.few h2.1]
        simp only [Option.bind_some]
        rw [without_eq k hk _ _ (by omega) (by omega) hg.2.1.few hg.1]
        rfl
      · have := oneM_ok (mode := mode) (p := openM sp.Mid) h1 h2 ho
        refine ⟨this.1, ?_⟩
        rw [Nat.succ_mul]
        exact this.2)
    k (sp.Left, []) (by omega) ⟨hl, by simpa using Ok.nil 0⟩
  exact ⟨this.1, this.2.1, this.2.2.mono (Nat.mul_le_mul_right _ hc)⟩
theorem spec_not_loop (k : Nat) (hk : 1000000000000 ≤ k) (mode : Int) (hmo : 0 ≤ mode ∧ mode ≤ 4) (sp : GSpan) (right : List GOcc) (m : Nat) (hm : m ≤ 20000) (hc : right.length ≤ 100) (hl : Ok m sp.Left) (hmid : sp.Mid.length ≤ 1000000) (hr : Ids right) :
    spec_l5Not.l0 k mode sp right k sp.Left [] 0 = some (right.foldl (oneM mode (openM sp.Mid)) (sp.Left, [])) := by
  have := loop_ret0 (fun s : List GOcc × List GOcc => s) right (fun s e => (spec_l5Open.f k ⟨s.1, sp.Mid⟩ e).bind fun x52 => ((spec_l4Pick.f k mode s.1 x52).bind fun x55 => ((spec_l4Make.f k mode x55.1 e).bind fun x61 => ((spec_l4Merge.f k s.2 x61).bind fun x64 => some (x55.2, x64))))) (fun n s i => spec_l5Not.l0 k mode sp right n s.1 s.2 i) (oneM mode (openM sp.Mid)) (fun i s => Ok m s.1 ∧ Ok (i * m) s.2)
    (fun n s => by rw [spec_l5Not.l0, if_neg (by omega)])
    (fun n s i h => by
      rw [spec_l5Not.l0, if_pos (by omega), req_pos (by omega), Int.toNat_natCast, List.getElem?_eq_getElem h]
      simp only [Option.bind_some, Option.bind_assoc]
      simp only [req_pos (show (0 : Int) ≤ (i : Int) by omega), wrS i (show i < 4611686018427387904 by omega)])
    (fun i s h hI => by
      obtain ⟨h1, h2⟩ := hI
      have ho := hr _ (List.getElem_mem h)
      have hb : i * m ≤ 100 * 20000 := Nat.mul_le_mul (by omega) hm
      have hf := h1.filter (openM sp.Mid right[i])
      have hfo := hf.found (mode := mode) ho
      have := h1.2.2; have := h2.2.2; have := hf.2.2; have := hfo.2.2
      refine ⟨?_, ?_⟩
      · rw [l5Open_eq k hk ⟨s.1, sp.Mid⟩ _ (show s.1.length ≤ 1000000 by omega) hmid]
        simp only [Option.bind_some]
        rw [pick_eq k hk mode hmo _ _ (by omega) h1.2.1.few]
        simp only [Option.bind_some]
        rw [make_eq k hk mode _ _ _ (by omega) h1.2.1 ho]
        simp only [Option.bind_some]
        rw [spec_merge_eq k hk _ _ (by omega) h2.2.1.few hfo.2.1.few]
        rfl
      · have := oneM_ok (mode := mode) (p := openM sp.Mid) h1 h2 ho
        refine ⟨this.1, ?_⟩
        rw [Nat.succ_mul]
        exact this.2)
    k (sp.Left, []) (by omega) ⟨hl, by simpa using Ok.nil 0⟩
  exact this.1
/- An absence whole; a repetition in the program. -/
def notM (mode : Int) (l mid a b c : List GOcc) : List GOcc × List GOcc × List GOcc := (mergeM (c.foldl (oneM mode (openM mid)) (l, [])).1 a, mergeM mid b, (c.foldl (oneM mode (openM mid)) (l, [])).2)
theorem not_eq (k : Nat) (hk : 1000000000000 ≤ k) (mode : Int) (sp : GSpan) (a b c : List GOcc) (m : Nat) (hm : m ≤ 20000) (h1 : Ok m sp.Left) (h2 : Ok m sp.Mid) (ha : Ids a) (hb : Ids b) (hc : Ids c) (na : a.length ≤ 100) (nb : b.length ≤ 100) (nc : c.length ≤ 100) :
    impl_Span_not.f k sp mode a b c = some (⟨(notM mode sp.Left sp.Mid a b c).1, (notM mode sp.Left sp.Mid a b c).2.1⟩, (notM mode sp.Left sp.Mid a b c).2.2) ∧ Ok (m + a.length) (notM mode sp.Left sp.Mid a b c).1 ∧ Ok (m + b.length) (notM mode sp.Left sp.Mid a b c).2.1 ∧ Ok (100 * m) (notM mode sp.Left sp.Mid a b c).2.2 := by
  have q := h2.2.2
  obtain ⟨x, y, z⟩ := not_loop k hk mode sp c m hm nc h1 (by omega) hc
  have := y.2.2
  refine ⟨?_, ⟨asc_mergeM y.1, ids_merge y.2.1 ha, Nat.le_trans (length_mergeM _ _) (by omega)⟩, ⟨asc_mergeM h2.1, ids_merge h2.2.1 hb, Nat.le_trans (length_mergeM _ _) (by omega)⟩, z⟩
  unfold impl_Span_not.f
  rw [x]
  simp only [Option.bind_some]
  rw [impl_putAll_eq k hk _ _ (by omega) y.2.1.few ha.few y.1]
  simp only [Option.bind_some]
  rw [impl_putAll_eq k hk _ _ (by omega) h2.2.1.few hb.few h2.1]
  rfl
theorem spec_not_eq (k : Nat) (hk : 1000000000000 ≤ k) (mode : Int) (hmo : 0 ≤ mode ∧ mode ≤ 4) (sp : GSpan) (a b c : List GOcc) (m : Nat) (hm : m ≤ 20000) (h1 : Ok m sp.Left) (h2 : Ok m sp.Mid) (ha : Ids a) (hb : Ids b) (hc : Ids c) (na : a.length ≤ 100) (nb : b.length ≤ 100) (nc : c.length ≤ 100) :
    spec_l5Not.f k mode sp a b c = some (⟨(notM mode sp.Left sp.Mid a b c).1, (notM mode sp.Left sp.Mid a b c).2.1⟩, (notM mode sp.Left sp.Mid a b c).2.2) := by
  have q := h2.2.2
  obtain ⟨_, y, _⟩ := not_loop k hk mode sp c m hm nc h1 (by omega) hc
  have := y.2.2
  unfold spec_l5Not.f
  rw [spec_not_loop k hk mode hmo sp c m hm nc h1 (by omega) hc]
  simp only [Option.bind_some]
  rw [spec_merge_eq k hk _ _ (by omega) y.2.1.few ha.few]
  simp only [Option.bind_some]
  rw [spec_merge_eq k hk _ _ (by omega) h2.2.1.few hb.few]
  rfl
/- What is paired, all left waiting. -/
theorem pickd_l0 (k : Nat) (hk : 1000000000000 ≤ k) (l : List GOcc) (p : GOcc → Bool) (hl : l.length ≤ 1000000) : spec_l4Pick_d1.l0 k l (l.map p) k [] 0 = some (l.filter p) := by
  have := loop_fold0 l (fun s e => if p e = true then (req ((s.length + 1) * 40 ≤ 140737488355328) (some (s ++ [e]))) else some s) (spec_l4Pick_d1.l0 k l (l.map p)) (fun s e => if p e = true then s ++ [e] else s) (fun i s => s.length ≤ i)
    (fun n s => by rw [spec_l4Pick_d1.l0, if_neg (by omega)])
    (fun n s i h => by
      rw [spec_l4Pick_d1.l0, if_pos (by omega), req_pos (by omega), Int.toNat_natCast, List.getElem?_map, List.getElem?_eq_getElem h]
      simp only [Option.map_some, Option.bind_some]
      rw [wrS i (by omega)]
      split
      · rw [req_pos (by omega), req_pos (by omega)]; unfold req; split <;> rfl
      · rfl)
    (fun i s h hI => by
      by_cases c : p l[i] = true
      · rw [if_pos c, if_pos c, req_pos (by omega)]; exact ⟨rfl, by simp; omega⟩
      · rw [if_neg c, if_neg c]; exact ⟨rfl, by omega⟩)
    k [] (by omega) (by simp)
  rw [this.1, fold_filter]; rfl
theorem pickd_l2 (k : Nat) (hk : 1000000000000 ≤ k) (l : List GOcc) (p : GOcc → Bool) (hl : l.length ≤ 1000000) : spec_l4Pick_d1.l2 k l (l.map p) k [] 0 = some (l.filter fun e => !p e) := by
  have := loop_fold0 l (fun s e => if p e = true then some s else (req ((s.length + 1) * 40 ≤ 140737488355328) (some (s ++ [e])))) (spec_l4Pick_d1.l2 k l (l.map p)) (fun s e => if (!p e) = true then s ++ [e] else s) (fun i s => s.length ≤ i)
    (fun n s => by rw [spec_l4Pick_d1.l2, if_neg (by omega)])
    (fun n s i h => by
      rw [spec_l4Pick_d1.l2, if_pos (by omega), req_pos (by omega), Int.toNat_natCast, List.getElem?_map, List.getElem?_eq_getElem h]
      simp only [Option.map_some, Option.bind_some]
      rw [wrS i (by omega)]
      split
      · rfl
      · rw [req_pos (by omega), req_pos (by omega)]; unfold req; split <;> rfl)
    (fun i s h hI => by
      by_cases c : p l[i] = true
      · rw [if_pos c, if_neg (by simp [c])]; exact ⟨rfl, by omega⟩
      · rw [if_neg c, if_pos (by simp [c]), req_pos (by omega)]; exact ⟨rfl, by simp; omega⟩)
    k [] (by omega) (by simp)
  rw [this.1, fold_filter]; rfl
theorem pickd_l1 (k : Nat) (hk : 1000000000000 ≤ k) (l : List GOcc) (p : GOcc → Bool) (hl : l.length ≤ 1000000) (hf : Fews l) (x : GOcc) (t : List GOcc) : spec_l4Pick_d1.l1 k l (l.map p) (x :: t) k [] 0 = some (l.filter fun e => !(p e && decide (occCmp e x = 0))) := by
  have := loop_fold0 l (fun s e => if p e = true then (if occCmp e x = 0 then some s else (req ((s.length + 1) * 40 ≤ 140737488355328) (some (s ++ [e])))) else (req ((s.length + 1) * 40 ≤ 140737488355328) (some (s ++ [e])))) (spec_l4Pick_d1.l1 k l (l.map p) (x :: t)) (fun s e => if (!(p e && decide (occCmp e x = 0))) = true then s ++ [e] else s) (fun i s => s.length ≤ i)
    (fun n s => by rw [spec_l4Pick_d1.l1, if_neg (by omega)])
    (fun n s i h => by
      rw [spec_l4Pick_d1.l1, if_pos (by omega), req_pos (by omega), Int.toNat_natCast, List.getElem?_map, List.getElem?_eq_getElem h]
      simp only [Option.map_some, Option.bind_some]
      rw [wrS i (by omega)]
      split
      · rw [req_pos (by omega), req_pos (by omega), req_pos (by omega), req_pos (by omega)]
        simp only [List.getElem?_cons_zero, Option.bind_some, same_k _ x (hf _ (List.getElem_mem h)) k hk]
        by_cases c : occCmp l[i] x = 0
        · rw [if_pos (by simpa using c), if_pos c]; rfl
        · rw [if_neg (by simpa using c), if_neg c, req_pos (by omega), req_pos (by omega)]; unfold req; split <;> rfl
      · rw [req_pos (by omega), req_pos (by omega)]; unfold req; split <;> rfl)
    (fun i s h hI => by
      by_cases c : p l[i] = true
      · by_cases c2 : occCmp l[i] x = 0
        · rw [if_pos c, if_pos c2, if_neg (by simp [c, c2])]; exact ⟨rfl, by omega⟩
        · rw [if_pos c, if_neg c2, if_pos (by simp [c2]), req_pos (by omega)]; exact ⟨rfl, by simp; omega⟩
      · rw [if_neg c, if_pos (by simp [c]), req_pos (by omega)]; exact ⟨rfl, by simp; omega⟩)
    k [] (by omega) (by simp)
  rw [this.1, fold_filter]; rfl
theorem pickd_eq (k : Nat) (hk : 1000000000000 ≤ k) (mode : Int) (l : List GOcc) (p : GOcc → Bool) (hl : l.length ≤ 1000000) (hf : Fews l) :
    spec_l4Pick_d1.f k mode l (l.map p) = some (pickM mode l p, l) := by
  unfold spec_l4Pick_d1.f pickM
  rw [pickd_l0 k hk l p hl]
  simp only [Option.bind_some]
  have hlen : (l.filter p).length ≤ l.length := List.length_filter_le _ _
  generalize hs : l.filter p = s at hlen ⊢
  by_cases h0 : s.length = 0
  · rw [if_pos (by omega)]
    have e : s = [] := List.length_eq_zero_iff.1 h0
    subst e
    simp
  rw [if_neg (by omega)]
  by_cases m0 : mode = 0
  · subst m0
    simp
  rw [if_neg m0]
  by_cases m1 : mode = 1
  · obtain ⟨j, hj⟩ : ∃ j, s.length = j + 1 := ⟨s.length - 1, by omega⟩
    have e : IntKind.wrap .i64 (((s.length : Nat) : Int) - 1) = (j : Int) := by rw [hj]; exact wrP j (by omega)
    rw [if_pos m1, if_pos m1, e, req_pos (by omega), req_pos (by omega), req_pos (by omega), Int.toNat_natCast, show s.length - 1 = j by omega, List.take_of_length_le (by rw [List.length_drop]; omega)]
  rw [if_neg m1, if_neg m1]
  by_cases m2 : mode = 2
  · rw [if_pos m2, if_pos m2, req_pos (by omega), req_pos (by omega), req_pos (by omega)]
    cases s with
    | nil => simp at h0
    | cons x t =>
      rw [pickd_l1 k hk l p hl hf x t]
      rfl
  rw [if_neg m2, if_neg m2, pickd_l2 k hk l p hl]
  rfl
/- A repetition at a point in time: both programs. -/
def foundAll (mode : Int) (l mid b : List GOcc) : List GOcc := b.foldl (fun s o => mergeM s (foundM mode o (l.filter (openM mid o)))) []
def eachStep (mode : Int) (l mid a b c : List GOcc) : List GOcc × List GOcc × List GOcc := (mergeM l a, mergeM mid c, foundAll mode l mid b)
theorem each_eq (k : Nat) (hk : 1000000000000 ≤ k) (mode : Int) (sp : GSpan) (a b c : List GOcc) (m : Nat) (hm : m ≤ 20000) (h1 : Ok m sp.Left) (h2 : Ok m sp.Mid) (ha : Ids a) (hb : Ids b) (hc : Ids c) (na : a.length ≤ 100) (nb : b.length ≤ 100) (nc : c.length ≤ 100) :
    impl_Span_each.f k sp mode a b c = some (⟨(eachStep mode sp.Left sp.Mid a b c).1, (eachStep mode sp.Left sp.Mid a b c).2.1⟩, (eachStep mode sp.Left sp.Mid a b c).2.2) ∧ Ok (m + a.length) (eachStep mode sp.Left sp.Mid a b c).1 ∧ Ok (m + c.length) (eachStep mode sp.Left sp.Mid a b c).2.1 ∧ Ok (100 * m) (eachStep mode sp.Left sp.Mid a b c).2.2 := by
  have q1 := h1.2.2
  have q2 := h2.2.2
  have := loop_fold0 b (fun s e => (impl_Span_open.f k sp e).bind fun x38 => ((impl_combine.f k mode e x38).bind fun x41 => impl_putAll.f k s x41.1)) (impl_Span_each.l0 k sp mode b) (fun s o => mergeM s (foundM mode o (sp.Left.filter (openM sp.Mid o)))) (fun i s => Ok (i * m) s)
    (fun n s => by rw [impl_Span_each.l0, if_neg (by omega)])
    (fun n s i h => by
      rw [impl_Span_each.l0, if_pos (by omega), req_pos (by omega), Int.toNat_natCast, List.getElem?_eq_getElem h]
      simp only [Option.bind_some, Option.bind_assoc]
      rw [wrS i (by omega)])
    (fun i s h hI => by
      have ho := hb _ (List.getElem_mem h)
      have hbm : i * m ≤ 100 * 20000 := Nat.mul_le_mul (by omega) hm
      have hf := h1.filter (openM sp.Mid b[i])
      have hfo := hf.found (mode := mode) ho
      have := hI.2.2; have := hf.2.2; have := hfo.2.2
      refine ⟨?_, ?_⟩
      · rw [open_eq k hk sp _ (by omega) (by omega)]
        simp only [Option.bind_some]
        rw [combine_eq k hk mode _ _ (by omega) hf.2.1 ho]
        simp only [Option.bind_some]
        rw [impl_putAll_eq k hk _ _ (by omega) hI.2.1.few hfo.2.1.few hI.1]
      · rw [Nat.succ_mul]
        exact hI.merge hfo)
    k [] (by omega) (by simpa using Ok.nil 0)
  refine ⟨?_, ⟨asc_mergeM h1.1, ids_merge h1.2.1 ha, Nat.le_trans (length_mergeM _ _) (by omega)⟩, ⟨asc_mergeM h2.1, ids_merge h2.2.1 hc, Nat.le_trans (length_mergeM _ _) (by omega)⟩, this.2.mono (Nat.mul_le_mul_right _ nb)⟩
  unfold impl_Span_each.f
  rw [this.1]
  simp only [Option.bind_some]
  rw [impl_putAll_eq k hk _ _ (by omega) h1.2.1.few ha.few h1.1]
  simp only [Option.bind_some]
  rw [impl_putAll_eq k hk _ _ (by omega) h2.2.1.few hc.few h2.1]
  rfl
/- A repetition at a point in time, in the reference's words. -/
theorem spec_each_eq (k : Nat) (hk : 1000000000000 ≤ k) (mode : Int) (sp : GSpan) (a b c : List GOcc) (m : Nat) (hm : m ≤ 20000) (h1 : Ok m sp.Left) (h2 : Ok m sp.Mid) (ha : Ids a) (hb : Ids b) (hc : Ids c) (na : a.length ≤ 100) (nb : b.length ≤ 100) (nc : c.length ≤ 100) :
    spec_l5Each.f k mode sp a b c = some (⟨(eachStep mode sp.Left sp.Mid a b c).1, (eachStep mode sp.Left sp.Mid a b c).2.1⟩, (eachStep mode sp.Left sp.Mid a b c).2.2) := by
  have q1 := h1.2.2
  have q2 := h2.2.2
  have := loop_ret0 (fun s : List GOcc => (sp.Left, s)) b (fun s e => (spec_l4Make.f k mode (pickM mode sp.Left (openM sp.Mid e)) e).bind fun x63 => spec_l4Merge.f k s x63) (fun n s i => spec_l5Each.l0 k mode sp b n sp.Left s i) (fun s o => mergeM s (foundM mode o (sp.Left.filter (openM sp.Mid o)))) (fun i s => Ok (i * m) s)
    (fun n s => by rw [spec_l5Each.l0, if_neg (by omega)])
    (fun n s i h => by
      rw [spec_l5Each.l0, if_pos (by omega), req_pos (by omega), Int.toNat_natCast, List.getElem?_eq_getElem h]
      simp only [Option.bind_some, Option.bind_assoc]
      rw [l5Open_eq k hk ⟨sp.Left, sp.Mid⟩ _ (show sp.Left.length ≤ 1000000 by omega) (show sp.Mid.length ≤ 1000000 by omega)]
      simp only [Option.bind_some]
      rw [pickd_eq k hk mode _ _ (by omega) h1.2.1.few]
      simp only [Option.bind_some]
      rw [req_pos trivial, req_pos (by omega), wrS i (by omega)])
    (fun i s h hI => by
      have ho := hb _ (List.getElem_mem h)
      have hbm : i * m ≤ 100 * 20000 := Nat.mul_le_mul (by omega) hm
      have hf := h1.filter (openM sp.Mid b[i])
      have hfo := hf.found (mode := mode) ho
      have := hI.2.2; have := hf.2.2; have := hfo.2.2
      refine ⟨?_, ?_⟩
      · rw [make_eq k hk mode _ _ _ (by omega) h1.2.1 ho]
        simp only [Option.bind_some]
        rw [spec_merge_eq k hk _ _ (by omega) hI.2.1.few hfo.2.1.few]
      · rw [Nat.succ_mul]
        exact hI.merge hfo)
    k [] (by omega) (by simpa using Ok.nil 0)
  unfold spec_l5Each.f
  rw [this.1]
  simp only [Option.bind_some]
  rw [spec_merge_eq k hk _ _ (by omega) h1.2.1.few ha.few]
  simp only [Option.bind_some]
  rw [spec_merge_eq k hk _ _ (by omega) h2.2.1.few hc.few]
  rfl
/- Points in time at which something is found: both programs. -/
def hit (t : Int) (l : List GOcc) : Bool := l.any fun x => x.To == t
theorem l12_eq (k : Nat) (ls : List (List GOcc)) (t : Int) (j : Nat) (l : List GOcc) (hj : ls[j]? = some l) (hl : l.length ≤ 1000000) : ∀ (d i n : Nat) (b : Bool), i + d = l.length → d < n → spec_l4Times.l12 k ls t (j : Int) n b (i : Int) = some (b || hit t (l.drop i)) := by
  intro d
  induction d with
  | zero =>
    intro i n b hi hn
    obtain ⟨n, rfl⟩ : ∃ m, n = m + 1 := ⟨n - 1, by omega⟩
    rw [spec_l4Times.l12, req_pos (by omega), Int.toNat_natCast, hj]
    simp only [Option.bind_some]
    rw [if_neg (by omega), List.drop_eq_nil_of_le (by omega)]
    simp [hit]
  | succ d ih =>
    intro i n b hi hn
    obtain ⟨n, rfl⟩ : ∃ m, n = m + 1 := ⟨n - 1, by omega⟩
    have h : i < l.length := by omega
    rw [spec_l4Times.l12, req_pos (by omega), Int.toNat_natCast, hj]
    simp only [Option.bind_some]
    rw [if_pos (by omega), List.drop_eq_getElem_cons h]
    have e : hit t (l[i] :: l.drop (i + 1)) = ((l[i].To == t) || hit t (l.drop (i + 1))) := by unfold hit; rw [List.any_cons]
    rw [e]
    cases b
    · rw [if_neg (by simp), req_pos (by omega), req_pos (by omega), Int.toNat_natCast, List.getElem?_eq_getElem h]
      simp only [Option.bind_some]
      rw [wrS i (by omega), ih (i + 1) n _ (by omega) (by omega)]
      simp
    · rw [if_pos rfl, wrS i (by omega), ih (i + 1) n _ (by omega) (by omega)]
      simp
theorem l11_eq (k : Nat) (hk : 1000000000000 ≤ k) (ls : List (List GOcc)) (t : Int) (hn : ls.length ≤ 10) (hl : ∀ l ∈ ls, l.length ≤ 1000000) : ∀ (d i n : Nat) (b : Bool), i + d = ls.length → d < n → spec_l4Times.l11 k ls t n b (i : Int) = some (b || (ls.drop i).any (hit t)) := by
  intro d
  induction d with
  | zero =>
    intro i n b hi hn
    obtain ⟨n, rfl⟩ : ∃ m, n = m + 1 := ⟨n - 1, by omega⟩
    rw [spec_l4Times.l11, if_neg (by omega), List.drop_eq_nil_of_le (by omega)]
    simp
  | succ d ih =>
    intro i n b hi hn'
    obtain ⟨n, rfl⟩ : ∃ m, n = m + 1 := ⟨n - 1, by omega⟩
    have h : i < ls.length := by omega
    have hli := hl _ (List.getElem_mem h)
    have q := l12_eq k ls t i ls[i] (List.getElem?_eq_getElem h) hli ls[i].length 0 k b (by omega) (by omega)
    rw [show ((0 : Nat) : Int) = 0 from rfl, List.drop_zero] at q
    rw [spec_l4Times.l11, if_pos (by omega), q]
    simp only [Option.bind_some]
    rw [wrS i (by omega), ih (i + 1) n _ (by omega) (by omega), List.drop_eq_getElem_cons h, List.any_cons, Bool.or_assoc]
def timesM (ls : List (List GOcc)) : List Int := ((List.range' 1 2000).filter fun t : Nat => ls.any (hit (t : Int))).map fun t : Nat => (t : Int)
theorem l8_eq (k : Nat) (hk : 1000000000000 ≤ k) (ls : List (List GOcc)) (hn : ls.length ≤ 10) (hl : ∀ l ∈ ls, l.length ≤ 1000000) : ∀ (d t n : Nat) (acc : List Int), t + d = 2001 → d < n → acc.length ≤ t → spec_l4Times.l8 k ls n acc (t : Int) = some (acc ++ ((List.range' t d).filter fun t : Nat => ls.any (hit (t : Int))).map fun t : Nat => (t : Int)) := by
  intro d
  induction d with
  | zero =>
    intro t n acc ht hn' ha
    obtain ⟨n, rfl⟩ : ∃ m, n = m + 1 := ⟨n - 1, by omega⟩
    rw [spec_l4Times.l8, if_pos (by omega)]
    simp
  | succ d ih =>
    intro t n acc ht hn' ha
    obtain ⟨n, rfl⟩ : ∃ m, n = m + 1 := ⟨n - 1, by omega⟩
    have q := l11_eq k hk ls (t : Int) hn hl ls.length 0 k false (by omega) (by omega)
    rw [show ((0 : Nat) : Int) = 0 from rfl, List.drop_zero, Bool.false_or] at q
    rw [spec_l4Times.l8, if_neg (by omega), q, List.range'_succ]
    simp only [Option.bind_some]
    by_cases c : ls.any (hit (t : Int)) = true
    · rw [if_pos c, req_pos (by omega), wrS t (by omega), ih (t + 1) n _ (by omega) (by omega) (by simp; omega), List.filter_cons, if_pos c]
      simp
    · rw [if_neg c, wrS t (by omega), ih (t + 1) n _ (by omega) (by omega) (by omega), List.filter_cons, if_neg c]
theorem l4Times_eq (k : Nat) (hk : 1000000000000 ≤ k) (ls : List (List GOcc)) (hn : ls.length ≤ 10) (hl : ∀ l ∈ ls, l.length ≤ 1000000) : spec_l4Times.f k ls = some (timesM ls) := by
  unfold spec_l4Times.f
  have := l8_eq k hk ls hn hl 2000 1 k [] (by omega) (by omega) (by simp)
  rw [show ((1 : Nat) : Int) = 1 from rfl] at this
  rw [this]; rfl
/- Points in time, in the program. -/
theorem fold_map {α β : Type} (f : α → β) (l : List α) (acc : List β) : l.foldl (fun s e => s ++ [f e]) acc = acc ++ l.map f := by
  induction l generalizing acc with
  | nil => simp
  | cons x l ih => rw [List.foldl_cons, ih]; simp
theorem fold_flat (ls : List (List GOcc)) (acc : List Int) : ls.foldl (fun s l => s ++ l.map (·.To)) acc = acc ++ (ls.map fun l => l.map (·.To)).flatten := by
  induction ls generalizing acc with
  | nil => simp
  | cons x l ih => rw [List.foldl_cons, ih]; simp
theorem t3_eq (k : Nat) (hk : 1000000000000 ≤ k) (l : List GOcc) (acc : List Int) (hl : l.length ≤ 1000) (ha : acc.length ≤ 100000) : impl_times.l3 k l k acc 0 = some (acc ++ l.map (·.To)) := by
  have := loop_fold0 l (fun s e => req ((s.length + 1) * 8 ≤ 140737488355328) (some (s ++ [e.To]))) (impl_times.l3 k l) (fun s e => s ++ [e.To]) (fun i s => s.length ≤ 100000 + i)
    (fun n s => by rw [impl_times.l3, if_neg (by omega)])
    (fun n s i h => by
      rw [impl_times.l3, if_pos (by omega), req_pos (by omega), Int.toNat_natCast, List.getElem?_eq_getElem h]
      simp only [Option.bind_some]
      rw [wrS i (by omega)]
      unfold req; split <;> rfl)
    (fun i s h hI => ⟨by rw [req_pos (by omega)], by simp; omega⟩) k acc (by omega) (by omega)
  rw [this.1, fold_map]
theorem t2_eq (k : Nat) (hk : 1000000000000 ≤ k) (ls : List (List GOcc)) (hn : ls.length ≤ 10) (hl : ∀ l ∈ ls, l.length ≤ 1000) : impl_times.l2 k ls k [] 0 = some (ls.map fun l => l.map (·.To)).flatten ∧ (ls.map fun l => l.map (·.To)).flatten.length ≤ 10000 := by
  have := loop_fold0 ls (fun s e => impl_times.l3 k e k s 0) (impl_times.l2 k ls) (fun s l => s ++ l.map (·.To)) (fun i s => s.length ≤ 1000 * i)
    (fun n s => by rw [impl_times.l2, if_neg (by omega)])
    (fun n s i h => by
      rw [impl_times.l2, if_pos (by omega), req_pos (by omega), Int.toNat_natCast, List.getElem?_eq_getElem h]
      simp only [Option.bind_some]
      rw [wrS i (by omega)])
    (fun i s h hI => by
      have := hl _ (List.getElem_mem h)
      exact ⟨t3_eq k hk _ _ this (by omega), by simp; omega⟩) k [] (by omega) (by simp)
  rw [fold_flat, List.nil_append] at this
  exact ⟨this.1, by have := this.2; omega⟩
theorem up_timesM (ls : List (List GOcc)) : Up (timesM ls) := by
  unfold timesM
  refine List.pairwise_map.2 (List.Pairwise.sublist List.filter_sublist ?_)
  exact List.Pairwise.imp (fun h => by omega) (List.pairwise_lt_range' (s := 1) (n := 2000))
theorem mem_timesM {ls : List (List GOcc)} {t : Int} : t ∈ timesM ls ↔ (1 ≤ t ∧ t ≤ 2000) ∧ ∃ l ∈ ls, ∃ o ∈ l, o.To = t := by
  unfold timesM
  simp only [List.mem_map, List.mem_filter, List.mem_range'_1, List.any_eq_true, hit, beq_iff_eq]
  constructor
  · rintro ⟨a, ⟨h1, l, h2, o, h3, h4⟩, rfl⟩
    exact ⟨by omega, l, h2, o, h3, h4⟩
  · rintro ⟨h1, l, h2, o, h3, h4⟩
    exact ⟨t.toNat, ⟨by omega, l, h2, o, h3, by omega⟩, by omega⟩
theorem times_eq (k : Nat) (hk : 1000000000000 ≤ k) (ls : List (List GOcc)) (hn : ls.length ≤ 10) (hl : ∀ l ∈ ls, l.length ≤ 1000) (ht : ∀ l ∈ ls, ∀ o ∈ l, 1 ≤ o.To ∧ o.To ≤ 2000) : impl_times.f k ls = some (timesM ls) := by
  obtain ⟨a, b⟩ := t2_eq k hk ls hn hl
  unfold impl_times.f slices_Sort.f slices_Compact.f
  rw [a]
  simp only [Option.bind_some]
  have e : (ls.map fun l => l.map (·.To)).flatten.mergeSort (fun x y => decide (x ≤ y)) = sortM (ls.map fun l => l.map (·.To)).flatten := rfl
  have l3 := length_sortM (ls.map fun l => l.map (·.To)).flatten
  rw [req_pos (by omega), e]
  simp only [Option.bind_some]
  rw [req_pos l3, req_pos (by omega)]
  simp only [Option.bind_some, Option.some.injEq]
  refine up_ext (up_uniq (sortM_le _)) (up_timesM ls) fun t => ?_
  rw [mem_uniq, mem_sortM, mem_timesM]
  simp only [List.mem_flatten, List.mem_map]
  constructor
  · rintro ⟨_, ⟨l, h1, rfl⟩, h2⟩
    obtain ⟨o, h3, rfl⟩ := List.mem_map.1 h2
    exact ⟨ht l h1 o h3, l, h1, o, h3, rfl⟩
  · rintro ⟨_, l, h1, o, h2, rfl⟩
    exact ⟨_, ⟨l, h1, rfl⟩, List.mem_map.2 ⟨o, h2, rfl⟩⟩
/- All points in time: sequences, conjunctions, absences, repetitions; what one step of each does. -/
theorem loop_inv {α σ τ : Type} (ret : σ → τ) (l : List α) (L : Nat → σ → Int → Option τ) (g : σ → α → σ) (Inv : Nat → σ → Prop)
    (hend : ∀ n s, L (n + 1) s (l.length : Int) = some (ret s))
    (hstep : ∀ n s (i : Nat) (h : i < l.length), Inv i s → L (n + 1) s (i : Int) = L n (g s l[i]) ((i + 1 : Nat) : Int) ∧ Inv (i + 1) (g s l[i])) :
    ∀ (d i n : Nat) (s : σ), i + d = l.length → d < n → Inv i s → L n s (i : Int) = some (ret ((l.drop i).foldl g s)) ∧ Inv l.length ((l.drop i).foldl g s) := by
  intro d
  induction d with
  | zero =>
    intro i n s hi hn hI
    obtain ⟨n, rfl⟩ : ∃ m, n = m + 1 := ⟨n - 1, by omega⟩
    have e : i = l.length := by omega
    subst e
    rw [hend, List.drop_length]
    exact ⟨rfl, hI⟩
  | succ d ih =>
    intro i n s hi hn hI
    obtain ⟨n, rfl⟩ : ∃ m, n = m + 1 := ⟨n - 1, by omega⟩
    have hlt : i < l.length := by omega
    obtain ⟨h1, h2⟩ := hstep n s i hlt hI
    rw [h1, List.drop_eq_getElem_cons hlt]
    exact ih (i + 1) n _ (by omega) (by omega) h2
theorem loop_inv0 {α σ τ : Type} (ret : σ → τ) (l : List α) (L : Nat → σ → Int → Option τ) (g : σ → α → σ) (Inv : Nat → σ → Prop)
    (hend : ∀ n s, L (n + 1) s (l.length : Int) = some (ret s))
    (hstep : ∀ n s (i : Nat) (h : i < l.length), Inv i s → L (n + 1) s (i : Int) = L n (g s l[i]) ((i + 1 : Nat) : Int) ∧ Inv (i + 1) (g s l[i])) (n : Nat) (s : σ) (hn : l.length < n) (hI : Inv 0 s) :
    L n s 0 = some (ret (l.foldl g s)) ∧ Inv l.length (l.foldl g s) := by
  have := loop_inv ret l L g Inv hend hstep l.length 0 n s (by omega) hn hI
  simpa using this
def atM (l : List GOcc) (t : Int) : List GOcc := l.filter fun x => x.To == t
theorem impl_at_eq (k : Nat) (hk : 1000000000000 ≤ k) (l : List GOcc) (t : Int) (hl : l.length ≤ 1000000) : impl_at.f k l t = some (atM l t) := by
  unfold impl_at.f
  rw [those_eq k hk (fun y0 => impl_at_1.f y0 t) (fun x => x.To == t) l hl (fun x hx => rfl)]; rfl
theorem spec_at_eq (k : Nat) (hk : 1000000000000 ≤ k) (l : List GOcc) (t : Int) (hl : l.length ≤ 1000000) : spec_l4At.f k l t = some (atM l t) := by
  unfold spec_l4At.f
  have := loop_inv0 (fun s : List GOcc => s) l (spec_l4At.l0 k l t) (fun s e => if (e.To == t) = true then s ++ [e] else s) (fun i s => s.length ≤ i)
    (fun n s => by rw [spec_l4At.l0, if_neg (by omega)])
    (fun n s i h hI => by
      rw [spec_l4At.l0, if_pos (by omega), req_pos (by omega), Int.toNat_natCast, List.getElem?_eq_getElem h]
      simp only [Option.bind_some]
      by_cases c : l[i].To = t
      · rw [if_pos c, req_pos (by omega)]
        rw [req_pos (by omega), wrS i (by omega), if_pos (by simpa using c)]
        exact ⟨rfl, by simp; omega⟩
      · rw [if_neg c, wrS i (by omega), if_neg (by simpa using c)]
        exact ⟨rfl, by omega⟩)
    k [] (by omega) (by simp)
  rw [this.1, fold_filter]; rfl
theorem atM_len (l : List GOcc) (t : Int) : (atM l t).length ≤ l.length := List.length_filter_le _ _
theorem atM_ids {l : List GOcc} (h : Ids l) (t : Int) : Ids (atM l t) := fun x hx => h x (List.mem_filter.1 hx).1
abbrev Two := List GOcc × List GOcc
/-- what a step leaves behind, in bounds -/
def StepOk (f : Two → List GOcc → List GOcc → Two × List GOcc) : Prop := ∀ (m : Nat) (p : Two) (l r : List GOcc), m ≤ 19000 → Ok m p.1 → Ok m p.2 → Ids l → Ids r → l.length ≤ 40 → r.length ≤ 40 →
  Ok (m + 100) (f p l r).1.1 ∧ Ok (m + 100) (f p l r).1.2 ∧ Ok 2000000 (f p l r).2
def seqF (mode : Int) (p : Two) (l r : List GOcc) : Two × List GOcc := (((seqM mode p.1 l r).1, p.2), (seqM mode p.1 l r).2)
def andF (mode : Int) (p : Two) (l r : List GOcc) : Two × List GOcc := (((andM mode p.1 p.2 l r).1, (andM mode p.1 p.2 l r).2.1), (andM mode p.1 p.2 l r).2.2)
theorem seqF_ok (mode : Int) : StepOk (seqF mode) := fun m p l r hm h1 h2 hl hr nl nr => by
  have := (seq_eq 1000000000000 (Nat.le_refl _) mode ⟨p.1, p.2⟩ l r m (by omega) h1 hl hr (by omega) (by omega)).2
  exact ⟨this.1.mono (by omega), h2.mono (by omega), this.2.mono (by omega)⟩
theorem andF_ok (mode : Int) : StepOk (andF mode) := fun m p l r hm h1 h2 hl hr nl nr => by
  have := (and_eq 1000000000000 (Nat.le_refl _) mode ⟨p.1, p.2⟩ l r m (by omega) h1 h2 hl hr (by omega)).2
  exact ⟨this.1, this.2.1, this.2.2.mono (by omega)⟩
def Step3Ok (f : Two → List GOcc → List GOcc → List GOcc → Two × List GOcc) : Prop := ∀ (m : Nat) (p : Two) (a b c : List GOcc), m ≤ 19000 → Ok m p.1 → Ok m p.2 → Ids a → Ids b → Ids c → a.length ≤ 40 → b.length ≤ 40 → c.length ≤ 40 →
  Ok (m + 100) (f p a b c).1.1 ∧ Ok (m + 100) (f p a b c).1.2 ∧ Ok 2000000 (f p a b c).2
def notF (mode : Int) (p : Two) (a b c : List GOcc) : Two × List GOcc := (((notM mode p.1 p.2 a b c).1, (notM mode p.1 p.2 a b c).2.1), (notM mode p.1 p.2 a b c).2.2)
def eachF (mode : Int) (p : Two) (a b c : List GOcc) : Two × List GOcc := (((eachStep mode p.1 p.2 a b c).1, (eachStep mode p.1 p.2 a b c).2.1), (eachStep mode p.1 p.2 a b c).2.2)
theorem notF_ok (mode : Int) : Step3Ok (notF mode) := fun m p a b c hm h1 h2 ha hb hc na nb nc => by
  have := (not_eq 1000000000000 (Nat.le_refl _) mode ⟨p.1, p.2⟩ a b c m (by omega) h1 h2 ha hb hc (by omega) (by omega) (by omega)).2
  exact ⟨this.1.mono (by omega), this.2.1.mono (by omega), this.2.2.mono (by omega)⟩
theorem eachF_ok (mode : Int) : Step3Ok (eachF mode) := fun m p a b c hm h1 h2 ha hb hc na nb nc => by
  have := (each_eq 1000000000000 (Nat.le_refl _) mode ⟨p.1, p.2⟩ a b c m (by omega) h1 h2 ha hb hc (by omega) (by omega) (by omega)).2
  exact ⟨this.1.mono (by omega), this.2.1.mono (by omega), this.2.2.mono (by omega)⟩
theorem length_uniq : ∀ l : List Int, (uniq l).length ≤ l.length
  | [] => by simp [uniq]
  | [x] => by simp [uniq]
  | x :: y :: l => by
    have := length_uniq (y :: l)
    unfold uniq
    split
    · simp only [List.length_cons] at this ⊢; omega
    · simp only [List.length_cons] at this ⊢; omega
theorem times_uniq {ls : List (List GOcc)} (ht : ∀ l ∈ ls, ∀ o ∈ l, 1 ≤ o.To ∧ o.To ≤ 2000) : uniq (sortM (ls.map fun l => l.map (·.To)).flatten) = timesM ls := by
  refine up_ext (up_uniq (sortM_le _)) (up_timesM ls) fun t => ?_
  rw [mem_uniq, mem_sortM, mem_timesM]
  simp only [List.mem_flatten, List.mem_map]
  constructor
  · rintro ⟨_, ⟨l, h1, rfl⟩, h2⟩
    obtain ⟨o, h3, rfl⟩ := List.mem_map.1 h2
    exact ⟨ht l h1 o h3, l, h1, o, h3, rfl⟩
  · rintro ⟨_, l, h1, o, h2, rfl⟩
    exact ⟨_, ⟨l, h1, rfl⟩, List.mem_map.2 ⟨o, h2, rfl⟩⟩
theorem timesM_len {ls : List (List GOcc)} (ht : ∀ l ∈ ls, ∀ o ∈ l, 1 ≤ o.To ∧ o.To ≤ 2000) : (timesM ls).length ≤ (ls.map fun l => l.map (·.To)).flatten.length := by
  rw [← times_uniq ht]
  have := length_uniq (sortM (ls.map fun l => l.map (·.To)).flatten)
  rw [length_sortM] at this
  exact this
def runM {σ : Type} (f : σ → Int → σ × List GOcc) (s : σ × List GOcc) (t : Int) : σ × List GOcc := ((f s.1 t).1, mergeM s.2 (f s.1 t).2)
def pairM (f : Two → List GOcc → List GOcc → Two × List GOcc) (a b : List GOcc) : List GOcc := ((timesM [a, b]).foldl (runM fun p t => f p (atM a t) (atM b t)) (([], []), [])).2
def spanM (f : Two → List GOcc → List GOcc → List GOcc → Two × List GOcc) (a b c : List GOcc) : List GOcc := ((timesM [a, b, c]).foldl (runM fun p t => f p (atM a t) (atM b t) (atM c t)) (([], []), [])).2
def RunInv (i : Nat) (s : Two × List GOcc) : Prop := Ok (100 * i) s.1.1 ∧ Ok (100 * i) s.1.2 ∧ Ok (2000000 * i) s.2
theorem RunInv.start : RunInv 0 (([], []), []) := ⟨Ok.nil _, Ok.nil _, Ok.nil _⟩
theorem RunInv.pair {f : Two → List GOcc → List GOcc → Two × List GOcc} (hf : StepOk f) {a b : List GOcc} (ha : occsOk a = true) (hb : occsOk b = true) {i : Nat} (hi : i ≤ 120) {s : Two × List GOcc} {t : Int} (h : RunInv i s) :
    RunInv (i + 1) (runM (fun p t => f p (atM a t) (atM b t)) s t) ∧ Ok 2000000 (f s.1 (atM a t) (atM b t)).2 := by
  have := occsOk_len ha; have := occsOk_len hb; have := atM_len a t; have := atM_len b t
  have q := hf (100 * i) s.1 (atM a t) (atM b t) (by omega) h.1 h.2.1 (atM_ids (ids_of_ok ha) t) (atM_ids (ids_of_ok hb) t) (by omega) (by omega)
  exact ⟨⟨q.1.mono (by omega), q.2.1.mono (by omega), (h.2.2.merge q.2.2).mono (by omega)⟩, q.2.2⟩
theorem RunInv.span {f : Two → List GOcc → List GOcc → List GOcc → Two × List GOcc} (hf : Step3Ok f) {a b c : List GOcc} (ha : occsOk a = true) (hb : occsOk b = true) (hc : occsOk c = true) {i : Nat} (hi : i ≤ 120) {s : Two × List GOcc} {t : Int} (h : RunInv i s) :
    RunInv (i + 1) (runM (fun p t => f p (atM a t) (atM b t) (atM c t)) s t) ∧ Ok 2000000 (f s.1 (atM a t) (atM b t) (atM c t)).2 := by
  have := occsOk_len ha; have := occsOk_len hb; have := occsOk_len hc; have := atM_len a t; have := atM_len b t; have := atM_len c t
  have q := hf (100 * i) s.1 (atM a t) (atM b t) (atM c t) (by omega) h.1 h.2.1 (atM_ids (ids_of_ok ha) t) (atM_ids (ids_of_ok hb) t) (atM_ids (ids_of_ok hc) t) (by omega) (by omega) (by omega)
  exact ⟨⟨q.1.mono (by omega), q.2.1.mono (by omega), (h.2.2.merge q.2.2).mono (by omega)⟩, q.2.2⟩
theorem tos_ok {l : List GOcc} (h : occsOk l = true) : ∀ o ∈ l, 1 ≤ o.To ∧ o.To ≤ 2000 := fun o ho => by have := occsOk_all h o ho; omega
theorem times_len2 {a b : List GOcc} (ha : occsOk a = true) (hb : occsOk b = true) : (timesM [a, b]).length ≤ 80 := by
  have q := timesM_len (ls := [a, b]) (fun l hl => by
    simp only [List.mem_cons, List.not_mem_nil, or_false] at hl
    rcases hl with rfl | rfl
    · exact tos_ok ha
    · exact tos_ok hb)
  have := occsOk_len ha; have := occsOk_len hb
  simp at q
  omega
theorem times_len3 {a b c : List GOcc} (ha : occsOk a = true) (hb : occsOk b = true) (hc : occsOk c = true) : (timesM [a, b, c]).length ≤ 120 := by
  have q := timesM_len (ls := [a, b, c]) (fun l hl => by
    simp only [List.mem_cons, List.not_mem_nil, or_false] at hl
    rcases hl with rfl | rfl | rfl
    · exact tos_ok ha
    · exact tos_ok hb
    · exact tos_ok hc)
  have := occsOk_len ha; have := occsOk_len hb; have := occsOk_len hc
  simp at q
  omega
/- Sequences and conjunctions of all that was found: both programs. -/
theorem fold_inv {α σ : Type} (g : σ → α → σ) (Inv : Nat → σ → Prop) : ∀ (l : List α) (i : Nat) (s : σ), (∀ j s (h : j < l.length), Inv (i + j) s → Inv (i + j + 1) (g s l[j])) → Inv i s → Inv (i + l.length) (l.foldl g s)
  | [], i, s, _, h => h
  | x :: l, i, s, hs, h => by
    have h1 := hs 0 s (by simp) h
    have := fold_inv g Inv l (i + 1) (g s x) (fun j s' hj hI => by
      have := hs (j + 1) s' (by simp; omega) (by rw [show i + (j + 1) = i + 1 + j by omega]; exact hI)
      rw [show i + (j + 1) + 1 = i + 1 + j + 1 by omega] at this
      exact this) h1
    rw [List.foldl_cons, List.length_cons, show i + (l.length + 1) = i + 1 + l.length by omega]
    exact this
theorem pair_ok {f : Two → List GOcc → List GOcc → Two × List GOcc} (hf : StepOk f) {a b : List GOcc} (ha : occsOk a = true) (hb : occsOk b = true) : Ok 200000000 (pairM f a b) := by
  have hl := times_len2 ha hb
  have := fold_inv (runM fun p t => f p (atM a t) (atM b t)) RunInv (timesM [a, b]) 0 (([], []), []) (fun j s h hI => (hI.pair hf ha hb (by omega)).1) RunInv.start
  exact this.2.2.mono (by omega)
theorem span_ok {f : Two → List GOcc → List GOcc → List GOcc → Two × List GOcc} (hf : Step3Ok f) {a b c : List GOcc} (ha : occsOk a = true) (hb : occsOk b = true) (hc : occsOk c = true) : Ok 300000000 (spanM f a b c) := by
  have hl := times_len3 ha hb hc
  have := fold_inv (runM fun p t => f p (atM a t) (atM b t) (atM c t)) RunInv (timesM [a, b, c]) 0 (([], []), []) (fun j s h hI => (hI.span hf ha hb hc (by omega)).1) RunInv.start
  exact this.2.2.mono (by omega)
def pairOfM (f : Two → List GOcc → List GOcc → Two × List GOcc) (a b : List GOcc) : List GOcc × Bool := if occsOk a = true ∧ occsOk b = true then told (pairM f a b) else ([], false)
def spanOfM (f : Two → List GOcc → List GOcc → List GOcc → Two × List GOcc) (a b c : List GOcc) : List GOcc × Bool := if occsOk a = true ∧ occsOk b = true ∧ occsOk c = true then told (spanM f a b c) else ([], false)
theorem isMode_eq (mode : Int) : impl_isMode.f mode = some (decide (0 ≤ mode) && decide (mode ≤ 4)) ∧ spec_l4Mode.f mode = some (decide (0 ≤ mode) && decide (mode ≤ 4)) := by
  refine ⟨?_, ?_⟩
  · unfold impl_isMode.f
    rw [in_eq]; rfl
  · unfold spec_l4Mode.f
    split
    · have : ¬ 0 ≤ mode := by omega
      simp [this]
    · have : 0 ≤ mode := by omega
      simp [this]
      omega
theorem isMode_ok {mode : Int} (hmo : 0 ≤ mode ∧ mode ≤ 4) : impl_isMode.f mode = some true ∧ spec_l4Mode.f mode = some true := by
  obtain ⟨a, b⟩ := isMode_eq mode
  rw [a, b]
  simp [hmo]
theorem occsOk_nil : occsOk [] = true := by decide
theorem small_nil : Small [] := ⟨by simp, fun x hx => by simp at hx⟩
theorem small_of_ok {l : List GOcc} (h : occsOk l = true) : Small l := ⟨by have := occsOk_len h; omega, fews_of_ok h⟩
theorem pairFits_eq (k : Nat) (hk : 1000000000000 ≤ k) (mode : Int) (hmo : 0 ≤ mode ∧ mode ≤ 4) (a b : List GOcc) (ha : Small a) (hb : Small b) : impl_pairFits.f k mode ⟨[], []⟩ a b = some (occsOk a && occsOk b) := by
  unfold impl_pairFits.f impl_PairOk.f
  rw [(isMode_ok hmo).1]
  simp only [Option.bind_some]
  rw [if_pos trivial, impl_ok_k k hk [] small_nil, occsOk_nil]
  simp only [Option.bind_some]
  rw [if_pos trivial]
  simp only [Option.bind_some]
  rw [if_pos trivial, impl_ok_k k hk a ha, impl_ok_k k hk b hb]
  simp only [Option.bind_some]
  cases occsOk a <;> rfl
theorem spanFits_eq (k : Nat) (hk : 1000000000000 ≤ k) (mode : Int) (hmo : 0 ≤ mode ∧ mode ≤ 4) (a b c : List GOcc) (ha : Small a) (hb : Small b) (hc : Small c) : impl_spanFits.f k mode ⟨[], []⟩ a b c = some (occsOk a && (occsOk b && occsOk c)) ∧ spec_l5Fits.f k mode ⟨[], []⟩ a b c = some (occsOk a && (occsOk b && occsOk c)) := by
  refine ⟨?_, ?_⟩
  · unfold impl_spanFits.f impl_SpanOk.f
    rw [(isMode_ok hmo).1]
    simp only [Option.bind_some]
    rw [if_pos trivial, impl_ok_k k hk [] small_nil, occsOk_nil]
    simp only [Option.bind_some]
    rw [if_pos trivial]
    simp only [Option.bind_some]
    rw [if_pos trivial, impl_ok_k k hk a ha, impl_ok_k k hk b hb, impl_ok_k k hk c hc]
    simp only [Option.bind_some]
    cases occsOk a <;> cases occsOk b <;> rfl
  · unfold spec_l5Fits.f spec_SpanOk.f
    rw [(isMode_ok hmo).2]
    simp only [Option.bind_some]
    rw [if_pos trivial, spec_ok_k k hk [] small_nil, occsOk_nil]
    simp only [Option.bind_some]
    rw [if_pos trivial]
    simp only [Option.bind_some]
    rw [if_pos trivial, spec_ok_k k hk a ha, spec_ok_k k hk b hb, spec_ok_k k hk c hc]
    simp only [Option.bind_some]
    cases occsOk a <;> cases occsOk b <;> rfl
theorem times_two (k : Nat) (hk : 1000000000000 ≤ k) {a b : List GOcc} (ha : occsOk a = true) (hb : occsOk b = true) : impl_times.f k [a, b] = some (timesM [a, b]) ∧ spec_l4Times.f k [a, b] = some (timesM [a, b]) := by
  have := occsOk_len ha; have := occsOk_len hb
  refine ⟨times_eq k hk _ (by simp) (fun l hl => ?_) (fun l hl => ?_), l4Times_eq k hk _ (by simp) (fun l hl => ?_)⟩ <;>
  · simp only [List.mem_cons, List.not_mem_nil, or_false] at hl
    rcases hl with rfl | rfl
    · first | omega | exact tos_ok ha
    · first | omega | exact tos_ok hb
theorem times_three (k : Nat) (hk : 1000000000000 ≤ k) {a b c : List GOcc} (ha : occsOk a = true) (hb : occsOk b = true) (hc : occsOk c = true) : impl_times.f k [a, b, c] = some (timesM [a, b, c]) ∧ spec_l4Times.f k [a, b, c] = some (timesM [a, b, c]) := by
  have := occsOk_len ha; have := occsOk_len hb; have := occsOk_len hc
  refine ⟨times_eq k hk _ (by simp) (fun l hl => ?_) (fun l hl => ?_), l4Times_eq k hk _ (by simp) (fun l hl => ?_)⟩ <;>
  · simp only [List.mem_cons, List.not_mem_nil, or_false] at hl
    rcases hl with rfl | rfl | rfl
    · first | omega | exact tos_ok ha
    · first | omega | exact tos_ok hb
    · first | omega | exact tos_ok hc
/-- the program's step is f -/
def Does (k : Nat) (mode : Int) (f : Two → List GOcc → List GOcc → Two × List GOcc) (g : GPair → Int → List GOcc → List GOcc → Option (GPair × List GOcc)) : Prop :=
  ∀ (m : Nat) (p : Two) (l r : List GOcc), m ≤ 19000 → Ok m p.1 → Ok m p.2 → Ids l → Ids r → l.length ≤ 40 → r.length ≤ 40 → g ⟨p.1, p.2⟩ mode l r = some (⟨(f p l r).1.1, (f p l r).1.2⟩, (f p l r).2)
theorem pairOf_eq (k : Nat) (hk : 1000000000000 ≤ k) (mode : Int) (hmo : 0 ≤ mode ∧ mode ≤ 4) {f : Two → List GOcc → List GOcc → Two × List GOcc} (hf : StepOk f) {g : GPair → Int → List GOcc → List GOcc → Option (GPair × List GOcc)} (hg : Does k mode f g)
    (a b : List GOcc) (sa : Small a) (sb : Small b) : impl_pairOf.f g k mode a b = some (pairOfM f a b) := by
  unfold impl_pairOf.f pairOfM
  rw [pairFits_eq k hk mode hmo a b sa sb]
  simp only [Option.bind_some]
  by_cases h : occsOk a = true ∧ occsOk b = true
  · obtain ⟨ha, hb⟩ := h
    have hl := times_len2 ha hb
    have := occsOk_len ha; have := occsOk_len hb
    rw [if_pos (by simp [ha, hb]), if_pos ⟨ha, hb⟩, (times_two k hk ha hb).1]
    simp only [Option.bind_some]
    have q := loop_inv0 (fun s : Two × List GOcc => s.2) (timesM [a, b]) (fun n s i => impl_pairOf.l0 k g mode a b (timesM [a, b]) n s.1.1 s.1.2 s.2 i) (runM fun p t => f p (atM a t) (atM b t)) RunInv
      (fun n s => by rw [impl_pairOf.l0, if_neg (by omega)])
      (fun n s i h hI => by
        obtain ⟨q1, q2⟩ := hI.pair hf ha hb (t := (timesM [a, b])[i]) (by omega)
        refine ⟨?_, q1⟩
        have := atM_len a (timesM [a, b])[i]; have := atM_len b (timesM [a, b])[i]
        have := hI.2.2.2.2; have := q2.2.2
        rw [impl_pairOf.l0, if_pos (by omega), req_pos (by omega), Int.toNat_natCast, List.getElem?_eq_getElem h]
        simp only [Option.bind_some]
        rw [impl_at_eq k hk a _ (by omega)]
        simp only [Option.bind_some]
        rw [impl_at_eq k hk b _ (by omega)]
        simp only [Option.bind_some]
        rw [hg (100 * i) s.1 _ _ (by omega) hI.1 hI.2.1 (atM_ids (ids_of_ok ha) _) (atM_ids (ids_of_ok hb) _) (by omega) (by omega)]
        simp only [Option.bind_some]
        rw [impl_putAll_eq k hk _ _ (by omega) hI.2.2.2.1.few q2.2.1.few hI.2.2.1, wrS i (by omega)]
        rfl) k (([], []), []) (by omega) RunInv.start
    have o := pair_ok hf ha hb
    have := o.2.2
    have q' : impl_pairOf.l0 k g mode a b (timesM [a, b]) k [] [] [] 0 = some (pairM f a b) := q.1
    rw [q']
    simp only [Option.bind_some]
    rw [few_k k hk _ (by omega) o.2.1.few]
    rfl
  · rw [if_neg (by simpa using h), if_neg h]
theorem spec_pair_loop (k : Nat) (hk : 1000000000000 ≤ k) (mode : Int) (hmo : 0 ≤ mode ∧ mode ≤ 4) {a b : List GOcc} (ha : occsOk a = true) (hb : occsOk b = true) :
    spec_l4Both.l0 k mode a b (timesM [a, b]) k true [] [] [] 0 = some (pairM (seqF mode) a b) ∧ spec_l4Both.l0 k mode a b (timesM [a, b]) k false [] [] [] 0 = some (pairM (andF mode) a b) := by
  have hl := times_len2 ha hb
  have := occsOk_len ha; have := occsOk_len hb
  refine ⟨?_, ?_⟩
  · exact (loop_inv0 (fun s : Two × List GOcc => s.2) (timesM [a, b]) (fun n s i => spec_l4Both.l0 k mode a b (timesM [a, b]) n true s.1.1 s.1.2 s.2 i) (runM fun p t => seqF mode p (atM a t) (atM b t)) RunInv
      (fun n s => by rw [spec_l4Both.l0, if_neg (by omega)])
      (fun n s i h hI => by
        obtain ⟨q1, q2⟩ := hI.pair (seqF_ok mode) ha hb (t := (timesM [a, b])[i]) (by omega)
        refine ⟨?_, q1⟩
        have := atM_len a (timesM [a, b])[i]; have := atM_len b (timesM [a, b])[i]
        have := hI.2.2.2.2; have := q2.2.2
        rw [spec_l4Both.l0, if_pos (by omega), if_pos rfl, req_pos (by omega), req_pos (by omega), Int.toNat_natCast, List.getElem?_eq_getElem h]
        simp only [Option.bind_some]
        rw [spec_at_eq k hk a _ (by omega)]
        simp only [Option.bind_some]
        rw [req_pos (by omega), req_pos (by omega), spec_at_eq k hk b _ (by omega)]
        simp only [Option.bind_some]
        rw [spec_seq_eq k hk mode hmo ⟨s.1.1, s.1.2⟩ _ _ (100 * i) (by omega) hI.1 (atM_ids (ids_of_ok ha) _) (atM_ids (ids_of_ok hb) _) (by omega) (by omega)]
        simp only [Option.bind_some]
        have q3 := spec_merge_eq k hk s.2 (seqF mode s.1 (atM a (timesM [a, b])[i]) (atM b (timesM [a, b])[i])).2 (by omega) hI.2.2.2.1.few q2.2.1.few
        rw [show (seqM mode s.1.1 (atM a (timesM [a, b])[i]) (atM b (timesM [a, b])[i])).2 = (seqF mode s.1 (atM a (timesM [a, b])[i]) (atM b (timesM [a, b])[i])).2 from rfl, q3, wrS i (by omega)]
        rfl) k (([], []), []) (by omega) RunInv.start).1
  · exact (loop_inv0 (fun s : Two × List GOcc => s.2) (timesM [a, b]) (fun n s i => spec_l4Both.l0 k mode a b (timesM [a, b]) n false s.1.1 s.1.2 s.2 i) (runM fun p t => andF mode p (atM a t) (atM b t)) RunInv
      (fun n s => by rw [spec_l4Both.l0, if_neg (by omega)])
      (fun n s i h hI => by
        obtain ⟨q1, q2⟩ := hI.pair (andF_ok mode) ha hb (t := (timesM [a, b])[i]) (by omega)
        refine ⟨?_, q1⟩
        have := atM_len a (timesM [a, b])[i]; have := atM_len b (timesM [a, b])[i]
        have := hI.2.2.2.2; have := q2.2.2
        rw [spec_l4Both.l0, if_pos (by omega), if_neg (by simp), req_pos (by omega), req_pos (by omega), Int.toNat_natCast, List.getElem?_eq_getElem h]
        simp only [Option.bind_some]
        rw [spec_at_eq k hk a _ (by omega)]
        simp only [Option.bind_some]
        rw [req_pos (by omega), req_pos (by omega), spec_at_eq k hk b _ (by omega)]
        simp only [Option.bind_some]
        rw [spec_and_eq k hk mode hmo ⟨s.1.1, s.1.2⟩ _ _ (100 * i) (by omega) hI.1 hI.2.1 (atM_ids (ids_of_ok ha) _) (atM_ids (ids_of_ok hb) _) (by omega)]
        simp only [Option.bind_some]
        have q3 := spec_merge_eq k hk s.2 (andF mode s.1 (atM a (timesM [a, b])[i]) (atM b (timesM [a, b])[i])).2 (by omega) hI.2.2.2.1.few q2.2.1.few
        rw [show (andM mode s.1.1 s.1.2 (atM a (timesM [a, b])[i]) (atM b (timesM [a, b])[i])).2.2 = (andF mode s.1 (atM a (timesM [a, b])[i]) (atM b (timesM [a, b])[i])).2 from rfl, q3, wrS i (by omega)]
        rfl) k (([], []), []) (by omega) RunInv.start).1
theorem impl_SeqOf_eq (k : Nat) (hk : 1000000000000 ≤ k) (mode : Int) (hmo : 0 ≤ mode ∧ mode ≤ 4) (a b : List GOcc) (sa : Small a) (sb : Small b) : impl_SeqOf.f k mode a b = some (pairOfM (seqF mode) a b) := by
  unfold impl_SeqOf.f
  rw [pairOf_eq k hk mode hmo (seqF_ok mode) (fun m p l r hm h1 h2 hl hr nl nr => (seq_eq k hk mode ⟨p.1, p.2⟩ l r m (by omega) h1 hl hr (by omega) (by omega)).1) a b sa sb]
  rfl
theorem impl_AndOf_eq (k : Nat) (hk : 1000000000000 ≤ k) (mode : Int) (hmo : 0 ≤ mode ∧ mode ≤ 4) (a b : List GOcc) (sa : Small a) (sb : Small b) : impl_AndOf.f k mode a b = some (pairOfM (andF mode) a b) := by
  unfold impl_AndOf.f
  rw [pairOf_eq k hk mode hmo (andF_ok mode) (fun m p l r hm h1 h2 hl hr nl nr => (and_eq k hk mode ⟨p.1, p.2⟩ l r m (by omega) h1 h2 hl hr (by omega)).1) a b sa sb]
  rfl
theorem spec_SeqOf_eq (k : Nat) (hk : 1000000000000 ≤ k) (mode : Int) (hmo : 0 ≤ mode ∧ mode ≤ 4) (a b : List GOcc) (sa : Small a) (sb : Small b) : spec_SeqOf.f k mode a b = some (pairOfM (seqF mode) a b) := by
  unfold spec_SeqOf.f pairOfM spec_l4Both.f
  rw [(isMode_ok hmo).2]
  simp only [Option.bind_some]
  rw [if_pos trivial, spec_ok_k k hk a sa, spec_ok_k k hk b sb]
  simp only [Option.bind_some]
  by_cases ha : occsOk a = true
  · rw [if_pos ha]
    by_cases hb : occsOk b = true
    · have o := pair_ok (seqF_ok mode) ha hb
      have := o.2.2
      rw [if_pos hb, if_pos ⟨ha, hb⟩, (times_two k hk ha hb).2]
      simp only [Option.bind_some]
      rw [(spec_pair_loop k hk mode hmo ha hb).1]
      simp only [Option.bind_some]
      rw [told_k k hk _ (by omega) o.2.1.few]
      rfl
    · rw [if_neg hb, if_neg (fun h => hb h.2)]
  · rw [if_neg ha, if_neg (fun h => ha h.1)]
theorem spec_AndOf_eq (k : Nat) (hk : 1000000000000 ≤ k) (mode : Int) (hmo : 0 ≤ mode ∧ mode ≤ 4) (a b : List GOcc) (sa : Small a) (sb : Small b) : spec_AndOf.f k mode a b = some (pairOfM (andF mode) a b) := by
  unfold spec_AndOf.f pairOfM spec_l4Both.f
  rw [(isMode_ok hmo).2]
  simp only [Option.bind_some]
  rw [if_pos trivial, spec_ok_k k hk a sa, spec_ok_k k hk b sb]
  simp only [Option.bind_some]
  by_cases ha : occsOk a = true
  · rw [if_pos ha]
    by_cases hb : occsOk b = true
    · have o := pair_ok (andF_ok mode) ha hb
      have := o.2.2
      rw [if_pos hb, if_pos ⟨ha, hb⟩, (times_two k hk ha hb).2]
      simp only [Option.bind_some]
      rw [(spec_pair_loop k hk mode hmo ha hb).2]
      simp only [Option.bind_some]
      rw [told_k k hk _ (by omega) o.2.1.few]
      rfl
    · rw [if_neg hb, if_neg (fun h => hb h.2)]
  · rw [if_neg ha, if_neg (fun h => ha h.1)]
/- Absences and repetitions of all that was found: both programs. -/
def Does3 (k : Nat) (mode : Int) (f : Two → List GOcc → List GOcc → List GOcc → Two × List GOcc) (g : GSpan → Int → List GOcc → List GOcc → List GOcc → Option (GSpan × List GOcc)) : Prop :=
  ∀ (m : Nat) (p : Two) (a b c : List GOcc), m ≤ 19000 → Ok m p.1 → Ok m p.2 → Ids a → Ids b → Ids c → a.length ≤ 40 → b.length ≤ 40 → c.length ≤ 40 → g ⟨p.1, p.2⟩ mode a b c = some (⟨(f p a b c).1.1, (f p a b c).1.2⟩, (f p a b c).2)
theorem spanOf_eq (k : Nat) (hk : 1000000000000 ≤ k) (mode : Int) (hmo : 0 ≤ mode ∧ mode ≤ 4) {f : Two → List GOcc → List GOcc → List GOcc → Two × List GOcc} (hf : Step3Ok f) {g : GSpan → Int → List GOcc → List GOcc → List GOcc → Option (GSpan × List GOcc)} (hg : Does3 k mode f g)
    (a b c : List GOcc) (sa : Small a) (sb : Small b) (sc : Small c) : impl_spanOf.f g k mode a b c = some (spanOfM f a b c) := by
  unfold impl_spanOf.f spanOfM
  rw [(spanFits_eq k hk mode hmo a b c sa sb sc).1]
  simp only [Option.bind_some]
  by_cases h : occsOk a = true ∧ occsOk b = true ∧ occsOk c = true
  · obtain ⟨ha, hb, hc⟩ := h
    have hl := times_len3 ha hb hc
    have := occsOk_len ha; have := occsOk_len hb; have := occsOk_len hc
    rw [if_pos (by simp [ha, hb, hc]), if_pos ⟨ha, hb, hc⟩, (times_three k hk ha hb hc).1]
    simp only [Option.bind_some]
    have q := loop_inv0 (fun s : Two × List GOcc => s.2) (timesM [a, b, c]) (fun n s i => impl_spanOf.l0 k g mode a b c (timesM [a, b, c]) n s.1.1 s.1.2 s.2 i) (runM fun p t => f p (atM a t) (atM b t) (atM c t)) RunInv
      (fun n s => by rw [impl_spanOf.l0, if_neg (by omega)])
      (fun n s i h hI => by
        obtain ⟨q1, q2⟩ := hI.span hf ha hb hc (t := (timesM [a, b, c])[i]) (by omega)
        refine ⟨?_, q1⟩
        have := atM_len a (timesM [a, b, c])[i]; have := atM_len b (timesM [a, b, c])[i]; have := atM_len c (timesM [a, b, c])[i]
        have := hI.2.2.2.2; have := q2.2.2
        rw [impl_spanOf.l0, if_pos (by omega), req_pos (by omega), Int.toNat_natCast, List.getElem?_eq_getElem h]
        simp only [Option.bind_some]
        rw [impl_at_eq k hk a _ (by omega)]
        simp only [Option.bind_some]
        rw [impl_at_eq k hk b _ (by omega)]
        simp only [Option.bind_some]
        rw [impl_at_eq k hk c _ (by omega)]
        simp only [Option.bind_some]
        rw [hg (100 * i) s.1 _ _ _ (by omega) hI.1 hI.2.1 (atM_ids (ids_of_ok ha) _) (atM_ids (ids_of_ok hb) _) (atM_ids (ids_of_ok hc) _) (by omega) (by omega) (by omega)]
        simp only [Option.bind_some]
        rw [impl_putAll_eq k hk _ _ (by omega) hI.2.2.2.1.few q2.2.1.few hI.2.2.1, wrS i (by omega)]
        rfl) k (([], []), []) (by omega) RunInv.start
    have o := span_ok hf ha hb hc
    have := o.2.2
    have q' : impl_spanOf.l0 k g mode a b c (timesM [a, b, c]) k [] [] [] 0 = some (spanM f a b c) := q.1
    rw [q']
    simp only [Option.bind_some]
    rw [few_k k hk _ (by omega) o.2.1.few]
    rfl
  · rw [if_neg (by simpa using h), if_neg h]
theorem spec_span_loop (k : Nat) (hk : 1000000000000 ≤ k) (mode : Int) (hmo : 0 ≤ mode ∧ mode ≤ 4) {a b c : List GOcc} (ha : occsOk a = true) (hb : occsOk b = true) (hc : occsOk c = true) :
    spec_l5All.l0 k mode a b c (timesM [a, b, c]) k true [] [] [] 0 = some (spanM (notF mode) a b c) ∧ spec_l5All.l0 k mode a b c (timesM [a, b, c]) k false [] [] [] 0 = some (spanM (eachF mode) a b c) := by
  have hl := times_len3 ha hb hc
  have := occsOk_len ha; have := occsOk_len hb; have := occsOk_len hc
  refine ⟨?_, ?_⟩
  · exact (loop_inv0 (fun s : Two × List GOcc => s.2) (timesM [a, b, c]) (fun n s i => spec_l5All.l0 k mode a b c (timesM [a, b, c]) n true s.1.1 s.1.2 s.2 i) (runM fun p t => notF mode p (atM a t) (atM b t) (atM c t)) RunInv
      (fun n s => by rw [spec_l5All.l0, if_neg (by omega)])
      (fun n s i h hI => by
        obtain ⟨q1, q2⟩ := hI.span (notF_ok mode) ha hb hc (t := (timesM [a, b, c])[i]) (by omega)
        refine ⟨?_, q1⟩
        have := atM_len a (timesM [a, b, c])[i]; have := atM_len b (timesM [a, b, c])[i]; have := atM_len c (timesM [a, b, c])[i]
        have := hI.2.2.2.2; have := q2.2.2
        rw [spec_l5All.l0, if_pos (by omega), req_pos (by omega), req_pos (by omega), Int.toNat_natCast, List.getElem?_eq_getElem h]
        simp only [Option.bind_some]
        rw [if_pos trivial, spec_at_eq k hk a _ (by omega)]
        simp only [Option.bind_some]
        rw [spec_at_eq k hk b _ (by omega)]
        simp only [Option.bind_some]
        rw [spec_at_eq k hk c _ (by omega)]
        simp only [Option.bind_some]
        rw [spec_not_eq k hk mode hmo ⟨s.1.1, s.1.2⟩ _ _ _ (100 * i) (by omega) hI.1 hI.2.1 (atM_ids (ids_of_ok ha) _) (atM_ids (ids_of_ok hb) _) (atM_ids (ids_of_ok hc) _) (by omega) (by omega) (by omega)]
        simp only [Option.bind_some]
        have q3 := spec_merge_eq k hk s.2 (notF mode s.1 (atM a (timesM [a, b, c])[i]) (atM b (timesM [a, b, c])[i]) (atM c (timesM [a, b, c])[i])).2 (by omega) hI.2.2.2.1.few q2.2.1.few
        rw [show (notM mode s.1.1 s.1.2 (atM a (timesM [a, b, c])[i]) (atM b (timesM [a, b, c])[i]) (atM c (timesM [a, b, c])[i])).2.2 = (notF mode s.1 (atM a (timesM [a, b, c])[i]) (atM b (timesM [a, b, c])[i]) (atM c (timesM [a, b, c])[i])).2 from rfl, q3, wrS i (by omega)]
        rfl) k (([], []), []) (by omega) RunInv.start).1
  · exact (loop_inv0 (fun s : Two × List GOcc => s.2) (timesM [a, b, c]) (fun n s i => spec_l5All.l0 k mode a b c (timesM [a, b, c]) n false s.1.1 s.1.2 s.2 i) (runM fun p t => eachF mode p (atM a t) (atM b t) (atM c t)) RunInv
      (fun n s => by rw [spec_l5All.l0, if_neg (by omega)])
      (fun n s i h hI => by
        obtain ⟨q1, q2⟩ := hI.span (eachF_ok mode) ha hb hc (t := (timesM [a, b, c])[i]) (by omega)
        refine ⟨?_, q1⟩
        have := atM_len a (timesM [a, b, c])[i]; have := atM_len b (timesM [a, b, c])[i]; have := atM_len c (timesM [a, b, c])[i]
        have := hI.2.2.2.2; have := q2.2.2
        rw [spec_l5All.l0, if_pos (by omega), req_pos (by omega), req_pos (by omega), Int.toNat_natCast, List.getElem?_eq_getElem h]
        simp only [Option.bind_some]
        rw [if_neg (by simp), spec_at_eq k hk a _ (by omega)]
        simp only [Option.bind_some]
        rw [spec_at_eq k hk b _ (by omega)]
        simp only [Option.bind_some]
        rw [spec_at_eq k hk c _ (by omega)]
        simp only [Option.bind_some]
        rw [spec_each_eq k hk mode ⟨s.1.1, s.1.2⟩ _ _ _ (100 * i) (by omega) hI.1 hI.2.1 (atM_ids (ids_of_ok ha) _) (atM_ids (ids_of_ok hb) _) (atM_ids (ids_of_ok hc) _) (by omega) (by omega) (by omega)]
        simp only [Option.bind_some]
        have q3 := spec_merge_eq k hk s.2 (eachF mode s.1 (atM a (timesM [a, b, c])[i]) (atM b (timesM [a, b, c])[i]) (atM c (timesM [a, b, c])[i])).2 (by omega) hI.2.2.2.1.few q2.2.1.few
        rw [show (eachStep mode s.1.1 s.1.2 (atM a (timesM [a, b, c])[i]) (atM b (timesM [a, b, c])[i]) (atM c (timesM [a, b, c])[i])).2.2 = (eachF mode s.1 (atM a (timesM [a, b, c])[i]) (atM b (timesM [a, b, c])[i]) (atM c (timesM [a, b, c])[i])).2 from rfl, q3, wrS i (by omega)]
        rfl) k (([], []), []) (by omega) RunInv.start).1
theorem impl_NotOf_eq (k : Nat) (hk : 1000000000000 ≤ k) (mode : Int) (hmo : 0 ≤ mode ∧ mode ≤ 4) (a b c : List GOcc) (sa : Small a) (sb : Small b) (sc : Small c) : impl_NotOf.f k mode a b c = some (spanOfM (notF mode) a b c) := by
  unfold impl_NotOf.f
  rw [spanOf_eq k hk mode hmo (notF_ok mode) (fun m p a b c hm h1 h2 ha hb hc na nb nc => (not_eq k hk mode ⟨p.1, p.2⟩ a b c m (by omega) h1 h2 ha hb hc (by omega) (by omega) (by omega)).1) a b c sa sb sc]
  rfl
theorem impl_EachOf_eq (k : Nat) (hk : 1000000000000 ≤ k) (mode : Int) (hmo : 0 ≤ mode ∧ mode ≤ 4) (a b c : List GOcc) (sa : Small a) (sb : Small b) (sc : Small c) : impl_EachOf.f k mode a b c = some (spanOfM (eachF mode) a b c) := by
  unfold impl_EachOf.f
  rw [spanOf_eq k hk mode hmo (eachF_ok mode) (fun m p a b c hm h1 h2 ha hb hc na nb nc => (each_eq k hk mode ⟨p.1, p.2⟩ a b c m (by omega) h1 h2 ha hb hc (by omega) (by omega) (by omega)).1) a b c sa sb sc]
  rfl
theorem spec_NotOf_eq (k : Nat) (hk : 1000000000000 ≤ k) (mode : Int) (hmo : 0 ≤ mode ∧ mode ≤ 4) (a b c : List GOcc) (sa : Small a) (sb : Small b) (sc : Small c) : spec_NotOf.f k mode a b c = some (spanOfM (notF mode) a b c) := by
  unfold spec_NotOf.f spanOfM spec_l5All.f
  rw [(spanFits_eq k hk mode hmo a b c sa sb sc).2]
  simp only [Option.bind_some]
  by_cases h : occsOk a = true ∧ occsOk b = true ∧ occsOk c = true
  · obtain ⟨ha, hb, hc⟩ := h
    have o := span_ok (notF_ok mode) ha hb hc
    have := o.2.2
    rw [if_pos (by simp [ha, hb, hc]), if_pos ⟨ha, hb, hc⟩, (times_three k hk ha hb hc).2]
    simp only [Option.bind_some]
    rw [(spec_span_loop k hk mode hmo ha hb hc).1]
    simp only [Option.bind_some]
    rw [told_k k hk _ (by omega) o.2.1.few]
    rfl
  · rw [if_neg (by simpa using h), if_neg h]
theorem spec_EachOf_eq (k : Nat) (hk : 1000000000000 ≤ k) (mode : Int) (hmo : 0 ≤ mode ∧ mode ≤ 4) (a b c : List GOcc) (sa : Small a) (sb : Small b) (sc : Small c) : spec_EachOf.f k mode a b c = some (spanOfM (eachF mode) a b c) := by
  unfold spec_EachOf.f spanOfM spec_l5All.f
  rw [(spanFits_eq k hk mode hmo a b c sa sb sc).2]
  simp only [Option.bind_some]
  by_cases h : occsOk a = true ∧ occsOk b = true ∧ occsOk c = true
  · obtain ⟨ha, hb, hc⟩ := h
    have o := span_ok (eachF_ok mode) ha hb hc
    have := o.2.2
    rw [if_pos (by simp [ha, hb, hc]), if_pos ⟨ha, hb, hc⟩, (times_three k hk ha hb hc).2]
    simp only [Option.bind_some]
    rw [(spec_span_loop k hk mode hmo ha hb hc).2]
    simp only [Option.bind_some]
    rw [told_k k hk _ (by omega) o.2.1.few]
    rfl
  · rw [if_neg (by simpa using h), if_neg h]
end Go.Proofs.YtdhlbpgjcfdofaaGreat
