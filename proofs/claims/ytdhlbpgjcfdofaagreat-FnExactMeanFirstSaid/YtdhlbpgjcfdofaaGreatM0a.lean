/- Plain lemmas: numbers, loops over lists; events. -/
import Derived.Test.YtdhlbpgjcfdofaaGreatL
namespace Go.Proofs.YtdhlbpgjcfdofaaGreat
open Go Go.Vm
set_option linter.unusedVariables false
set_option linter.unusedSimpArgs false

theorem wr (x : Int) (h : -9223372036854775808 ≤ x ∧ x < 9223372036854775808) : IntKind.wrap .i64 x = x := wrap_ok h
theorem wrS (i : Nat) (h : i < 4611686018427387904) : IntKind.wrap .i64 ((i : Int) + 1) = ((i + 1 : Nat) : Int) := by rw [wr _ (by omega)]; simp
theorem wrP (i : Nat) (h : i < 4611686018427387904) : IntKind.wrap .i64 (((i + 1 : Nat) : Int) - 1) = (i : Int) := by rw [wr _ (by omega)]; simp
/-- from some number of rounds on -/
def Evn {α : Type} (g : Nat → Option α) (r : α) : Prop := ∃ K, ∀ k, K ≤ k → g k = some r
theorem Evn.const {α : Type} {g : Option α} {r : α} (h : g = some r) : Evn (fun _ => g) r := ⟨0, fun _ _ => h⟩
theorem Evn.bind {α β : Type} {g : Nat → Option α} {f : Nat → α → Option β} {r : α} {s : β} (h1 : Evn g r) (h2 : Evn (fun k => f k r) s) : Evn (fun k => (g k).bind (f k)) s := by
  obtain ⟨K1, h1⟩ := h1
  obtain ⟨K2, h2⟩ := h2
  exact ⟨K1 + K2, fun k hk => by simp only; rw [h1 k (by omega)]; exact h2 k (by omega)⟩
theorem Evn.get {α : Type} {g : Nat → Option α} {r : α} (h : Evn g r) : ∃ k, g k = some r := h.elim fun K h => ⟨K, h K (Nat.le_refl _)⟩
theorem Evn.req {α : Type} {c : Prop} [Decidable c] {g : Nat → Option α} {r : α} (hc : c) (h : Evn g r) : Evn (fun k => Vm.req c (g k)) r := by
  obtain ⟨K, h⟩ := h
  exact ⟨K, fun k hk => by simp only; rw [req_pos hc]; exact h k hk⟩
theorem Evn.pos {α : Type} {c : Prop} [Decidable c] {g g' : Nat → Option α} {r : α} (hc : c) (h : Evn g r) : Evn (fun k => if c then g k else g' k) r := by
  obtain ⟨K, h⟩ := h
  exact ⟨K, fun k hk => by simp only; rw [if_pos hc]; exact h k hk⟩
theorem Evn.neg {α : Type} {c : Prop} [Decidable c] {g g' : Nat → Option α} {r : α} (hc : ¬ c) (h : Evn g' r) : Evn (fun k => if c then g k else g' k) r := by
  obtain ⟨K, h⟩ := h
  exact ⟨K, fun k hk => by simp only; rw [if_neg hc]; exact h k hk⟩
theorem reach_lt {n b : Nat} (h : n * b ≤ reachBytes) (hb : 8 ≤ b) : n < 4611686018427387904 := by
  have h1 : n * 8 ≤ n * b := Nat.mul_le_mul_left n hb
  have h2 : reachBytes = 140737488351232 := rfl
  omega
theorem reach_le {n b : Nat} (h : n * b ≤ reachBytes) : n * b ≤ 140737488355328 := by
  have h2 : reachBytes = 140737488351232 := rfl
  omega

/- events -/
def evOk (e : GEv) : Bool := decide (0 ≤ e.Sym) && decide (e.Sym < 5) && decide (1 ≤ e.At) && decide (e.At ≤ 1000) && decide (0 ≤ e.Val) && decide (e.Val ≤ 100)
theorem spec_EvOk_eq (e : GEv) : spec_EvOk.f e = some (evOk e) := by
  unfold spec_EvOk.f evOk
  repeat' split
  all_goals (rw [Option.some.injEq, Bool.eq_iff_iff]; simp; omega)
theorem in_eq (a b c : Int) : impl_in.f a b c = some (decide (b ≤ a) && decide (a ≤ c)) := by
  unfold impl_in.f
  split
  all_goals (rw [Option.some.injEq, Bool.eq_iff_iff]; simp; omega)
theorem impl_EvOk_eq (e : GEv) : impl_EvOk.f e = some (evOk e) := by
  unfold impl_EvOk.f impl_isSym.f evOk
  simp only [in_eq, Option.bind_some]
  repeat' split
  all_goals (rw [Option.some.injEq, Bool.eq_iff_iff]; simp_all; try omega)
def prevOk (l : List GEv) (a : Int) : Nat → Bool
  | 0 => true
  | j + 1 => match l[j]? with
    | some d => decide (d.At < a)
    | none => false
def evGood (l : List GEv) (i : Nat) : Bool := match l[i]? with
  | some e => evOk e && prevOk l e.At i
  | none => false
def evsOk (l : List GEv) : Bool := (List.range' 0 l.length).all (evGood l) && decide (l.length ≤ 24)
theorem spec_EvsOk_loop (k : Nat) (l : List GEv) (hl : l.length < 4611686018427387904) : ∀ (d n i : Nat), i + d = l.length → d < n →
    spec_EvsOk.l0 k l n (i : Int) = some (if (List.range' i d).all (evGood l) then .ok () else .error false) := by
  intro d
  induction d with
  | zero =>
    intro n i hi hn
    obtain ⟨n, rfl⟩ : ∃ m, n = m + 1 := ⟨n - 1, by omega⟩
    rw [spec_EvsOk.l0, if_neg (by omega)]; simp
  | succ d ih =>
    intro n i hi hn
    obtain ⟨n, rfl⟩ : ∃ m, n = m + 1 := ⟨n - 1, by omega⟩
    have hlt : i < l.length := by omega
    have hnext := ih n (i + 1) (by omega) (by omega)
    rw [spec_EvsOk.l0, if_pos (by omega), req_pos (by omega), Int.toNat_natCast, List.getElem?_eq_getElem hlt]
    simp only [Option.bind_some, spec_EvOk_eq, List.range'_succ, List.all_cons]
    have hg : evGood l i = (evOk l[i] && prevOk l l[i].At i) := by unfold evGood; rw [List.getElem?_eq_getElem hlt]
    rw [hg]
    cases hok : evOk l[i]
    · simp
    · cases i with
      | zero => simp only [if_true]; rw [if_neg (by omega), wrS 0 (by omega), hnext]; simp only [prevOk, Bool.true_and]
      | succ j =>
        simp only [if_true]
        rw [if_pos (by omega), req_pos (by omega)]
        simp only [wrP j (by omega)]
        rw [req_pos (by omega), Int.toNat_natCast, List.getElem?_eq_getElem (show j < l.length by omega)]
        simp only [Option.bind_some]
        have hp : prevOk l l[j + 1].At (j + 1) = decide (l[j].At < l[j + 1].At) := by simp only [prevOk, List.getElem?_eq_getElem (show j < l.length by omega)]
        rw [hp]
        by_cases h : l[j].At < l[j + 1].At
        · rw [if_pos h, wrS (j + 1) (by omega), hnext]; simp only [h, decide_true, Bool.true_and]
        · rw [if_neg h]; simp only [h, decide_false, Bool.true_and, Bool.false_and]; rfl
theorem impl_EvsOk_loop (k : Nat) (l : List GEv) (hl : l.length < 4611686018427387904) : ∀ (d n i : Nat), i + d = l.length → d < n →
    impl_EvsOk.l0 k l n (i : Int) = some (if (List.range' i d).all (evGood l) then .ok () else .error false) := by
  intro d
  induction d with
  | zero =>
    intro n i hi hn
    obtain ⟨n, rfl⟩ : ∃ m, n = m + 1 := ⟨n - 1, by omega⟩
    rw [impl_EvsOk.l0, if_neg (by omega)]; simp
  | succ d ih =>
    intro n i hi hn
    obtain ⟨n, rfl⟩ : ∃ m, n = m + 1 := ⟨n - 1, by omega⟩
    have hlt : i < l.length := by omega
    have hnext := ih n (i + 1) (by omega) (by omega)
    rw [impl_EvsOk.l0, if_pos (by omega), req_pos (by omega), Int.toNat_natCast, List.getElem?_eq_getElem hlt]
    simp only [Option.bind_some, impl_EvOk_eq, List.range'_succ, List.all_cons]
    have hg : evGood l i = (evOk l[i] && prevOk l l[i].At i) := by unfold evGood; rw [List.getElem?_eq_getElem hlt]
    rw [hg]
    cases hok : evOk l[i]
    · simp
    · cases i with
      | zero => simp only [if_true]; rw [if_neg (by omega), wrS 0 (by omega), hnext]; simp only [prevOk, Bool.true_and]
      | succ j =>
        simp only [if_true]
        rw [if_pos (by omega)]
        simp only [wrP j (by omega)]
        rw [req_pos (by omega), Int.toNat_natCast, List.getElem?_eq_getElem (show j < l.length by omega)]
        simp only [Option.bind_some]
        have hp : prevOk l l[j + 1].At (j + 1) = decide (l[j].At < l[j + 1].At) := by simp only [prevOk, List.getElem?_eq_getElem (show j < l.length by omega)]
        rw [hp]
        by_cases h : l[j].At < l[j + 1].At
        · rw [if_pos h, wrS (j + 1) (by omega), hnext]; simp only [h, decide_true, Bool.true_and]
        · rw [if_neg h]; simp only [h, decide_false, Bool.true_and, Bool.false_and]; rfl
theorem spec_EvsOk_eq (l : List GEv) (hl : l.length < 4611686018427387904) : Evn (fun k => spec_EvsOk.f k l) (evsOk l) := by
  refine ⟨l.length + 1, fun k hk => ?_⟩
  dsimp only
  unfold spec_EvsOk.f evsOk
  by_cases h : 24 < (l.length : Int)
  · rw [if_pos h]; have : ¬ l.length ≤ 24 := by omega
    simp [this]
  · rw [if_neg h]
    have := spec_EvsOk_loop k l hl l.length k 0 (by omega) (by omega)
    rw [show ((0 : Nat) : Int) = 0 from rfl] at this
    rw [this]
    have h' : l.length ≤ 24 := by omega
    cases (List.range' 0 l.length).all (evGood l) <;> simp [h']
theorem impl_EvsOk_eq (l : List GEv) (hl : l.length < 4611686018427387904) : Evn (fun k => impl_EvsOk.f k l) (evsOk l) := by
  refine ⟨l.length + 1, fun k hk => ?_⟩
  dsimp only
  unfold impl_EvsOk.f evsOk
  have := impl_EvsOk_loop k l hl l.length k 0 (by omega) (by omega)
  rw [show ((0 : Nat) : Int) = 0 from rfl] at this
  rw [this]
  cases (List.range' 0 l.length).all (evGood l)
  · simp
  · simp only [if_true, Option.bind_some, Bool.true_and, Option.some.injEq]
    by_cases h : l.length ≤ 24
    · have : ¬ (24 : Int) < l.length := by omega
      simp [h, this]
    · have : (24 : Int) < l.length := by omega
      simp [h, this]
theorem evsOk_len {l : List GEv} (h : evsOk l = true) : l.length ≤ 24 := by
  unfold evsOk at h; simp at h; exact h.2
theorem evsOk_ok {l : List GEv} (h : evsOk l = true) {e : GEv} (he : e ∈ l) : evOk e = true := by
  unfold evsOk at h
  simp only [Bool.and_eq_true, List.all_eq_true, List.mem_range', decide_eq_true_eq] at h
  obtain ⟨i, hi⟩ := List.mem_iff_getElem?.1 he
  have hlt : i < l.length := by
    rcases Nat.lt_or_ge i l.length with h1 | h1
    · exact h1
    · rw [List.getElem?_eq_none h1] at hi; cases hi
  have := h.1 i ⟨i, hlt, by omega⟩
  unfold evGood at this
  rw [hi] at this
  simp only [Bool.and_eq_true] at this
  exact this.1
end Go.Proofs.YtdhlbpgjcfdofaaGreat
