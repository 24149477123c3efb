/- Histories later: both programs alike; the law. -/
import Derived.Test.YtggoffcbifibnaaM0a
namespace Go.Proofs.Ytggoffcbifibnaa
open Go Go.Vm
set_option linter.unusedVariables false
set_option linter.unusedSimpArgs false
def lastAt (l : List GEv) : Int := match l.getLast? with
  | some e => e.At
  | none => 0
theorem l6End_eq (l : List GEv) (hl : l.length < 4611686018427387904) : spec_l6End.f l = some (lastAt l) := by
  unfold spec_l6End.f lastAt
  by_cases h : (l.length : Int) = 0
  · rw [if_pos h]
    have : l = [] := List.eq_nil_of_length_eq_zero (by omega)
    subst this; rfl
  · rw [if_neg h]
    obtain ⟨m, hm⟩ : ∃ m, l.length = m + 1 := ⟨l.length - 1, by omega⟩
    rw [hm, wrP m (by omega), req_pos (by omega), Int.toNat_natCast]
    have : l.getLast? = l[m]? := by rw [List.getLast?_eq_getElem?, hm]; rfl
    rw [this, List.getElem?_eq_getElem (show m < l.length by omega)]
    rfl
theorem now_eq (l : List GEv) (hl : l.length < 4611686018427387904) : impl_now.f l = some (lastAt l) := l6End_eq l hl
def shEv (n : Int) (e : GEv) : GEv := ⟨e.Sym, IntKind.wrap .i64 (e.At + n), e.Val⟩
theorem spec_TurnLate_loop (k : Nat) (l : List GEv) (p1 : Int) (hl : l.length < 100) : ∀ (d n i : Nat) (acc : List GEv), i + d = l.length → d < n → acc = (l.take i).map (shEv p1) →
    spec_TurnLate.l0 k l p1 n acc (i : Int) = some (l.map (shEv p1)) := by
  intro d
  induction d with
  | zero =>
    intro n i acc hi hn ha
    obtain ⟨n, rfl⟩ : ∃ m, n = m + 1 := ⟨n - 1, by omega⟩
    rw [spec_TurnLate.l0, if_neg (by omega), ha, show i = l.length by omega, List.take_length]
  | succ d ih =>
    intro n i acc hi hn ha
    obtain ⟨n, rfl⟩ : ∃ m, n = m + 1 := ⟨n - 1, by omega⟩
    have hlt : i < l.length := by omega
    have hal : acc.length = i := by rw [ha]; simp; omega
    rw [spec_TurnLate.l0, if_pos (by omega), req_pos (by omega), Int.toNat_natCast, List.getElem?_eq_getElem hlt]
    simp only [Option.bind_some]
    rw [req_pos (by omega), wrS i (by omega)]
    refine ih n (i + 1) _ (by omega) (by omega) ?_
    rw [ha, show l.take (i + 1) = l.take i ++ [l[i]] from by rw [List.take_add_one, List.getElem?_eq_getElem hlt]; rfl, List.map_append]
    rfl
theorem impl_TurnLate_loop (k : Nat) (l : List GEv) (p1 : Int) (hl : l.length < 100) : ∀ (d n i : Nat) (acc : List GEv), i + d = l.length → d < n → acc = (l.take i).map (shEv p1) ++ l.drop i →
    impl_TurnLate.l0 k p1 l n acc (i : Int) = some (l.map (shEv p1)) := by
  intro d
  induction d with
  | zero =>
    intro n i acc hi hn ha
    obtain ⟨n, rfl⟩ : ∃ m, n = m + 1 := ⟨n - 1, by omega⟩
    rw [impl_TurnLate.l0, if_neg (by omega), ha, show i = l.length by omega, List.take_length]; simp
  | succ d ih =>
    intro n i acc hi hn ha
    obtain ⟨n, rfl⟩ : ∃ m, n = m + 1 := ⟨n - 1, by omega⟩
    have hlt : i < l.length := by omega
    have hal : acc.length = l.length := by rw [ha]; simp; omega
    have hget : acc[i]? = some l[i] := by
      rw [ha, List.getElem?_append_right (by simp; omega)]
      simp [hlt, Nat.min_eq_left (Nat.le_of_lt hlt)]
    rw [impl_TurnLate.l0, if_pos (by omega), req_pos (by omega), req_pos (by omega), Int.toNat_natCast, hget]
    simp only [Option.bind_some]
    rw [req_pos (by omega), req_pos (by omega), wrS i (by omega)]
    refine ih n (i + 1) _ (by omega) (by omega) ?_
    rw [ha, List.set_append_right _ _ (by simp; omega)]
    simp only [List.length_map, List.length_take, Nat.min_eq_left (Nat.le_of_lt hlt), Nat.sub_self]
    rw [List.drop_eq_getElem_cons hlt, List.set_cons_zero, show l.take (i + 1) = l.take i ++ [l[i]] from by rw [List.take_add_one, List.getElem?_eq_getElem hlt]; rfl, List.map_append, List.append_assoc]
    rfl
def turnLate (l : List GEv) (n : Int) : List GEv := if evsOk l = true ∧ 0 ≤ n ∧ n ≤ 1000 ∧ ¬ 1000 < IntKind.wrap .i64 (lastAt l + n) then l.map (shEv n) else []
theorem spec_TurnLate_eq (l : List GEv) (n : Int) (hl : l.length < 4611686018427387904) : Evn (fun k => spec_TurnLate.f k l n) (turnLate l n) := by
  simp only [spec_TurnLate.f]
  refine Evn.bind (spec_EvsOk_eq l hl) ?_
  unfold turnLate
  by_cases h : evsOk l = true
  · refine Evn.pos h ?_
    by_cases h1 : n < 0
    · rw [if_neg (by omega)]; exact Evn.pos h1 (Evn.const rfl)
    refine Evn.neg h1 ?_
    by_cases h2 : 1000 < n
    · rw [if_neg (by omega)]; exact Evn.pos h2 (Evn.const rfl)
    refine Evn.neg h2 (Evn.bind (Evn.const (l6End_eq l hl)) ?_)
    by_cases h3 : 1000 < IntKind.wrap .i64 (lastAt l + n)
    · rw [if_neg (by omega)]; exact Evn.pos h3 (Evn.const rfl)
    rw [if_pos ⟨h, by omega, by omega, h3⟩]
    refine Evn.neg h3 (Evn.bind (r := l.map (shEv n)) ⟨l.length + 1, fun k hk => ?_⟩ (Evn.const rfl))
    have h24 := evsOk_len h
    exact spec_TurnLate_loop k l n (by omega) l.length k 0 [] (by omega) (by omega) rfl
  · rw [if_neg (fun x => h x.1)]; exact Evn.neg h (Evn.const rfl)
theorem cloneEvs_eq (l : List GEv) (hl : l.length * 24 ≤ reachBytes) : impl_cloneEvs.f l = some l := by
  unfold impl_cloneEvs.f; exact req_pos (reach_le hl)
theorem impl_TurnLate_eq (l : List GEv) (n : Int) (hl : l.length * 24 ≤ reachBytes) : Evn (fun k => impl_TurnLate.f k l n) (turnLate l n) := by
  have hl' := reach_lt hl (by omega)
  simp only [impl_TurnLate.f]
  refine Evn.bind (impl_EvsOk_eq l hl') ?_
  unfold turnLate
  by_cases h : evsOk l = true
  · refine Evn.pos h (Evn.bind (Evn.const (in_eq _ _ _)) ?_)
    by_cases h1 : (decide (0 ≤ n) && decide (n ≤ 1000)) = true
    · have h1' : 0 ≤ n ∧ n ≤ 1000 := by simpa using h1
      refine Evn.pos h1 (Evn.bind (Evn.const (now_eq l hl')) ?_)
      by_cases h3 : 1000 < IntKind.wrap .i64 (lastAt l + n)
      · rw [if_neg (by omega)]; exact Evn.pos h3 (Evn.const rfl)
      rw [if_pos ⟨h, by omega, by omega, h3⟩]
      refine Evn.neg h3 (Evn.bind (Evn.const (cloneEvs_eq l hl)) (Evn.bind (r := l.map (shEv n)) ⟨l.length + 1, fun k hk => ?_⟩ (Evn.const rfl)))
      have h24 := evsOk_len h
      exact impl_TurnLate_loop k l n (by omega) l.length k 0 l (by omega) (by omega) (by simp)
    · have h1' : ¬ (0 ≤ n ∧ n ≤ 1000) := by simpa using h1
      rw [if_neg (by omega)]; exact Evn.neg h1 (Evn.const rfl)
  · rw [if_neg (fun x => h x.1)]; exact Evn.neg h (Evn.const rfl)
theorem turnLate_len (l : List GEv) (n : Int) : (turnLate l n).length ≤ l.length := by
  unfold turnLate; split <;> simp
end Go.Proofs.Ytggoffcbifibnaa
