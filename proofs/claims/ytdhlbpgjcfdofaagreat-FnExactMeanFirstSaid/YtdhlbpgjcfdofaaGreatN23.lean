/- What is meant, over all that happened: both programs give one answer. -/
import Derived.Test.YtdhlbpgjcfdofaaGreatN22
import Derived.Test.YtdhlbpgjcfdofaaGreatE1
namespace Go.Proofs.YtdhlbpgjcfdofaaGreat
open Go Go.Vm
set_option linter.unusedVariables false
def combM (mode : Int) (l : List GEv) (kd n : Int) (r : List (List GOcc)) : List GOcc × Bool :=
  if kd = 2 then orM (r.getD 0 []) (r.getD 1 []) else if kd = 3 then pairOfM (andF mode) (r.getD 0 []) (r.getD 1 []) else if kd = 4 then pairOfM (seqF mode) (r.getD 0 []) (r.getD 1 []) else
  if kd = 5 then spanOfM (notF mode) (r.getD 0 []) (r.getD 1 []) (r.getD 2 []) else if kd = 6 then spanOfM (eachF mode) (r.getD 0 []) (r.getD 1 []) (r.getD 2 []) else plusM n (endM l) (r.getD 0 [])
mutual
/-- what is meant -/
def meanM (mode : Int) (l : List GEv) : GEx → List GOcc × Bool
  | ⟨kd, sy, n, ks⟩ => if kd = 1 then (symFrom sy 0 l, true) else match meansM mode l ks with
    | none => ([], false)
    | some r => combM mode l kd n r
def meansM (mode : Int) (l : List GEv) : List GEx → Option (List (List GOcc))
  | [] => some []
  | x :: xs => if (meanM mode l x).2 = true then (meansM mode l xs).map fun r => (meanM mode l x).1 :: r else none
end
theorem meanM_eq (mode : Int) (l : List GEv) (x : GEx) : meanM mode l x = if x.Kind = 1 then (symFrom x.Sym 0 l, true) else match meansM mode l x.Kids with
    | none => ([], false)
    | some r => combM mode l x.Kind x.N r := by
  obtain ⟨a, b, c, d⟩ := x
  simp only [meanM]
theorem meansM_nil (mode : Int) (l : List GEv) : meansM mode l [] = some [] := by simp only [meansM]
theorem meansM_cons (mode : Int) (l : List GEv) (x : GEx) (xs : List GEx) : meansM mode l (x :: xs) = if (meanM mode l x).2 = true then (meansM mode l xs).map fun r => (meanM mode l x).1 :: r else none := by simp only [meansM]
theorem meansM_some {mode : Int} {l : List GEv} : ∀ {xs : List GEx} {r : List (List GOcc)}, meansM mode l xs = some r → r.length = xs.length ∧ ∀ i (h : i < xs.length), (meanM mode l xs[i]).2 = true ∧ r.getD i [] = (meanM mode l xs[i]).1
  | [], r, h => by
    rw [meansM_nil] at h
    cases h
    exact ⟨rfl, fun i hi => by simp at hi⟩
  | x :: xs, r, h => by
    rw [meansM_cons] at h
    split at h
    · rename_i h1
      rw [Option.map_eq_some_iff] at h
      obtain ⟨r', h2, rfl⟩ := h
      obtain ⟨a, b⟩ := meansM_some h2
      refine ⟨by simp [a], fun i hi => ?_⟩
      cases i with
      | zero => exact ⟨h1, rfl⟩
      | succ i =>
        have := b i (by simpa using hi)
        exact ⟨this.1, by simpa using this.2⟩
    · cases h
/-- what the loops over the parts give -/
def partsM (mode : Int) (l : List GEv) (acc : List (List GOcc)) (xs : List GEx) : Except (List GOcc × Bool) (List (List GOcc)) := match meansM mode l xs with
  | none => .error ([], false)
  | some r => .ok (acc ++ r)
theorem partsM_cons (mode : Int) (l : List GEv) (acc : List (List GOcc)) (x : GEx) (xs : List GEx) : partsM mode l acc (x :: xs) = if (meanM mode l x).2 = true then partsM mode l (acc ++ [(meanM mode l x).1]) xs else .error ([], false) := by
  unfold partsM
  rw [meansM_cons]
  by_cases h : (meanM mode l x).2 = true
  · rw [if_pos h, if_pos h]
    cases meansM mode l xs with
    | none => rfl
    | some r => simp
  · rw [if_neg h, if_neg h]
theorem impl_kids_loop (k : Nat) (rec' : GEx → Int → List GEv → Option (List GOcc × Bool)) (x : GEx) (mode : Int) (l : List GEv) (hx : x.Kids.length ≤ 1000000) (hr : ∀ y ∈ x.Kids, rec' y mode l = some (meanM mode l y)) :
    ∀ (d i n : Nat) (acc : List (List GOcc)), i + d = x.Kids.length → d < n → acc.length ≤ i → impl_Ex_mean.l0 k rec' x mode l n acc (i : Int) = some (partsM mode l acc (x.Kids.drop i)) := by
  intro d
  induction d with
  | zero =>
    intro i n acc hi hn ha
    obtain ⟨n, rfl⟩ : ∃ m, n = m + 1 := ⟨n - 1, by omega⟩
    rw [impl_Ex_mean.l0, if_neg (by omega), List.drop_eq_nil_of_le (by omega)]
    simp [partsM, meansM_nil]
  | succ d ih =>
    intro i n acc hi hn ha
    obtain ⟨n, rfl⟩ : ∃ m, n = m + 1 := ⟨n - 1, by omega⟩
    have h : i < x.Kids.length := by omega
    rw [impl_Ex_mean.l0, if_pos (by omega), req_pos (by omega), Int.toNat_natCast, List.getElem?_eq_getElem h, List.drop_eq_getElem_cons h, partsM_cons]
    simp only [Option.bind_some, hr _ (List.getElem_mem h)]
    by_cases c : (meanM mode l x.Kids[i]).2 = true
    · rw [if_pos c, if_pos c, req_pos (by omega), wrS i (by omega), ih (i + 1) n _ (by omega) (by omega) (by simp; omega)]
    · rw [if_neg c, if_neg c]
theorem spec_kids_loop (k : Nat) (rec' : GEx → Int → List GEv → Option (List GOcc × Bool)) (x : GEx) (mode : Int) (l : List GEv) (hx : x.Kids.length ≤ 1000000) (hr : ∀ y ∈ x.Kids, rec' y mode l = some (meanM mode l y)) :
    ∀ (d i n : Nat) (acc : List (List GOcc)), i + d = x.Kids.length → d < n → acc.length ≤ i → spec_l6Mean.l0 k rec' x mode l n acc (i : Int) = some (partsM mode l acc (x.Kids.drop i)) := by
  intro d
  induction d with
  | zero =>
    intro i n acc hi hn ha
    obtain ⟨n, rfl⟩ : ∃ m, n = m + 1 := ⟨n - 1, by omega⟩
    rw [spec_l6Mean.l0, if_neg (by omega), List.drop_eq_nil_of_le (by omega)]
    simp [partsM, meansM_nil]
  | succ d ih =>
    intro i n acc hi hn ha
    obtain ⟨n, rfl⟩ : ∃ m, n = m + 1 := ⟨n - 1, by omega⟩
    have h : i < x.Kids.length := by omega
    rw [spec_l6Mean.l0, if_pos (by omega), req_pos (by omega), Int.toNat_natCast, List.getElem?_eq_getElem h, List.drop_eq_getElem_cons h, partsM_cons]
    simp only [Option.bind_some, hr _ (List.getElem_mem h)]
    by_cases c : (meanM mode l x.Kids[i]).2 = true
    · rw [if_pos c, if_pos c, req_pos (by omega), wrS i (by omega), ih (i + 1) n _ (by omega) (by omega) (by simp; omega)]
    · rw [if_neg c, if_neg c]
theorem told_small {l : List GOcc} (h : Fews l) : Small (told l).1 := by
  unfold told
  split
  · exact small_nil
  · exact ⟨by dsimp only; omega, h⟩
theorem comb_small {mode : Int} {l : List GEv} {kd n : Int} {r : List (List GOcc)} : Small (combM mode l kd n r).1 := by
  unfold combM
  split
  · unfold orM
    split
    · rename_i h; exact told_small (fews_mergeM (fews_of_ok h.1) (fews_of_ok h.2))
    · exact small_nil
  split
  · unfold pairOfM
    split
    · rename_i h; exact told_small (pair_ok (andF_ok mode) h.1 h.2).2.1.few
    · exact small_nil
  split
  · unfold pairOfM
    split
    · rename_i h; exact told_small (pair_ok (seqF_ok mode) h.1 h.2).2.1.few
    · exact small_nil
  split
  · unfold spanOfM
    split
    · rename_i h; exact told_small (span_ok (notF_ok mode) h.1 h.2.1 h.2.2).2.1.few
    · exact small_nil
  split
  · unfold spanOfM
    split
    · rename_i h; exact told_small (span_ok (eachF_ok mode) h.1 h.2.1 h.2.2).2.1.few
    · exact small_nil
  · unfold plusM
    split
    · rename_i h; exact ⟨by have := latesM_len n (endM l) (r.getD 0 []); have := occsOk_len h.1; dsimp only; omega, lates_few (fews_of_ok h.1)⟩
    · exact small_nil
theorem symFrom_facts (sym : Int) : ∀ (l : List GEv) (i : Nat), (symFrom sym i l).length ≤ l.length ∧ ∀ o ∈ symFrom sym i l, o.Ids.length = 1
  | [], i => by simp [symFrom]
  | e :: l, i => by
    have := symFrom_facts sym l (i + 1)
    unfold symFrom
    split
    · exact ⟨by simp; omega, fun o ho => by
        rcases List.mem_cons.1 ho with rfl | h
        · rfl
        · exact this.2 o h⟩
    · exact ⟨by simp; omega, this.2⟩
theorem mean_small {mode : Int} {l : List GEv} (hl : l.length ≤ 1000000) (x : GEx) : Small (meanM mode l x).1 := by
  rw [meanM_eq]
  split
  · have := symFrom_facts x.Sym l 0
    exact ⟨by dsimp only; omega, fun o ho => by have := this.2 o ho; omega⟩
  · split
    · exact small_nil
    · exact comb_small
theorem form_kids {e : GEx} (h : exForm e = true) : exHere e = true ∧ ∀ x ∈ e.Kids, exForm x = true := by
  rw [exForm_eq, Bool.and_eq_true, exForms_all, List.all_eq_true] at h
  exact h
theorem here_kinds {e : GEx} (h : exHere e = true) : (e.Kind = 1 ∧ e.Kids.length = 0) ∨ (e.Kind = 2 ∧ e.Kids.length = 2) ∨ (e.Kind = 3 ∧ e.Kids.length = 2) ∨ (e.Kind = 4 ∧ e.Kids.length = 2) ∨ (e.Kind = 5 ∧ e.Kids.length = 3) ∨ (e.Kind = 6 ∧ e.Kids.length = 3) ∨ (e.Kind = 7 ∧ e.Kids.length = 1 ∧ 1 ≤ e.N ∧ e.N ≤ 20) := by
  unfold exHere kidsN at h
  simp only [Bool.and_eq_true, decide_eq_true_eq] at h
  obtain ⟨⟨⟨⟨h1, h2⟩, h3⟩, h4⟩, h5⟩ := h
  repeat' split at h1
  all_goals first | omega | skip
  rw [if_pos (by assumption), Bool.and_eq_true, decide_eq_true_eq, decide_eq_true_eq] at h5
  omega
theorem getD_some {α : Type} {r : List α} {d : α} {i : Nat} (h : i < r.length) : r[i]? = some (r.getD i d) := by
  rw [List.getD_eq_getElem?_getD, List.getElem?_eq_getElem h]; rfl
theorem pair_eta {α β : Type} (p : α × β) : some (p.1, p.2) = some p := rfl
theorem mean_eq (mode : Int) (hmo : 0 ≤ mode ∧ mode ≤ 4) (l : List GEv) (hl : l.length ≤ 1000000) : ∀ x : GEx, exN x ≤ 1000000 → exForm x = true → ∀ k : Nat, 1000000000000 + exN x ≤ k → impl_Ex_mean.f k x mode l = some (meanM mode l x) ∧ spec_l6Mean.f k x mode l = some (meanM mode l x) := by
  refine exInd fun x ih hn hf k hk => ?_
  obtain ⟨here, hks⟩ := form_kids hf
  rw [exN_eq] at hn hk
  obtain ⟨k, rfl⟩ : ∃ m, k = m + 1 := ⟨k - 1, by omega⟩
  have hkk : 1000000000000 ≤ k := by omega
  have hlen := exNs_len x.Kids
  have kind := here_kinds here
  have hrec : ∀ y ∈ x.Kids, impl_Ex_mean.f k y mode l = some (meanM mode l y) ∧ spec_l6Mean.f k y mode l = some (meanM mode l y) := fun y hy => by
    have := exNs_mem hy
    exact ih y hy (by omega) (hks y hy) k (by omega)
  have L1 := impl_kids_loop k (impl_Ex_mean.f k) x mode l (by omega) (fun y hy => (hrec y hy).1) x.Kids.length 0 k [] (by omega) (by omega) (by simp)
  have L2 := spec_kids_loop k (spec_l6Mean.f k) x mode l (by omega) (fun y hy => (hrec y hy).2) x.Kids.length 0 k [] (by omega) (by omega) (by simp)
  rw [show ((0 : Nat) : Int) = 0 from rfl, List.drop_zero] at L1 L2
  rw [impl_Ex_mean.f, spec_l6Mean.f, L1, L2, meanM_eq]
  simp only [Option.bind_some]
  unfold partsM
  cases hm : meansM mode l x.Kids with
  | none =>
    have h1 : x.Kind ≠ 1 := fun h1 => by
      have e : x.Kids = [] := List.length_eq_zero_iff.1 (by omega)
      rw [e, meansM_nil] at hm
      cases hm
    rw [if_neg h1, if_neg h1]
    exact ⟨rfl, rfl⟩
  | some r =>
    obtain ⟨rl, rg⟩ := meansM_some hm
    have small : ∀ i, i < x.Kids.length → Small (r.getD i []) := fun i hi => by rw [(rg i hi).2]; exact mean_small hl _
    dsimp only [List.nil_append]
    have N := now_eq l hl
    rcases kind with ⟨a, b⟩ | ⟨a, b⟩ | ⟨a, b⟩ | ⟨a, b⟩ | ⟨a, b⟩ | ⟨a, b⟩ | ⟨a, b, c⟩
    · rw [a]
      simp only [if_true, if_false, show ¬ (1 : Int) = 2 by omega, show ¬ (1 : Int) = 3 by omega, show ¬ (1 : Int) = 4 by omega, show ¬ (1 : Int) = 5 by omega, show ¬ (1 : Int) = 6 by omega, show ¬ (1 : Int) = 7 by omega]
      rw [impl_sym_eq k hkk x l hl, spec_sym_eq k hkk x.Sym l hl]
      exact ⟨rfl, rfl⟩
    · have s0 := small 0 (by omega); have s1 := small 1 (by omega)
      have g0 := getD_some (r := r) (d := []) (i := 0) (by omega); have g1 := getD_some (r := r) (d := []) (i := 1) (by omega)
      rw [a]; unfold combM
      simp only [if_true, if_false, show ¬ (2 : Int) = 1 by omega]
      rw [req_pos (by omega), req_pos (by omega), req_pos (by omega), req_pos (by omega), g0]
      simp only [Option.bind_some]
      rw [req_pos (by omega), req_pos (by omega), req_pos (by omega), req_pos (by omega), g1]
      simp only [Option.bind_some]
      rw [impl_OrOf_eq k hkk _ _ s0 s1, spec_OrOf_eq k hkk _ _ s0 s1]
      exact ⟨rfl, rfl⟩
    · have s0 := small 0 (by omega); have s1 := small 1 (by omega)
      have g0 := getD_some (r := r) (d := []) (i := 0) (by omega); have g1 := getD_some (r := r) (d := []) (i := 1) (by omega)
      rw [a]; unfold combM
      simp only [if_true, if_false, show ¬ (3 : Int) = 1 by omega, show ¬ (3 : Int) = 2 by omega]
      rw [req_pos (by omega), req_pos (by omega), req_pos (by omega), req_pos (by omega), g0]
      simp only [Option.bind_some]
      rw [req_pos (by omega), req_pos (by omega), req_pos (by omega), req_pos (by omega), g1]
      simp only [Option.bind_some]
      rw [impl_AndOf_eq k hkk mode hmo _ _ s0 s1, spec_AndOf_eq k hkk mode hmo _ _ s0 s1]
      exact ⟨rfl, rfl⟩
    · have s0 := small 0 (by omega); have s1 := small 1 (by omega)
      have g0 := getD_some (r := r) (d := []) (i := 0) (by omega); have g1 := getD_some (r := r) (d := []) (i := 1) (by omega)
      rw [a]; unfold combM
      simp only [if_true, if_false, show ¬ (4 : Int) = 1 by omega, show ¬ (4 : Int) = 2 by omega, show ¬ (4 : Int) = 3 by omega]
      rw [req_pos (by omega), req_pos (by omega), req_pos (by omega), req_pos (by omega), g0]
      simp only [Option.bind_some]
      rw [req_pos (by omega), req_pos (by omega), req_pos (by omega), req_pos (by omega), g1]
      simp only [Option.bind_some]
      rw [impl_SeqOf_eq k hkk mode hmo _ _ s0 s1, spec_SeqOf_eq k hkk mode hmo _ _ s0 s1]
      exact ⟨rfl, rfl⟩
    · have s0 := small 0 (by omega); have s1 := small 1 (by omega); have s2 := small 2 (by omega)
      have g0 := getD_some (r := r) (d := []) (i := 0) (by omega); have g1 := getD_some (r := r) (d := []) (i := 1) (by omega); have g2 := getD_some (r := r) (d := []) (i := 2) (by omega)
      rw [a]; unfold combM
      simp only [if_true, if_false, show ¬ (5 : Int) = 1 by omega, show ¬ (5 : Int) = 2 by omega, show ¬ (5 : Int) = 3 by omega, show ¬ (5 : Int) = 4 by omega]
      rw [req_pos (by omega), req_pos (by omega), req_pos (by omega), req_pos (by omega), g0]
      simp only [Option.bind_some]
      rw [req_pos (by omega), req_pos (by omega), req_pos (by omega), req_pos (by omega), g1]
      simp only [Option.bind_some]
      rw [req_pos (by omega), req_pos (by omega), req_pos (by omega), req_pos (by omega), g2]
      simp only [Option.bind_some]
      rw [impl_NotOf_eq k hkk mode hmo _ _ _ s0 s1 s2, spec_NotOf_eq k hkk mode hmo _ _ _ s0 s1 s2]
      exact ⟨rfl, rfl⟩
    · have s0 := small 0 (by omega); have s1 := small 1 (by omega); have s2 := small 2 (by omega)
      have g0 := getD_some (r := r) (d := []) (i := 0) (by omega); have g1 := getD_some (r := r) (d := []) (i := 1) (by omega); have g2 := getD_some (r := r) (d := []) (i := 2) (by omega)
      rw [a]; unfold combM
      simp only [if_true, if_false, show ¬ (6 : Int) = 1 by omega, show ¬ (6 : Int) = 2 by omega, show ¬ (6 : Int) = 3 by omega, show ¬ (6 : Int) = 4 by omega, show ¬ (6 : Int) = 5 by omega]
      rw [req_pos (by omega), req_pos (by omega), req_pos (by omega), req_pos (by omega), g0]
      simp only [Option.bind_some]
      rw [req_pos (by omega), req_pos (by omega), req_pos (by omega), req_pos (by omega), g1]
      simp only [Option.bind_some]
      rw [req_pos (by omega), req_pos (by omega), req_pos (by omega), req_pos (by omega), g2]
      simp only [Option.bind_some]
      rw [impl_EachOf_eq k hkk mode hmo _ _ _ s0 s1 s2, spec_EachOf_eq k hkk mode hmo _ _ _ s0 s1 s2]
      exact ⟨rfl, rfl⟩
    · have s0 := small 0 (by omega)
      have g0 := getD_some (r := r) (d := []) (i := 0) (by omega)
      rw [a]; unfold combM
      simp only [if_true, if_false, show ¬ (7 : Int) = 1 by omega, show ¬ (7 : Int) = 2 by omega, show ¬ (7 : Int) = 3 by omega, show ¬ (7 : Int) = 4 by omega, show ¬ (7 : Int) = 5 by omega, show ¬ (7 : Int) = 6 by omega]
      rw [req_pos (by omega), req_pos (by omega), req_pos (by omega), req_pos (by omega), g0, N.1, N.2]
      simp only [Option.bind_some]
      rw [impl_PlusOf_eq k hkk _ _ _ s0, spec_PlusOf_eq k hkk _ _ _ s0]
      exact ⟨rfl, rfl⟩
def meanOf (x : GEx) (mode : Int) (l : List GEv) : List GOcc × Bool := if exOk x = true ∧ (0 ≤ mode ∧ mode ≤ 4) ∧ evsOk l = true then meanM mode l x else ([], false)
theorem exOk_form {x : GEx} (h : exOk x = true) : exN x ≤ 12 ∧ exForm x = true := by
  unfold exOk at h
  simp only [Bool.and_eq_true, decide_eq_true_eq] at h
  exact ⟨h.1.1, h.2⟩
theorem impl_MeanOf_eq (x : GEx) (mode : Int) (l : List GEv) (hx : exN x ≤ 1048577) (hl : l.length < 4611686018427387904) : Evn (fun k => impl_MeanOf.f k x mode l) (meanOf x mode l) := by
  obtain ⟨K, he⟩ := impl_EvsOk_eq l hl
  refine ⟨K + 3 * exN x + 1000000000100, fun k hk => ?_⟩
  dsimp only
  unfold impl_MeanOf.f meanOf
  have he' : impl_EvsOk.f k l = some (evsOk l) := he k (by omega)
  rw [impl_ExOk_k x hx k (by omega), he', (isMode_eq mode).1]
  simp only [Option.bind_some]
  by_cases h1 : exOk x = true
  · rw [if_pos h1]
    by_cases h2 : 0 ≤ mode ∧ mode ≤ 4
    · rw [if_pos (by simp [h2])]
      by_cases h3 : evsOk l = true
      · have hf := exOk_form h1
        have := evsOk_len h3
        rw [if_pos h3, if_pos ⟨h1, h2, h3⟩, (mean_eq mode h2 l (by omega) x (by omega) hf.2 k (by omega)).1]
        rfl
      · rw [if_neg h3, if_neg (fun h => h3 h.2.2)]
    · rw [if_neg (by simpa using h2), if_neg (fun h => h2 h.2.1)]
  · rw [if_neg h1, if_neg (fun h => h1 h.1)]
theorem spec_MeanOf_eq (x : GEx) (mode : Int) (l : List GEv) (hx : exN x ≤ 1048577) (hl : l.length < 4611686018427387904) : Evn (fun k => spec_MeanOf.f k x mode l) (meanOf x mode l) := by
  obtain ⟨K, he⟩ := spec_EvsOk_eq l hl
  refine ⟨K + 3 * exN x + 1000000000100, fun k hk => ?_⟩
  dsimp only
  unfold spec_MeanOf.f meanOf
  have he' : spec_EvsOk.f k l = some (evsOk l) := he k (by omega)
  rw [spec_ExOk_k x hx k (by omega), he', (isMode_eq mode).2]
  simp only [Option.bind_some]
  by_cases h1 : exOk x = true
  · rw [if_pos h1]
    by_cases h2 : 0 ≤ mode ∧ mode ≤ 4
    · rw [if_pos (by simp [h2])]
      by_cases h3 : evsOk l = true
      · have hf := exOk_form h1
        have := evsOk_len h3
        rw [if_pos h3, if_pos ⟨h1, h2, h3⟩, (mean_eq mode h2 l (by omega) x (by omega) hf.2 k (by omega)).2]
        rfl
      · rw [if_neg h3, if_neg (fun h => h3 h.2.2)]
    · rw [if_neg (by simpa using h2), if_neg (fun h => h2 h.2.1)]
  · rw [if_neg h1, if_neg (fun h => h1 h.1)]
end Go.Proofs.YtdhlbpgjcfdofaaGreat
