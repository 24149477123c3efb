/- Histories renamed: both programs alike; the law. -/
import Derived.Test.YtgbgabkdbfeibaaM1
namespace Go.Proofs.Ytgbgabkdbfeibaa
open Go Go.Vm
set_option linter.unusedVariables false
/-- which of the first i elements stand again among those before them, or are no types -/
def byGood (l : List Int) (i : Nat) : Bool := match l[i]? with
  | some x => decide (0 ≤ x) && decide (x ≤ 4) && !((l.take i).contains x)
  | none => false
def turnBy (l : List Int) : Bool := (List.range' 0 l.length).all (byGood l) && decide (l.length = 5)
theorem slices_Index_loop (k : Nat) (l : List Int) (x : Int) (hl : l.length < 4611686018427387904) : ∀ (d n i : Nat), i + d = l.length → d < n →
    slices_Index.l0 k l x n (i : Int) = some (match (l.drop i).idxOf? x with
      | some j => .error ((i + j : Nat) : Int)
      | none => .ok ()) := by
  intro d
  induction d with
  | zero =>
    intro n i hi hn
    obtain ⟨n, rfl⟩ : ∃ m, n = m + 1 := ⟨n - 1, by omega⟩
    rw [slices_Index.l0, if_neg (by omega), List.drop_eq_nil_of_le (by omega)]; rfl
  | succ d ih =>
    intro n i hi hn
    obtain ⟨n, rfl⟩ : ∃ m, n = m + 1 := ⟨n - 1, by omega⟩
    have hlt : i < l.length := by omega
    rw [slices_Index.l0, if_pos (by omega), req_pos (by omega), Int.toNat_natCast, List.getElem?_eq_getElem hlt]
    simp only [Option.bind_some]
    rw [List.drop_eq_getElem_cons hlt, List.idxOf?_cons]
    by_cases h : x = l[i]
    · rw [if_pos h]; simp [h]
    · rw [if_neg h, wrS i (by omega), ih n (i + 1) (by omega) (by omega)]
      have : (l[i] == x) = false := by simpa using fun e => h e.symm
      rw [this]
      cases (l.drop (i + 1)).idxOf? x with
      | none => rfl
      | some j => simp only [Bool.false_eq_true, if_false, Option.map_some, Option.some.injEq, Except.error.injEq]; push_cast; omega
theorem slices_Contains_eq (l : List Int) (x : Int) (hl : l.length < 4611686018427387904) : ∀ k, l.length + 1 ≤ k → slices_Contains.f k l x = some (l.contains x) := by
  intro k hk
  unfold slices_Contains.f slices_Index.f
  have := slices_Index_loop k l x hl l.length k 0 (by omega) (by omega)
  rw [show ((0 : Nat) : Int) = 0 from rfl] at this
  rw [this]
  simp only [List.drop_zero]
  cases h : l.idxOf? x with
  | none =>
    have : x ∉ l := by simpa using h
    simp [this]
  | some j =>
    have : x ∈ l := by
      rcases Classical.em (x ∈ l) with h1 | h1
      · exact h1
      · rw [← List.idxOf?_eq_none_iff] at h1; rw [h1] at h; cases h
    simp [this]
theorem impl_TurnBy_loop (k : Nat) (l : List Int) (hl : l.length < 4611686018427387904) (hk : l.length + 1 ≤ k) : ∀ (d n i : Nat), i + d = l.length → d < n →
    impl_TurnBy.l0 k l n (i : Int) = some (if (List.range' i d).all (byGood l) then .ok () else .error false) := by
  intro d
  induction d with
  | zero =>
    intro n i hi hn
    obtain ⟨n, rfl⟩ : ∃ m, n = m + 1 := ⟨n - 1, by omega⟩
    rw [impl_TurnBy.l0, if_neg (by omega)]; simp
  | succ d ih =>
    intro n i hi hn
    obtain ⟨n, rfl⟩ : ∃ m, n = m + 1 := ⟨n - 1, by omega⟩
    have hlt : i < l.length := by omega
    have hnext := ih n (i + 1) (by omega) (by omega)
    rw [impl_TurnBy.l0, if_pos (by omega), req_pos (by omega), Int.toNat_natCast, List.getElem?_eq_getElem hlt]
    simp only [Option.bind_some, impl_isSym.f, in_eq, List.range'_succ, List.all_cons]
    have hg : byGood l i = (decide (0 ≤ l[i]) && decide (l[i] ≤ 4) && !((l.take i).contains l[i])) := by unfold byGood; rw [List.getElem?_eq_getElem hlt]
    rw [hg]
    cases h : (decide (0 ≤ l[i]) && decide (l[i] ≤ 4))
    · simp
    · simp only [if_true]
      rw [req_pos (by omega), req_pos (by omega), req_pos (by omega), slices_Contains_eq _ _ (by simp; omega) k (by simp; omega)]
      simp only [Option.bind_some]
      cases h2 : (l.take i).contains l[i]
      · simp only [Bool.false_eq_true, if_false]
        rw [wrS i (by omega), hnext]; simp only [Bool.not_false, Bool.true_and]
      · simp
theorem impl_TurnBy_eq (l : List Int) (hl : l.length < 4611686018427387904) : Evn (fun k => impl_TurnBy.f k l) (turnBy l) := by
  refine ⟨l.length + 1, fun k hk => ?_⟩
  dsimp only
  unfold impl_TurnBy.f turnBy
  have := impl_TurnBy_loop k l hl (by omega) l.length k 0 (by omega) (by omega)
  rw [show ((0 : Nat) : Int) = 0 from rfl] at this
  rw [this]
  cases (List.range' 0 l.length).all (byGood l)
  · simp
  · simp only [if_true, Option.bind_some, Bool.true_and, Option.some.injEq]
    rw [Bool.eq_iff_iff]; simp; omega
theorem spec_TurnBy_inner (k : Nat) (l : List Int) (i : Nat) (hlt : i < l.length) (hl : l.length < 4611686018427387904) : ∀ (d n j : Nat), j + d = i → d < n →
    spec_TurnBy.l3 k l (i : Int) n (j : Int) = some (if ((l.take i).drop j).contains l[i] then .error false else .ok ()) := by
  intro d
  induction d with
  | zero =>
    intro n j hj hn
    obtain ⟨n, rfl⟩ : ∃ m, n = m + 1 := ⟨n - 1, by omega⟩
    rw [spec_TurnBy.l3, if_neg (by omega), List.drop_eq_nil_of_le (by simp; omega)]; rfl
  | succ d ih =>
    intro n j hj hn
    obtain ⟨n, rfl⟩ : ∃ m, n = m + 1 := ⟨n - 1, by omega⟩
    have hjl : j < l.length := by omega
    rw [spec_TurnBy.l3, if_pos (by omega), req_pos (by omega), Int.toNat_natCast, List.getElem?_eq_getElem hjl]
    simp only [Option.bind_some]
    rw [req_pos (by omega), Int.toNat_natCast, List.getElem?_eq_getElem hlt]
    simp only [Option.bind_some]
    rw [List.drop_eq_getElem_cons (by simp; omega), List.contains_cons]
    simp only [List.getElem_take]
    by_cases h : l[j] = l[i]
    · rw [if_pos h]; simp [h]
    · rw [if_neg h, wrS j (by omega), ih n (j + 1) (by omega) (by omega)]
      have : (l[i] == l[j]) = false := by simpa using fun e => h e.symm
      rw [this, Bool.false_or]
theorem spec_TurnBy_loop (k : Nat) (l : List Int) (hl : l.length < 4611686018427387904) (hk : l.length + 1 ≤ k) : ∀ (d n i : Nat), i + d = l.length → d < n →
    spec_TurnBy.l2 k l n (i : Int) = some (if (List.range' i d).all (byGood l) then .ok () else .error false) := by
  intro d
  induction d with
  | zero =>
    intro n i hi hn
    obtain ⟨n, rfl⟩ : ∃ m, n = m + 1 := ⟨n - 1, by omega⟩
    rw [spec_TurnBy.l2, if_neg (by omega)]; simp
  | succ d ih =>
    intro n i hi hn
    obtain ⟨n, rfl⟩ : ∃ m, n = m + 1 := ⟨n - 1, by omega⟩
    have hlt : i < l.length := by omega
    have hnext := ih n (i + 1) (by omega) (by omega)
    rw [spec_TurnBy.l2, if_pos (by omega), req_pos (by omega), Int.toNat_natCast, List.getElem?_eq_getElem hlt]
    simp only [Option.bind_some, List.range'_succ, List.all_cons]
    have hg : byGood l i = (decide (0 ≤ l[i]) && decide (l[i] ≤ 4) && !((l.take i).contains l[i])) := by unfold byGood; rw [List.getElem?_eq_getElem hlt]
    rw [hg]
    by_cases h1 : l[i] < 0
    · rw [if_pos h1]
      have : ¬ 0 ≤ l[i] := by omega
      simp [this]
    rw [if_neg h1, req_pos (by omega)]
    by_cases h2 : l[i] < 5
    · rw [if_pos h2]
      have hin := spec_TurnBy_inner k l i hlt hl i k 0 (by omega) (by omega)
      rw [show ((0 : Nat) : Int) = 0 from rfl, List.drop_zero] at hin
      rw [hin]
      have e1 : 0 ≤ l[i] := by omega
      have e2 : l[i] ≤ 4 := by omega
      simp only [e1, e2, decide_true, Bool.true_and]
      cases (l.take i).contains l[i]
      · simp only [Bool.false_eq_true, if_false, Option.bind_some, Bool.not_false, Bool.true_and]
        rw [wrS i (by omega), hnext]
      · simp
    · rw [if_neg h2]
      have : ¬ l[i] ≤ 4 := by omega
      simp [this]
theorem spec_TurnBy_eq (l : List Int) (hl : l.length < 4611686018427387904) : Evn (fun k => spec_TurnBy.f k l) (turnBy l) := by
  refine ⟨l.length + 1, fun k hk => ?_⟩
  dsimp only
  unfold spec_TurnBy.f turnBy
  by_cases h : (l.length : Int) = 5
  · rw [if_pos h]
    have := spec_TurnBy_loop k l hl (by omega) l.length k 0 (by omega) (by omega)
    rw [show ((0 : Nat) : Int) = 0 from rfl] at this
    rw [this]
    have h5 : l.length = 5 := by omega
    cases (List.range' 0 l.length).all (byGood l) <;> simp [h5]
  · rw [if_neg h]
    have : ¬ l.length = 5 := by omega
    simp [this]
theorem turnBy_len {l : List Int} (h : turnBy l = true) : l.length = 5 := by
  unfold turnBy at h; simp at h; exact h.2
theorem turnBy_sym {l : List Int} (h : turnBy l = true) {i : Nat} (hi : i < 5) : ∃ x, l[i]? = some x ∧ 0 ≤ x ∧ x ≤ 4 := by
  have hlen := turnBy_len h
  unfold turnBy at h
  simp only [Bool.and_eq_true, List.all_eq_true, List.mem_range'] at h
  have := h.1 i ⟨i, by omega, by omega⟩
  unfold byGood at this
  rw [List.getElem?_eq_getElem (show i < l.length by omega)] at this ⊢
  simp at this
  exact ⟨_, rfl, this.1.1, this.1.2⟩
def swEv (by' : List Int) (e : GEv) : GEv := ⟨by'.getD e.Sym.toNat 0, e.At, e.Val⟩
theorem spec_TurnEvs_loop (k : Nat) (l : List GEv) (b : List Int) (hl : l.length < 100) (hb : turnBy b = true) (hev : ∀ e ∈ l, 0 ≤ e.Sym ∧ e.Sym < 5) : ∀ (d n i : Nat) (acc : List GEv), i + d = l.length → d < n → acc = (l.take i).map (swEv b) →
    spec_TurnEvs.l0 k l b n acc (i : Int) = some (l.map (swEv b)) := by
  intro d
  induction d with
  | zero =>
    intro n i acc hi hn ha
    obtain ⟨n, rfl⟩ : ∃ m, n = m + 1 := ⟨n - 1, by omega⟩
    rw [spec_TurnEvs.l0, if_neg (by omega), ha, show i = l.length by omega, List.take_length]
  | succ d ih =>
    intro n i acc hi hn ha
    obtain ⟨n, rfl⟩ : ∃ m, n = m + 1 := ⟨n - 1, by omega⟩
    have hlt : i < l.length := by omega
    have hal : acc.length = i := by rw [ha]; simp; omega
    obtain ⟨g1, g2⟩ := hev l[i] (List.getElem_mem hlt)
    obtain ⟨x, hx, _⟩ := turnBy_sym hb (i := l[i].Sym.toNat) (by omega)
    rw [spec_TurnEvs.l0, if_pos (by omega), req_pos (by omega), Int.toNat_natCast, List.getElem?_eq_getElem hlt]
    simp only [Option.bind_some]
    rw [req_pos g1, hx]
    simp only [Option.bind_some]
    rw [req_pos (by omega), wrS i (by omega)]
    refine ih n (i + 1) _ (by omega) (by omega) ?_
    rw [ha, show l.take (i + 1) = l.take i ++ [l[i]] from by rw [List.take_add_one, List.getElem?_eq_getElem hlt]; rfl, List.map_append]
    simp [swEv, List.getD, hx]
theorem impl_TurnEvs_loop (k : Nat) (l : List GEv) (b : List Int) (hl : l.length < 100) (hb : turnBy b = true) (hev : ∀ e ∈ l, 0 ≤ e.Sym ∧ e.Sym < 5) : ∀ (d n i : Nat) (acc : List GEv), i + d = l.length → d < n → acc = (l.take i).map (swEv b) ++ l.drop i →
    impl_TurnEvs.l0 k b l n acc (i : Int) = some (l.map (swEv b)) := by
  intro d
  induction d with
  | zero =>
    intro n i acc hi hn ha
    obtain ⟨n, rfl⟩ : ∃ m, n = m + 1 := ⟨n - 1, by omega⟩
    rw [impl_TurnEvs.l0, if_neg (by omega), ha, show i = l.length by omega, List.take_length]; simp
  | succ d ih =>
    intro n i acc hi hn ha
    obtain ⟨n, rfl⟩ : ∃ m, n = m + 1 := ⟨n - 1, by omega⟩
    have hlt : i < l.length := by omega
    have hal : acc.length = l.length := by rw [ha]; simp; omega
    have hget : acc[i]? = some l[i] := by
      rw [ha, List.getElem?_append_right (by simp; omega)]
      simp [hlt, Nat.min_eq_left (Nat.le_of_lt hlt)]
    obtain ⟨g1, g2⟩ := hev l[i] (List.getElem_mem hlt)
    obtain ⟨x, hx, _⟩ := turnBy_sym hb (i := l[i].Sym.toNat) (by omega)
    rw [impl_TurnEvs.l0, if_pos (by omega), req_pos (by omega), req_pos (by omega), Int.toNat_natCast, hget]
    simp only [Option.bind_some]
    rw [req_pos g1, hx]
    simp only [Option.bind_some]
    rw [req_pos (by omega), req_pos (by omega), wrS i (by omega)]
    refine ih n (i + 1) _ (by omega) (by omega) ?_
    rw [ha, List.set_append_right _ _ (by simp; omega)]
    simp only [List.length_map, List.length_take, Nat.min_eq_left (Nat.le_of_lt hlt), Nat.sub_self]
    rw [List.drop_eq_getElem_cons hlt, List.set_cons_zero, show l.take (i + 1) = l.take i ++ [l[i]] from by rw [List.take_add_one, List.getElem?_eq_getElem hlt]; rfl, List.map_append, List.append_assoc]
    simp [swEv, List.getD, hx]
def turnEvs (l : List GEv) (b : List Int) : List GEv := if evsOk l = true ∧ turnBy b = true then l.map (swEv b) else []
theorem evs_sym {l : List GEv} (h : evsOk l = true) : ∀ e ∈ l, 0 ≤ e.Sym ∧ e.Sym < 5 := fun e he => by
  have := evsOk_ok h he
  unfold evOk at this
  simp at this
  omega
theorem spec_TurnEvs_eq (l : List GEv) (b : List Int) (hl : l.length < 4611686018427387904) (hb : b.length < 4611686018427387904) : Evn (fun k => spec_TurnEvs.f k l b) (turnEvs l b) := by
  simp only [spec_TurnEvs.f]
  refine Evn.bind (spec_EvsOk_eq l hl) ?_
  unfold turnEvs
  by_cases h : evsOk l = true
  · refine Evn.pos h (Evn.bind (spec_TurnBy_eq b hb) ?_)
    by_cases h1 : turnBy b = true
    · rw [if_pos ⟨h, h1⟩]
      refine Evn.pos h1 (Evn.bind (r := l.map (swEv b)) ⟨l.length + 1, fun k hk => ?_⟩ (Evn.const rfl))
      have h24 := evsOk_len h
      exact spec_TurnEvs_loop k l b (by omega) h1 (evs_sym h) l.length k 0 [] (by omega) (by omega) rfl
    · rw [if_neg (fun x => h1 x.2)]; exact Evn.neg h1 (Evn.const rfl)
  · rw [if_neg (fun x => h x.1)]; exact Evn.neg h (Evn.const rfl)
theorem impl_TurnEvs_eq (l : List GEv) (b : List Int) (hl : l.length * 24 ≤ reachBytes) (hb : b.length < 4611686018427387904) : Evn (fun k => impl_TurnEvs.f k l b) (turnEvs l b) := by
  have hl' := reach_lt hl (by omega)
  simp only [impl_TurnEvs.f]
  refine Evn.bind (impl_EvsOk_eq l hl') ?_
  unfold turnEvs
  by_cases h : evsOk l = true
  · refine Evn.pos h (Evn.bind (impl_TurnBy_eq b hb) ?_)
    by_cases h1 : turnBy b = true
    · rw [if_pos ⟨h, h1⟩]
      refine Evn.pos h1 (Evn.bind (Evn.const (cloneEvs_eq l hl)) (Evn.bind (r := l.map (swEv b)) ⟨l.length + 1, fun k hk => ?_⟩ (Evn.const rfl)))
      have h24 := evsOk_len h
      exact impl_TurnEvs_loop k l b (by omega) h1 (evs_sym h) l.length k 0 l (by omega) (by omega) (by simp)
    · rw [if_neg (fun x => h1 x.2)]; exact Evn.neg h1 (Evn.const rfl)
  · rw [if_neg (fun x => h x.1)]; exact Evn.neg h (Evn.const rfl)
theorem turnEvs_len (l : List GEv) (b : List Int) : (turnEvs l b).length ≤ l.length := by
  unfold turnEvs; split <;> simp
theorem markIntS_loop (k : Nat) (m : Nat) (j : Int) (hm : m < 1152921504606846976) (hj : 0 ≤ j ∧ j < 1152921504606846976) : ∀ (d n i : Nat) (acc : List Int), i + d = m → d < n → acc.length = m → (∀ t, t < i → acc[t]? = some (j + t)) →
    ∃ l', laws_markIntS.l0 k n acc (j + i) (i : Int) = some (j + m, l') ∧ l'.length = m ∧ ∀ t, t < m → l'[t]? = some (j + t) := by
  intro d
  induction d with
  | zero =>
    intro n i acc hi hn ha ht
    obtain ⟨n, rfl⟩ : ∃ m, n = m + 1 := ⟨n - 1, by omega⟩
    refine ⟨acc, ?_, ha, fun t h => ht t (by omega)⟩
    rw [laws_markIntS.l0, if_neg (by omega), show i = m by omega]
  | succ d ih =>
    intro n i acc hi hn ha ht
    obtain ⟨n, rfl⟩ : ∃ m, n = m + 1 := ⟨n - 1, by omega⟩
    have hlt : i < acc.length := by omega
    rw [laws_markIntS.l0, if_pos (by omega), req_pos (by omega), req_pos (by omega), Int.toNat_natCast, List.getElem?_eq_getElem hlt]
    simp only [Option.bind_some]
    rw [wrS i (by omega), wr (j + i + 1) (by omega)]
    have e : j + (i : Int) + 1 = j + ((i + 1 : Nat) : Int) := by push_cast; omega
    rw [e]
    refine ih n (i + 1) _ (by omega) (by omega) (by simpa using ha) (fun t h => ?_)
    rw [List.getElem?_set]
    by_cases e2 : i = t
    · subst e2; rw [if_pos rfl, if_pos hlt]
    · rw [if_neg e2]; exact ht t (by omega)
theorem markIntS_eq (l : List Int) (j : Int) (hl : l.length < 1152921504606846976) (hj : 0 ≤ j ∧ j < 1152921504606846976) : ∃ l' : List Int, l'.length = l.length ∧ (∀ t, t < l.length → l'[t]? = some (j + t)) ∧ Evn (fun k => laws_markIntS.f k l j) (j + l.length, l') := by
  have h : ∀ k, l.length + 1 ≤ k → ∃ l', laws_markIntS.l0 k k l j 0 = some (j + l.length, l') ∧ l'.length = l.length ∧ ∀ t, t < l.length → l'[t]? = some (j + t) := by
    intro k hk
    have := markIntS_loop k l.length j hl hj l.length k 0 l (by omega) (by omega) rfl (fun t h => by omega)
    simpa using this
  obtain ⟨l', h1, h2, h3⟩ := h (l.length + 1) (Nat.le_refl _)
  refine ⟨l', h2, h3, l.length + 1, fun k hk => ?_⟩
  obtain ⟨l2, g1, g2, g3⟩ := h k hk
  have : l2 = l' := by
    apply List.ext_getElem?
    intro t
    rcases Nat.lt_or_ge t l.length with h | h
    · rw [g3 t h, h3 t h]
    · rw [List.getElem?_eq_none (by omega), List.getElem?_eq_none (by omega)]
  subst this
  dsimp only
  unfold laws_markIntS.f
  rw [g1]; rfl
theorem FnExactTurnEvs_pure (p0 : List GEv) (p1 : List Int) (h0 : p0.length * 24 ≤ reachBytes) (h1 : p1.length * 8 ≤ reachBytes) : ∃ k, laws_FnExactTurnEvs.f k p0 p1 = some true := by
  have hl := reach_lt h0 (by omega)
  have hl1 := reach_lt h1 (by omega)
  refine Evn.get (g := fun k => laws_FnExactTurnEvs.f k p0 p1) ?_
  simp only [laws_FnExactTurnEvs.f]
  by_cases hp : (1048576 : Int) < p1.length
  · exact Evn.pos hp (Evn.const rfl)
  refine Evn.neg hp (Evn.bind (Evn.const (szEvS_eq p0 hl)) ?_)
  by_cases hs : p0.length ≤ 1048576
  · rw [if_pos hs]
    have ht := turnEvs_len p0 p1
    have htl : (turnEvs p0 p1).length < 4611686018427387904 := by omega
    obtain ⟨m0, m1, m2, m3⟩ := markEvS_eq p0 1 (by omega) (by omega)
    obtain ⟨n0, n1, n2, n3⟩ := markIntS_eq p1 (1 + 3 * p0.length) (by omega) (by omega)
    obtain ⟨g0, g1, g2, g3⟩ := markEvS_eq (turnEvs p0 p1) 1 (by omega) (by omega)
    have hh := heldEvS_eq g0 1 (by omega) (by omega) (by rw [g1]; exact g2)
    rw [g1] at hh
    refine Evn.neg (by omega) (Evn.bind (toEvS_eq p0 h0) (Evn.bind (toIntS_eq p1 h1) (Evn.bind (spec_TurnEvs_eq p0 p1 hl hl1) (Evn.bind (toEvS_eq p0 h0) (Evn.bind (toIntS_eq p1 h1) (Evn.bind (impl_TurnEvs_eq p0 p1 h0 hl1) (Evn.bind (eqEvS_refl _ htl) (Evn.pos rfl ?_))))))))
    refine Evn.bind (toEvS_eq p0 h0) (Evn.bind (eqEvS_refl _ hl) (Evn.pos rfl (Evn.bind (toIntS_eq p1 h1) (Evn.bind (eqIntS_refl _ hl1) (Evn.pos rfl (Evn.bind m3 (Evn.req m1 (Evn.bind n3 (Evn.req n1 (Evn.neg (by dsimp only; omega) ?_))))))))))
    refine Evn.bind (eqEvS_refl _ htl) (Evn.pos rfl (Evn.bind g3 (Evn.req g1 (Evn.bind hh (Evn.neg (by omega) (Evn.pos rfl ?_))))))
    exact Evn.bind (toEvS_eq p0 h0) (Evn.bind (toIntS_eq p1 h1) (Evn.bind (impl_TurnEvs_eq p0 p1 h0 hl1) (Evn.bind (eqEvS_refl _ htl) (Evn.pos rfl (Evn.bind hh (Evn.neg (by omega) (Evn.pos rfl (Evn.const rfl))))))))
  · rw [if_neg hs]; exact Evn.pos (by omega) (Evn.const rfl)
end Go.Proofs.Ytgbgabkdbfeibaa
