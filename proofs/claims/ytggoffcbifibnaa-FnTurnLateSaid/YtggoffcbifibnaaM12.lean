/- The law of exact shifts: drawn histories, and the law. -/
import Derived.Test.YtggoffcbifibnaaM6a
namespace Go.Proofs.Ytggoffcbifibnaa
open Go Go.Vm
set_option linter.unusedVariables false
theorem l1Evs_loop : ∀ (c : Nat) (r : Gl14Rd) (m : Int) (acc : List GEv) (a : Int), RdOk r m → m + 3 * c ≤ 100000 → acc.length + c ≤ 800 →
    ∃ l b p, (∀ k n, c < n → spec_l1Evs.l0 k n r.b r.p acc a (c : Int) = some (l, b, p)) ∧ l.length ≤ acc.length + c ∧ RdOk ⟨b, p⟩ (m + 3 * c) := by
  intro c
  induction c with
  | zero =>
    intro r m acc a h hm hl
    refine ⟨acc, r.b, r.p, fun k n hn => ?_, by omega, by simpa using h⟩
    obtain ⟨n, rfl⟩ : ∃ m, n = m + 1 := ⟨n - 1, by omega⟩
    rw [spec_l1Evs.l0, if_neg (by omega)]
  | succ c ih =>
    intro r m acc a h hm hl
    push_cast at hm
    obtain ⟨v1, r1, a1, _, a3⟩ := num_ok r [1, 1, 1, 2, 3, 7] m h (by omega) (by simp)
    obtain ⟨v2, r2, b1, _, b3⟩ := num_ok r1 [0, 0, 1, 1, 2, 2, 3, 4] _ a3 (by omega) (by simp)
    obtain ⟨v3, r3, c1, _, c3⟩ := num_ok r2 [0, 0, 1, 5, 100] _ b3 (by omega) (by simp)
    obtain ⟨l, b, p, d1, d2, d3⟩ := ih r3 _ (acc ++ [⟨v2, IntKind.wrap .i64 (a + v1), v3⟩]) (IntKind.wrap .i64 (a + v1)) c3 (by omega) (by simp; omega)
    refine ⟨l, b, p, fun k n hn => ?_, by simp at d2; omega, d3.mono (by push_cast; omega)⟩
    obtain ⟨n, rfl⟩ : ∃ m, n = m + 1 := ⟨n - 1, by omega⟩
    rw [spec_l1Evs.l0, if_pos (by omega), show ({ b := r.b, p := r.p } : Gl14Rd) = r from rfl, a1]
    simp only [Option.bind_some, b1, c1]
    rw [req_pos (by omega), show IntKind.wrap .i64 (((c + 1 : Nat) : Int) - 1) = (c : Int) from wrP c (by omega)]
    exact d1 k n (by omega)
theorem l1Evs_ok (r : Gl14Rd) (m : Int) (h : RdOk r m) (hm : m ≤ 10000) : ∃ l r', (∀ k, 100 ≤ k → spec_l1Evs.f k r 12 = some (l, r')) ∧ l.length ≤ 12 ∧ RdOk r' (m + 37) := by
  obtain ⟨v, r1, a1, a2, a3, _, a4⟩ := pick_ok r 13 m h (by omega) (by omega)
  have hv := a3 (by decide)
  obtain ⟨l, b, p, c1, c2, c4⟩ := l1Evs_loop v.toNat r1 (m + 1) [] 0 a4 (by omega) (by simp; omega)
  refine ⟨l, ⟨b, p⟩, fun k hk => ?_, by simp at c2; omega, c4.mono (by omega)⟩
  unfold spec_l1Evs.f
  rw [show IntKind.wrap .i64 (12 + 1) = 13 from rfl, a1]
  simp only [Option.bind_some]
  have := c1 k k (by omega)
  rw [show ((v.toNat : Nat) : Int) = v by omega] at this
  rw [this]; rfl
theorem l1Bent_loop : ∀ (d : Nat) (l : List GEv), l.length + d = 25 → 1 ≤ l.length → ∃ l', (∀ k n, d < n → spec_l1Bent.l0 k n l = some l') ∧ l'.length = 25 := by
  intro d
  induction d with
  | zero =>
    intro l hl h1
    refine ⟨l, fun k n hn => ?_, by omega⟩
    obtain ⟨n, rfl⟩ : ∃ m, n = m + 1 := ⟨n - 1, by omega⟩
    rw [spec_l1Bent.l0, if_pos (by omega)]
  | succ d ih =>
    intro l hl h1
    obtain ⟨j, hj⟩ : ∃ j, l.length = j + 1 := ⟨l.length - 1, by omega⟩
    have hlt : j < l.length := by omega
    obtain ⟨l', c1, c2⟩ := ih (l ++ [⟨0, IntKind.wrap .i64 (l[j].At + 1), 0⟩]) (by simp; omega) (by simp)
    refine ⟨l', fun k n hn => ?_, c2⟩
    obtain ⟨n, rfl⟩ : ∃ m, n = m + 1 := ⟨n - 1, by omega⟩
    have e : IntKind.wrap .i64 (((l.length : Nat) : Int) - 1) = (j : Int) := by rw [hj]; exact wrP j (by omega)
    rw [spec_l1Bent.l0, if_neg (by omega), e, req_pos (by omega), req_pos (by omega), Int.toNat_natCast, List.getElem?_eq_getElem hlt]
    simp only [Option.bind_some]
    rw [req_pos (by omega)]
    exact c1 k n (by omega)
theorem l1Bent_ok (r : Gl14Rd) (m : Int) (h : RdOk r m) (hm : m ≤ 10000) : ∃ l r', (∀ k, 100 ≤ k → spec_l1Bent.f k r = some (l, r')) ∧ l.length ≤ 25 ∧ RdOk r' (m + 50) := by
  obtain ⟨l, r1, a1, a2, a4⟩ := l1Evs_ok r m h hm
  by_cases hl : (l.length : Int) = 0
  · refine ⟨l, r1, fun k hk => ?_, by omega, a4.mono (by omega)⟩
    unfold spec_l1Bent.f
    rw [a1 k hk]
    simp only [Option.bind_some]
    rw [if_pos hl]
  obtain ⟨i, r2, b1, b2, b3, _, b4⟩ := pick_ok r1 l.length _ a4 (by omega) (by omega)
  have hi := b3 (by omega)
  have hlt : i.toNat < l.length := by omega
  obtain ⟨v, r3, c1, c2, c3, _, c4⟩ := pick_ok r2 40 _ b4 (by omega) (by omega)
  by_cases h0 : v = 0
  · obtain ⟨w, r4, d1, d2, d3⟩ := num_ok r3 [(-1), 5] _ c4 (by omega) (by simp)
    refine ⟨l.set i.toNat ⟨w, l[i.toNat].At, l[i.toNat].Val⟩, r4, fun k hk => ?_, by simp; omega, d3.mono (by omega)⟩
    unfold spec_l1Bent.f
    rw [a1 k hk]
    simp only [Option.bind_some]
    rw [if_neg hl, b1]
    simp only [Option.bind_some]
    rw [c1]
    simp only [Option.bind_some]
    rw [if_pos h0, d1]
    simp only [Option.bind_some]
    rw [req_pos b2, req_pos (by omega), List.getElem?_eq_getElem hlt]
    rfl
  by_cases h1 : v = 1
  · have hlt0 : 0 < l.length := by omega
    obtain ⟨w, r4, d1, d2, d3⟩ := num_ok r3 [0, 1001, l[0].At] _ c4 (by omega) (by simp)
    refine ⟨l.set i.toNat ⟨l[i.toNat].Sym, w, l[i.toNat].Val⟩, r4, fun k hk => ?_, by simp; omega, d3.mono (by omega)⟩
    unfold spec_l1Bent.f
    rw [a1 k hk]
    simp only [Option.bind_some]
    rw [if_neg hl, b1]
    simp only [Option.bind_some]
    rw [c1]
    simp only [Option.bind_some]
    rw [if_neg h0, if_pos h1, req_pos (by omega), req_pos (by omega), List.getElem?_eq_getElem hlt0]
    simp only [Option.bind_some, d1]
    rw [req_pos b2, req_pos (by omega), List.getElem?_eq_getElem hlt]
    rfl
  by_cases h2 : v = 2
  · obtain ⟨w, r4, d1, d2, d3⟩ := num_ok r3 [(-1), 101] _ c4 (by omega) (by simp)
    refine ⟨l.set i.toNat ⟨l[i.toNat].Sym, l[i.toNat].At, w⟩, r4, fun k hk => ?_, by simp; omega, d3.mono (by omega)⟩
    unfold spec_l1Bent.f
    rw [a1 k hk]
    simp only [Option.bind_some]
    rw [if_neg hl, b1]
    simp only [Option.bind_some]
    rw [c1]
    simp only [Option.bind_some]
    rw [if_neg h0, if_neg h1, if_pos h2, d1]
    simp only [Option.bind_some]
    rw [req_pos b2, req_pos (by omega), List.getElem?_eq_getElem hlt]
    rfl
  by_cases h3 : v = 3
  · obtain ⟨l', d1, d2⟩ := l1Bent_loop (25 - l.length) l (by omega) (by omega)
    refine ⟨l', r3, fun k hk => ?_, by omega, c4.mono (by omega)⟩
    unfold spec_l1Bent.f
    rw [a1 k hk]
    simp only [Option.bind_some]
    rw [if_neg hl, b1]
    simp only [Option.bind_some]
    rw [c1]
    simp only [Option.bind_some]
    rw [if_neg h0, if_neg h1, if_neg h2, if_pos h3, d1 k k (by omega)]
    rfl
  · refine ⟨l, r3, fun k hk => ?_, by omega, c4.mono (by omega)⟩
    unfold spec_l1Bent.f
    rw [a1 k hk]
    simp only [Option.bind_some]
    rw [if_neg hl, b1]
    simp only [Option.bind_some]
    rw [c1]
    simp only [Option.bind_some]
    rw [if_neg h0, if_neg h1, if_neg h2, if_neg h3]
theorem DrawTurnLate_ok (l : List Int) (hl : l.length ≤ 1048576) (hb : ∀ y ∈ l, 0 ≤ y ∧ y ≤ 255) : ∃ es by', (∀ k, 100 ≤ k → spec_DrawTurnLate.f k l = some (es, by')) ∧ es.length ≤ 25 := by
  obtain ⟨r, a1, a2⟩ := l14Open_ok l hl hb
  obtain ⟨es, r1, b1, b2, b4⟩ := l1Bent_ok r 0 a2 (by omega)
  obtain ⟨v, r2, c1, c2, c3⟩ := num_ok r1 [0, 1, 5, 100, 960, 1000, (-1)] _ b4 (by omega) (by simp)
  refine ⟨es, v, fun k hk => ?_, b2⟩
  unfold spec_DrawTurnLate.f
  rw [a1]
  simp only [Option.bind_some, b1 k hk, c1]
theorem EvsSame_loop (k : Nat) (l : List GEv) (hl : l.length ≤ 1000) : ∀ (d n i : Nat), i + d = l.length → d < n → slices_Equal.l0 k l l n (i : Int) = some (.ok ()) := by
  intro d
  induction d with
  | zero =>
    intro n i hi hn
    obtain ⟨n, rfl⟩ : ∃ m, n = m + 1 := ⟨n - 1, by omega⟩
    rw [slices_Equal.l0, if_neg (by omega)]
  | succ d ih =>
    intro n i hi hn
    obtain ⟨n, rfl⟩ : ∃ m, n = m + 1 := ⟨n - 1, by omega⟩
    have hlt : i < l.length := by omega
    rw [slices_Equal.l0, if_pos (by omega), req_pos (by omega), Int.toNat_natCast, List.getElem?_eq_getElem hlt]
    simp only [Option.bind_some]
    rw [req_pos (by omega)]
    simp only [if_true]
    rw [wrS i (by omega)]
    exact ih n (i + 1) (by omega) (by omega)
theorem EvsSame_refl (k : Nat) (l : List GEv) (hl : l.length ≤ 1000) (hk : 1001 ≤ k) : impl_EvsSame.f k l l = some true := by
  unfold impl_EvsSame.f slices_Equal.f
  have := EvsSame_loop k l hl l.length k 0 (by omega) (by omega)
  rw [show ((0 : Nat) : Int) = 0 from rfl] at this
  rw [if_pos rfl, this]; rfl
theorem late_cases (l : List GEv) (n : Int) : turnLate l n = [] ∨ (evsOk l = true ∧ 0 ≤ n ∧ n ≤ 1000 ∧ ¬ 1000 < IntKind.wrap .i64 (lastAt l + n) ∧ turnLate l n = l.map (shEv n)) := by
  by_cases h : evsOk l = true ∧ 0 ≤ n ∧ n ≤ 1000 ∧ ¬ 1000 < IntKind.wrap .i64 (lastAt l + n)
  · exact .inr ⟨h.1, h.2.1, h.2.2.1, h.2.2.2, by unfold turnLate; rw [if_pos h]⟩
  · exact .inl (by unfold turnLate; rw [if_neg h])
theorem lastAt_map (l : List GEv) (n : Int) (h : l ≠ []) : lastAt (l.map (shEv n)) = IntKind.wrap .i64 (lastAt l + n) := by
  unfold lastAt
  rw [List.getLast?_map]
  cases hl : l.getLast? with
  | none => exact absurd (List.getLast?_eq_none_iff.1 hl) h
  | some e => rfl
theorem lastAt_ok (l : List GEv) (h : evsOk l = true) (hn : l ≠ []) : 1 ≤ lastAt l ∧ lastAt l ≤ 1000 := by
  unfold lastAt
  cases hl : l.getLast? with
  | none => exact absurd (List.getLast?_eq_none_iff.1 hl) hn
  | some e =>
    have := evsOk_ok h (List.mem_of_getLast? hl)
    unfold evOk at this
    simp only [Bool.and_eq_true, decide_eq_true_eq] at this
    dsimp only
    omega
theorem late_late (l : List GEv) (n : Int) (h : turnLate (turnLate l n) 1 ≠ []) : turnLate (turnLate l n) 1 = turnLate l (IntKind.wrap .i64 (n + 1)) := by
  rcases late_cases l n with e | ⟨h1, h2, h3, h4, e⟩
  · rw [e] at h; exact absurd (by rcases late_cases [] 1 with e | ⟨_, _, _, _, e⟩ <;> rw [e]; rfl) h
  rcases late_cases (turnLate l n) 1 with e2 | ⟨k1, k2, k3, k4, e2⟩
  · exact absurd e2 h
  have hne : l ≠ [] := fun x => by rw [e2, e, x] at h; exact h rfl
  obtain ⟨q1, q2⟩ := lastAt_ok l h1 hne
  rw [e, lastAt_map l n hne, wr (lastAt l + n) (by omega), wr _ (by omega)] at k4
  rw [e2, e, wr (n + 1) (by omega)]
  have : turnLate l (n + 1) = l.map (shEv (n + 1)) := by
    unfold turnLate
    rw [if_pos ⟨h1, by omega, by omega, by rw [wr _ (by omega)]; omega⟩]
  rw [this, List.map_map]
  apply List.map_congr_left
  intro x hx
  have hb := evsOk_ok h1 hx
  unfold evOk at hb
  simp only [Bool.and_eq_true, decide_eq_true_eq] at hb
  simp only [Function.comp, shEv]
  rw [wr (x.At + n) (by omega), wr (x.At + n + 1) (by omega), wr (x.At + (n + 1)) (by omega)]
  congr 1; omega
theorem late_l0 (k : Nat) (l : List GEv) (n' : Int) (hl : l.length ≤ 1000) : ∀ (d n i : Nat), i + d = (turnLate l n').length → d < n →
    laws_FnTurnLate.l0 k (l, n') (turnLate l n') n (i : Int) = some (.ok ()) := by
  intro d
  induction d with
  | zero =>
    intro n i hi hn
    obtain ⟨n, rfl⟩ : ∃ m, n = m + 1 := ⟨n - 1, by omega⟩
    rw [laws_FnTurnLate.l0, if_neg (by omega)]
  | succ d ih =>
    intro n i hi hn
    obtain ⟨n, rfl⟩ : ∃ m, n = m + 1 := ⟨n - 1, by omega⟩
    rcases late_cases l n' with e | ⟨_, _, _, _, e⟩
    · rw [e] at hi; simp at hi
    have hlen : (turnLate l n').length = l.length := by rw [e]; simp
    have hlt : i < l.length := by omega
    have q1 : (turnLate l n')[i]? = some (shEv n' l[i]) := by rw [e]; simp [hlt]
    rw [laws_FnTurnLate.l0, if_pos (by omega), req_pos (by omega), req_pos (by omega), Int.toNat_natCast, q1]
    simp only [Option.bind_some]
    rw [req_pos (by omega), req_pos (by omega), List.getElem?_eq_getElem hlt]
    simp only [Option.bind_some]
    rw [if_pos (show (shEv n' l[i]).At = IntKind.wrap .i64 (l[i].At + n') from rfl)]
    repeat rw [req_pos (show (0 : Int) ≤ (i : Int) by omega), req_pos (by omega)]
    rw [if_pos (show (shEv n' l[i]).Sym = l[i].Sym from rfl)]
    repeat rw [req_pos (show (0 : Int) ≤ (i : Int) by omega), req_pos (by omega)]
    rw [if_pos (show (shEv n' l[i]).Val = l[i].Val from rfl), wrS i (by omega)]
    exact ih n (i + 1) (by omega) (by omega)
theorem late_l1 (k : Nat) (l : List GOcc) (n' : Int) (hl : l.length ≤ 1000) : ∀ (d n i : Nat), i + d = (turnOccs l n').length → d < n →
    laws_FnTurnLate.l1 k (l, n') (turnOccs l n') n (i : Int) = some (.ok ()) := by
  intro d
  induction d with
  | zero =>
    intro n i hi hn
    obtain ⟨n, rfl⟩ : ∃ m, n = m + 1 := ⟨n - 1, by omega⟩
    rw [laws_FnTurnLate.l1, if_neg (by omega)]
  | succ d ih =>
    intro n i hi hn
    obtain ⟨n, rfl⟩ : ∃ m, n = m + 1 := ⟨n - 1, by omega⟩
    rcases turn_cases l n' with e | ⟨_, _, _, e⟩
    · rw [e] at hi; simp at hi
    have hlen : (turnOccs l n').length = l.length := by rw [e]; simp
    have hlt : i < l.length := by omega
    have q1 : (turnOccs l n')[i]? = some (shOcc n' l[i]) := by rw [e]; simp [hlt]
    rw [laws_FnTurnLate.l1, if_pos (by omega), req_pos (by omega), req_pos (by omega), Int.toNat_natCast, q1]
    simp only [Option.bind_some]
    rw [req_pos (by omega), req_pos (by omega), List.getElem?_eq_getElem hlt]
    simp only [Option.bind_some]
    rw [if_pos (show (shOcc n' l[i]).From = IntKind.wrap .i64 (l[i].From + n') from rfl)]
    repeat rw [req_pos (show (0 : Int) ≤ (i : Int) by omega), req_pos (by omega)]
    rw [if_pos (show (shOcc n' l[i]).To = IntKind.wrap .i64 (l[i].To + n') from rfl), wrS i (by omega)]
    exact ih n (i + 1) (by omega) (by omega)
theorem FnTurnLate_pure (p0 : List Int) (hb : ∀ y ∈ p0, 0 ≤ y ∧ y ≤ 255) : ∃ k, laws_FnTurnLate.f k p0 = some true := by
  by_cases h : 1048576 < (p0.length : Int)
  · exact ⟨0, by unfold laws_FnTurnLate.f; rw [if_pos h]⟩
  have hr : reachBytes = 140737488351232 := rfl
  obtain ⟨es, n, a1, a2⟩ := DrawTurnLate_ok p0 (by omega) hb
  obtain ⟨os, by', b1, b2, b3⟩ := DrawTurnOccs_ok p0 (by omega) hb
  have hm : IdsLe os 1000 := fun o ho => by have := b3 o ho; omega
  have ht := turn_ids os by' 1000 hm
  have hlen : (turnOccs os by').length ≤ 7 := by
    rcases turn_cases os by' with e | ⟨_, _, _, e⟩
    · rw [e]; simp
    · rw [e]; simpa using b2
  have hl1 := turnLate_len es n
  obtain ⟨K1, c1⟩ := impl_TurnLate_eq es n (by omega)
  obtain ⟨K2, c2⟩ := spec_TurnLate_eq es n (by omega)
  obtain ⟨K3, c3⟩ := impl_TurnLate_eq (turnLate es n) 1 (by omega)
  obtain ⟨K4, c4⟩ := impl_TurnLate_eq es (IntKind.wrap .i64 (n + 1)) (by omega)
  refine ⟨5000 + K1 + K2 + K3 + K4, ?_⟩
  generalize hK : 5000 + K1 + K2 + K3 + K4 = k
  unfold laws_FnTurnLate.f
  rw [if_neg h, a1 k (by omega)]
  simp only [Option.bind_some, c1 k (by omega), b1 k (by omega)]
  rw [impl_TurnOccs_eq os by' (by omega) 1000 hm (by decide) k (by omega)]
  simp only [Option.bind_some, c2 k (by omega)]
  rw [EvsSame_refl k _ (by omega) (by omega)]
  simp only [Option.bind_some, if_true]
  rw [spec_TurnOccs_eq os by' (by omega) 1000 hm (by decide) k (by omega)]
  simp only [Option.bind_some]
  rw [OccsSame_refl k _ (by omega) ht (by omega)]
  simp only [Option.bind_some, if_true]
  rw [show laws_FnTurnLate.l0 k (es, n) (turnLate es n) k 0 = some (.ok ()) from late_l0 k es n (by omega) (turnLate es n).length k 0 (by omega) (by omega)]
  simp only [Option.bind_some]
  rw [show laws_FnTurnLate.l1 k (os, by') (turnOccs os by') k 0 = some (.ok ()) from late_l1 k os by' (by omega) (turnOccs os by').length k 0 (by omega) (by omega)]
  simp only [Option.bind_some, c3 k (by omega)]
  by_cases hz : (((turnLate (turnLate es n) 1).length : Nat) : Int) = 0
  · rw [if_pos hz]
  rw [if_neg hz]
  have hne : turnLate (turnLate es n) 1 ≠ [] := fun x => hz (by rw [x]; rfl)
  simp only [Option.bind_some, c4 k (by omega)]
  have hl2 := turnLate_len (turnLate es n) 1
  rw [← late_late es n hne, EvsSame_refl k _ (by omega) (by omega)]
  rfl
end Go.Proofs.Ytggoffcbifibnaa
