/- The draws of a reader of bytes: what is drawn is small. -/
import Derived.Test.YtggoffcbifibnaaM3
namespace Go.Proofs.Ytggoffcbifibnaa
open Go Go.Vm
set_option linter.unusedVariables false
theorem u8_ok {y : Int} (h : (Lit.int .u8 y).wf = true) : 0 ≤ y ∧ y ≤ 255 := by
  simp only [Lit.wf, Bool.and_eq_true, decide_eq_true_eq] at h
  exact h
theorem xor_ok (a b : Int) (ha : 0 ≤ a ∧ a < 4611686018427387904) (hb : 0 ≤ b ∧ b < 4611686018427387904) : 0 ≤ binOf .xor .i64 a b ∧ binOf .xor .i64 a b < 4611686018427387904 := by
  obtain ⟨m, rfl⟩ : ∃ m : Nat, a = m := ⟨a.toNat, by omega⟩
  obtain ⟨n, rfl⟩ : ∃ n : Nat, b = n := ⟨b.toNat, by omega⟩
  have h : (BitVec.ofInt 64 (m : Int) ^^^ BitVec.ofInt 64 (n : Int)).toNat = m ^^^ n := by
    rw [BitVec.toNat_xor, BitVec.ofInt_natCast, BitVec.ofInt_natCast, BitVec.toNat_ofNat, BitVec.toNat_ofNat, Nat.mod_eq_of_lt (by omega), Nat.mod_eq_of_lt (by omega)]
  have h2 : m ^^^ n < 2 ^ 62 := Nat.xor_lt_two_pow (by omega) (by omega)
  show 0 ≤ IntKind.wrap .i64 ((BitVec.ofInt 64 (m : Int) ^^^ BitVec.ofInt 64 (n : Int)).toNat : Int) ∧ _
  have e : binOf .xor .i64 (m : Int) (n : Int) = IntKind.wrap .i64 ((BitVec.ofInt 64 (m : Int) ^^^ BitVec.ofInt 64 (n : Int)).toNat : Int) := rfl
  rw [e, h, wr _ (by omega)]
  omega
theorem rem_eq (a b : Int) (ha : 0 ≤ a ∧ a < 4611686018427387904) (hb : 1 ≤ b ∧ b < 4611686018427387904) : binOf .rem .i64 a b = a % b := by
  show a.tmod b = a % b
  exact Int.tmod_eq_emod_of_nonneg ha.1
theorem quo_eq (a b : Int) (ha : 0 ≤ a ∧ a < 4611686018427387904) (hb : 1 ≤ b ∧ b < 4611686018427387904) : binOf .quo .i64 a b = a / b ∧ 0 ≤ a / b ∧ a / b ≤ a := by
  have e : binOf .quo .i64 a b = IntKind.wrap .i64 (a.tdiv b) := rfl
  have h1 := Int.ediv_nonneg ha.1 (show 0 ≤ b by omega)
  have h2 := Int.ediv_le_self b ha.1
  rw [e, Int.tdiv_eq_ediv_of_nonneg ha.1, wr _ (by omega)]
  exact ⟨rfl, h1, h2⟩
/-- a reader over bytes that has read no more than m -/
def RdOk (r : Gl14Rd) (m : Int) : Prop := (∀ x ∈ r.b, 0 ≤ x ∧ x ≤ 255) ∧ r.b.length ≤ 1048576 ∧ 0 ≤ r.p ∧ r.p ≤ m
theorem RdOk.mono {r : Gl14Rd} {m n : Int} (h : RdOk r m) (hm : m ≤ n) : RdOk r n := ⟨h.1, h.2.1, h.2.2.1, by have := h.2.2.2; omega⟩
theorem pick_ok (r : Gl14Rd) (n : Int) (m : Int) (h : RdOk r m) (hm : m ≤ 1000000000) (hn : n < 4611686018427387904) : ∃ v r', spec_l14Rd_pick.f r n = some (v, r') ∧ 0 ≤ v ∧ (1 ≤ n → v < n) ∧ (n < 1 → v = 0) ∧ RdOk r' (m + 1) := by
  obtain ⟨hb, hl, h0, h1⟩ := h
  have hw : IntKind.wrap .i64 (r.p + 1) = r.p + 1 := wr _ (by omega)
  have hr' : RdOk ⟨r.b, r.p + 1⟩ (m + 1) := ⟨hb, hl, by dsimp only; omega, by dsimp only; omega⟩
  unfold spec_l14Rd_pick.f
  simp only [hw]
  by_cases hn1 : n < 1
  · rw [if_pos hn1]; exact ⟨0, _, rfl, by omega, by omega, fun _ => rfl, hr'⟩
  rw [if_neg hn1]
  by_cases hb0 : (r.b.length : Int) = 0
  · rw [if_pos hb0]; exact ⟨0, _, rfl, by omega, by omega, fun _ => rfl, hr'⟩
  rw [if_neg hb0]
  have hq : IntKind.wrap .i64 (r.p + 1 - 1) = r.p := by rw [wr _ (by omega)]; omega
  simp only [hq]
  by_cases hp : r.p < (r.b.length : Int)
  · have hlt : r.p.toNat < r.b.length := by omega
    have he := hb r.b[r.p.toNat] (List.getElem_mem hlt)
    rw [if_pos hp, req_pos h0, List.getElem?_eq_getElem hlt]
    simp only [Option.bind_some]
    rw [req_pos (by omega), wr _ (by omega), rem_eq _ _ (by omega) (by omega)]
    have g1 := Int.emod_nonneg r.b[r.p.toNat] (show n ≠ 0 by omega)
    have g2 := Int.emod_lt_of_pos r.b[r.p.toNat] (show 0 < n by omega)
    exact ⟨_, _, rfl, g1, fun _ => g2, fun h => absurd h hn1, hr'⟩
  · rw [if_neg hp, req_pos hb0]
    rw [wr (r.p * 7) (by omega), wr (r.p * 7 + 3) (by omega), wr (r.p * 29) (by omega), rem_eq r.p _ (by omega) (by omega), rem_eq (r.p * 7 + 3) _ (by omega) (by omega), (quo_eq r.p _ (by omega) (by omega)).1]
    have q1 := Int.emod_nonneg r.p hb0
    have q2 := Int.emod_lt_of_pos r.p (show 0 < (r.b.length : Int) by omega)
    have q3 := Int.emod_nonneg (r.p * 7 + 3) hb0
    have q4 := Int.emod_lt_of_pos (r.p * 7 + 3) (show 0 < (r.b.length : Int) by omega)
    have q5 := (quo_eq r.p (r.b.length : Int) (by omega) (by omega)).2
    generalize r.p % (r.b.length : Int) = i at *
    generalize (r.p * 7 + 3) % (r.b.length : Int) = j at *
    generalize r.p / (r.b.length : Int) = d at *
    have hi : i.toNat < r.b.length := by omega
    have hj : j.toNat < r.b.length := by omega
    have e1 := hb r.b[i.toNat] (List.getElem_mem hi)
    have e2 := hb r.b[j.toNat] (List.getElem_mem hj)
    rw [req_pos q1, List.getElem?_eq_getElem hi]
    simp only [Option.bind_some]
    rw [req_pos hb0, req_pos q3, List.getElem?_eq_getElem hj]
    simp only [Option.bind_some]
    generalize r.b[i.toNat] = x at *
    generalize r.b[j.toNat] = y at *
    rw [req_pos hb0, req_pos (by omega)]
    simp only [wr x (by omega), wr y (by omega), wr (x * 131) (by omega), wr (y * 1117) (by omega), wr (d * 53) (by omega), wr (x * 131 + y * 1117) (by omega), wr (x * 131 + y * 1117 + r.p * 29) (by omega), wr (x * 131 + y * 1117 + r.p * 29 + d * 53) (by omega)]
    have u := quo_eq (x * 131 + y * 1117 + r.p * 29 + d * 53) 64 (by omega) (by omega)
    have v := xor_ok (x * 131 + y * 1117 + r.p * 29 + d * 53) (binOf .quo .i64 (x * 131 + y * 1117 + r.p * 29 + d * 53) 64) (by omega) (by rw [u.1]; omega)
    rw [rem_eq _ n v (by omega)]
    exact ⟨_, _, rfl, Int.emod_nonneg _ (by omega), fun _ => Int.emod_lt_of_pos _ (by omega), fun h => absurd h hn1, hr'⟩
theorem num_ok (r : Gl14Rd) (l : List Int) (m : Int) (h : RdOk r m) (hm : m ≤ 1000000000) (hl : 1 ≤ l.length ∧ l.length < 1000) : ∃ v r', spec_l14Rd_num.f r l = some (v, r') ∧ v ∈ l ∧ RdOk r' (m + 1) := by
  obtain ⟨v, r', h1, h2, h3, h4, h5⟩ := pick_ok r l.length m h hm (by omega)
  have hv := h3 (by omega)
  unfold spec_l14Rd_num.f
  rw [h1]
  simp only [Option.bind_some]
  rw [req_pos h2, List.getElem?_eq_getElem (show v.toNat < l.length by omega)]
  exact ⟨_, _, rfl, List.getElem_mem _, h5⟩
theorem l3Any_loop : ∀ (c : Nat) (r : Gl14Rd) (m : Int) (acc : List Int) (x : Int), RdOk r m → m + c ≤ 1000000000 → acc.length + c ≤ 1000 →
    ∃ ids b p, (∀ k n, c < n → spec_l3Any.l0 k n r.b r.p acc x (c : Int) = some (ids, b, p)) ∧ ids.length = acc.length + c ∧ RdOk ⟨b, p⟩ (m + c) := by
  intro c
  induction c with
  | zero =>
    intro r m acc x h hm ha
    refine ⟨acc, r.b, r.p, fun k n hn => ?_, rfl, by simpa using h⟩
    obtain ⟨n, rfl⟩ : ∃ m, n = m + 1 := ⟨n - 1, by omega⟩
    rw [spec_l3Any.l0, if_neg (by omega)]
  | succ c ih =>
    intro r m acc x h hm ha
    obtain ⟨v, r', h1, h2, h3, h4, h5⟩ := pick_ok r 3 m h (by omega) (by omega)
    obtain ⟨ids, b, p, g1, g2, g3⟩ := ih r' (m + 1) (acc ++ [x]) (IntKind.wrap .i64 ((IntKind.wrap .i64 (x + 1)) + v)) h5 (by push_cast at hm ⊢; omega) (by simp; omega)
    refine ⟨ids, b, p, fun k n hn => ?_, by rw [g2]; simp; omega, g3.mono (by push_cast; omega)⟩
    obtain ⟨n, rfl⟩ : ∃ m, n = m + 1 := ⟨n - 1, by omega⟩
    rw [spec_l3Any.l0, if_pos (by omega), req_pos (by omega), h1]
    simp only [Option.bind_some]
    rw [show IntKind.wrap .i64 (((c + 1 : Nat) : Int) - 1) = (c : Int) from wrP c (by omega)]
    exact g1 k n (by omega)
theorem l3Any_ok (r : Gl14Rd) (m : Int) (h : RdOk r m) (hm : m ≤ 100000) : ∃ o r', (∀ k, 10 ≤ k → spec_l3Any.f k r = some (o, r')) ∧ o.Ids.length ≤ 3 ∧ RdOk r' (m + 7) := by
  obtain ⟨v1, r1, a1, a2, a3, _, a4⟩ := pick_ok r 9 m h (by omega) (by omega)
  obtain ⟨v2, r2, b1, _, b4⟩ := num_ok r1 [0, 0, 1, 2, 5] (m + 1) a4 (by omega) (by decide)
  obtain ⟨v3, r3, c1, c2, c3, _, c4⟩ := pick_ok r2 3 (m + 1 + 1) b4 (by omega) (by omega)
  obtain ⟨v4, r4, d1, d2, d3, _, d4⟩ := pick_ok r3 3 (m + 1 + 1 + 1) c4 (by omega) (by omega)
  have hv := d3 (by decide)
  obtain ⟨ids, b, p, e1, e2, e3⟩ := l3Any_loop (1 + v4).toNat r4 _ [] v3 d4 (by omega) (by simp; omega)
  refine ⟨⟨IntKind.wrap .i64 (1 + v1), IntKind.wrap .i64 (IntKind.wrap .i64 (1 + v1) + v2), ids⟩, ⟨b, p⟩, fun k hk => ?_, ?_, e3.mono (by omega)⟩
  · unfold spec_l3Any.f
    rw [a1]; simp only [Option.bind_some]
    rw [b1]; simp only [Option.bind_some]
    rw [c1]; simp only [Option.bind_some]
    rw [d1]; simp only [Option.bind_some]
    rw [wr (1 + v4) (by omega), show (1 + v4 : Int) = ((1 + v4).toNat : Int) by omega, e1 k k (by omega)]
    rfl
  · dsimp only; rw [e2]; simp; omega
theorem l3Same_ok (a b : GOcc) (ha : a.Ids.length ≤ 1000) : ∃ v, ∀ k, 1001 ≤ k → spec_l3Same.f k a b = some v := by
  unfold spec_l3Same.f
  by_cases h1 : a.From = b.From
  · by_cases h2 : a.To = b.To
    · by_cases h3 : (a.Ids.length : Int) = (b.Ids.length : Int)
      · refine ⟨lexCmp a.Ids b.Ids == 0, fun k hk => ?_⟩
        rw [if_pos h1, if_pos h2, if_pos h3, l3Ids_eq _ _ (by omega) k (by omega)]; rfl
      · exact ⟨false, fun k hk => by rw [if_pos h1, if_pos h2, if_neg h3]⟩
    · exact ⟨false, fun k hk => by rw [if_pos h1, if_neg h2]⟩
  · exact ⟨false, fun k hk => by rw [if_neg h1]⟩
theorem l3Put_loop (l : List GOcc) (o : GOcc) (hl : l.length ≤ 1000) (hm : IdsLe l 1000) : ∀ (d i : Nat), i + d = l.length →
    ∃ j : Nat, j ≤ l.length ∧ ∀ k n, 1001 ≤ k → d < n → spec_l3Put.l0 k l o n (i : Int) = some (j : Int) := by
  intro d
  induction d with
  | zero =>
    intro i hi
    refine ⟨i, by omega, fun k n hk hn => ?_⟩
    obtain ⟨n, rfl⟩ : ∃ m, n = m + 1 := ⟨n - 1, by omega⟩
    rw [spec_l3Put.l0, if_neg (by omega)]
  | succ d ih =>
    intro i hi
    have hlt : i < l.length := by omega
    have hb := hm l[i] (List.getElem_mem hlt)
    by_cases hc : occLess l[i] o = true
    · obtain ⟨j, h1, h2⟩ := ih (i + 1) (by omega)
      refine ⟨j, h1, fun k n hk hn => ?_⟩
      obtain ⟨n, rfl⟩ : ∃ m, n = m + 1 := ⟨n - 1, by omega⟩
      rw [spec_l3Put.l0, if_pos (by omega), req_pos (by omega), req_pos (by omega), Int.toNat_natCast, List.getElem?_eq_getElem hlt]
      simp only [Option.bind_some, spec_OccLess_eq l[i] o (by omega) k (by omega)]
      rw [if_pos hc, wrS i (by omega)]
      exact h2 k n hk (by omega)
    · refine ⟨i, by omega, fun k n hk hn => ?_⟩
      obtain ⟨n, rfl⟩ : ∃ m, n = m + 1 := ⟨n - 1, by omega⟩
      rw [spec_l3Put.l0, if_pos (by omega), req_pos (by omega), req_pos (by omega), Int.toNat_natCast, List.getElem?_eq_getElem hlt]
      simp only [Option.bind_some, spec_OccLess_eq l[i] o (by omega) k (by omega)]
      rw [if_neg hc]
theorem put_facts (l : List GOcc) (o : GOcc) (j : Nat) (m : Nat) (hj : j ≤ l.length) (hm : IdsLe l m) (ho : o.Ids.length ≤ m) :
    ((l.take j ++ [o]) ++ (([] : List GOcc) ++ ((l.drop j).take (((l.length : Nat) : Int) - (j : Int)).toNat))).length = l.length + 1 ∧ IdsLe ((l.take j ++ [o]) ++ (([] : List GOcc) ++ ((l.drop j).take (((l.length : Nat) : Int) - (j : Int)).toNat))) m := by
  refine ⟨by simp; omega, fun x hx => ?_⟩
  simp only [List.nil_append, List.append_assoc, List.mem_append, List.mem_cons, List.not_mem_nil, or_false] at hx
  rcases hx with h | h | h
  · exact hm x (List.mem_of_mem_take h)
  · rw [h]; exact ho
  · exact hm x (List.mem_of_mem_drop (List.mem_of_mem_take h))
theorem l3Put_ok (l : List GOcc) (o : GOcc) (m : Nat) (hl : l.length ≤ 900) (hm : IdsLe l m) (hm2 : m ≤ 1000) (ho : o.Ids.length ≤ m) : ∃ l', (∀ k, 1001 ≤ k → spec_l3Put.f k l o = some l') ∧ l'.length ≤ l.length + 1 ∧ IdsLe l' m := by
  have hmm : IdsLe l 1000 := fun x hx => by have := hm x hx; omega
  obtain ⟨j, h1, h2⟩ := l3Put_loop l o (by omega) hmm l.length 0 (by omega)
  obtain ⟨p1, p2⟩ := put_facts l o j m h1 hm ho
  have hcp : spec_l3Copy.f o = some o := copy_eq o (by omega)
  have tail : ∀ k, 1001 ≤ k → (req ((0 : Int) ≤ (j : Int)) (req ((j : Int) ≤ (l.length : Nat)) (req ((l.length : Nat) ≤ (l.length : Nat)) (req ((0 + ((l.length : Nat) - (j : Int)).toNat) * 40 ≤ 140737488355328) (req ((0 : Int) ≤ 0) (req (0 ≤ (j : Int)) (req ((j : Int) ≤ (l.length : Nat)) ((spec_l3Copy.f o).bind fun x55 => (req (((j : Int).toNat + 1) * 40 ≤ 140737488355328) (req ((((j : Int).toNat + 1) + (0 + ((l.length : Nat) - (j : Int)).toNat)) * 40 ≤ 140737488355328) (some (((l.take (j : Int).toNat) ++ [x55]) ++ (([] : List GOcc) ++ ((l.drop (j : Int).toNat).take ((l.length : Nat) - (j : Int)).toNat)))))))))))))) = some ((l.take j ++ [o]) ++ (([] : List GOcc) ++ ((l.drop j).take (((l.length : Nat) : Int) - (j : Int)).toNat))) := by
    intro k hk
    rw [req_pos (by omega), req_pos (by omega), req_pos (by omega), req_pos (by omega), req_pos (by omega), req_pos (by omega), req_pos (by omega), hcp]
    simp only [Option.bind_some]
    rw [req_pos (by omega), req_pos (by omega), Int.toNat_natCast]
  by_cases hlt : j < l.length
  · have hb := hm l[j] (List.getElem_mem hlt)
    obtain ⟨v, hv⟩ := l3Same_ok l[j] o (by omega)
    cases v with
    | true =>
      refine ⟨l, fun k hk => ?_, by omega, hm⟩
      unfold spec_l3Put.f
      rw [show (0 : Int) = ((0 : Nat) : Int) from rfl, h2 k k hk (by omega)]
      simp only [Option.bind_some]
      rw [if_pos (by omega), req_pos (by omega), req_pos (by omega), Int.toNat_natCast, List.getElem?_eq_getElem hlt]
      simp only [Option.bind_some, hv k hk, if_true]
    | false =>
      refine ⟨_, fun k hk => ?_, by omega, p2⟩
      unfold spec_l3Put.f
      rw [show (spec_l3Put.l0 k l o k 0) = some (j : Int) from h2 k k hk (by omega)]
      simp only [Option.bind_some]
      rw [if_pos (by omega), req_pos (by omega), req_pos (by omega), Int.toNat_natCast, List.getElem?_eq_getElem hlt]
      simp only [Option.bind_some, hv k hk, Bool.false_eq_true, if_false]
      exact tail k hk
  · refine ⟨_, fun k hk => ?_, by omega, p2⟩
    unfold spec_l3Put.f
    rw [show (spec_l3Put.l0 k l o k 0) = some (j : Int) from h2 k k hk (by omega)]
    simp only [Option.bind_some]
    rw [if_neg (by omega)]
    exact tail k hk
theorem l3Some_loop : ∀ (c : Nat) (r : Gl14Rd) (m : Int) (l : List GOcc), RdOk r m → m + 7 * c ≤ 100000 → l.length + c ≤ 800 → IdsLe l 3 →
    ∃ l' b p, (∀ k n, 1001 ≤ k → c < n → spec_l3Some.l0 k n r.b r.p l (c : Int) = some (l', b, p)) ∧ l'.length ≤ l.length + c ∧ IdsLe l' 3 ∧ RdOk ⟨b, p⟩ (m + 7 * c) := by
  intro c
  induction c with
  | zero =>
    intro r m l h hm hl hi
    refine ⟨l, r.b, r.p, fun k n hk hn => ?_, by omega, hi, by simpa using h⟩
    obtain ⟨n, rfl⟩ : ∃ m, n = m + 1 := ⟨n - 1, by omega⟩
    rw [spec_l3Some.l0, if_neg (by omega)]
  | succ c ih =>
    intro r m l h hm hl hi
    push_cast at hm
    obtain ⟨o, r', a1, a2, a3⟩ := l3Any_ok r m h (by omega)
    obtain ⟨l1, b1, b2, b3⟩ := l3Put_ok l o 3 (by omega) hi (by omega) a2
    obtain ⟨l', b, p, c1, c2, c3, c4⟩ := ih r' (m + 7) l1 a3 (by omega) (by omega) b3
    refine ⟨l', b, p, fun k n hk hn => ?_, by omega, c3, c4.mono (by push_cast; omega)⟩
    obtain ⟨n, rfl⟩ : ∃ m, n = m + 1 := ⟨n - 1, by omega⟩
    rw [spec_l3Some.l0, if_pos (by omega), show ({ b := r.b, p := r.p } : Gl14Rd) = r from rfl, a1 k (by omega)]
    simp only [Option.bind_some, b1 k hk]
    rw [show IntKind.wrap .i64 (((c + 1 : Nat) : Int) - 1) = (c : Int) from wrP c (by omega)]
    exact c1 k n hk (by omega)
theorem l3Some_ok (r : Gl14Rd) (m : Int) (h : RdOk r m) (hm : m ≤ 10000) : ∃ l r', (∀ k, 1001 ≤ k → spec_l3Some.f k r 6 = some (l, r')) ∧ l.length ≤ 6 ∧ IdsLe l 3 ∧ RdOk r' (m + 43) := by
  obtain ⟨v, r1, a1, a2, a3, _, a4⟩ := pick_ok r 7 m h (by omega) (by omega)
  have hv := a3 (by decide)
  obtain ⟨l, b, p, c1, c2, c3, c4⟩ := l3Some_loop v.toNat r1 (m + 1) [] a4 (by omega) (by simp; omega) (fun x hx => by simp at hx)
  refine ⟨l, ⟨b, p⟩, fun k hk => ?_, by simp at c2; omega, c3, c4.mono (by omega)⟩
  unfold spec_l3Some.f
  rw [show IntKind.wrap .i64 (6 + 1) = 7 from rfl, a1]
  simp only [Option.bind_some]
  have := c1 k k hk (by omega)
  rw [show ((v.toNat : Nat) : Int) = v by omega] at this
  rw [this]; rfl
theorem r0Ids_ok (r : Gl14Rd) (m : Int) (h : RdOk r m) (hm : m ≤ 1000000) : ∃ l r', spec_r0Ids.f r = some (l, r') ∧ l.length ≤ 3 ∧ RdOk r' (m + 1) := by
  obtain ⟨v, r1, a1, a2, a3, _, a4⟩ := pick_ok r 3 m h (by omega) (by omega)
  unfold spec_r0Ids.f
  rw [a1]
  simp only [Option.bind_some]
  by_cases h0 : v = 0
  · rw [if_pos h0]; exact ⟨_, _, rfl, by simp, a4⟩
  · rw [if_neg h0]
    by_cases h1 : v = 1
    · rw [if_pos h1]; exact ⟨_, _, rfl, by simp, a4⟩
    · rw [if_neg h1]; exact ⟨_, _, rfl, by simp, a4⟩
theorem idsLe_set (l : List GOcc) (i : Nat) (o : GOcc) (m : Nat) (h : IdsLe l m) (ho : o.Ids.length ≤ m) : IdsLe (l.set i o) m := fun x hx => by
  rcases List.mem_or_eq_of_mem_set hx with h1 | h1
  · exact h x h1
  · rw [h1]; exact ho
theorem l3Bent_ok (r : Gl14Rd) (m : Int) (h : RdOk r m) (hm : m ≤ 10000) : ∃ l r', (∀ k, 1001 ≤ k → spec_l3Bent.f k r = some (l, r')) ∧ l.length ≤ 7 ∧ IdsLe l 3 ∧ RdOk r' (m + 50) := by
  obtain ⟨l, r1, a1, a2, a3, a4⟩ := l3Some_ok r m h hm
  by_cases hl : (l.length : Int) = 0
  · refine ⟨l, r1, fun k hk => ?_, by omega, a3, a4.mono (by omega)⟩
    unfold spec_l3Bent.f
    rw [a1 k hk]
    simp only [Option.bind_some]
    rw [if_pos hl]
  obtain ⟨i, r2, b1, b2, b3, _, b4⟩ := pick_ok r1 l.length (m + 43) a4 (by omega) (by omega)
  have hi := b3 (by omega)
  have hlt : i.toNat < l.length := by omega
  have hli := a3 l[i.toNat] (List.getElem_mem hlt)
  obtain ⟨v, r3, c1, c2, c3, _, c4⟩ := pick_ok r2 40 _ b4 (by omega) (by omega)
  have open' : ∀ k, 1001 ≤ k → ∀ g : List GOcc × Gl14Rd, _ → spec_l3Bent.f k r = some g := fun k hk g (hg : (if v = 0 then (req ((0 : Int) ≤ i) (req (i < (l.length : Nat)) ((l[i.toNat]?).bind fun e16 => ((spec_l14Rd_num.f r3 [0, (IntKind.wrap .i64 (e16.To + 1))]).bind fun x19 => (req ((0 : Int) ≤ i) (req (i < (l.length : Nat)) (some ((l.set i.toNat ((⟨x19.1, e16.To, e16.Ids⟩ : GOcc))), x19.2)))))))) else (if v = 1 then ((spec_r0Ids.f r3).bind fun x26 => (req ((0 : Int) ≤ i) (req (i < (l.length : Nat)) ((l[i.toNat]?).bind fun e30 => (some ((l.set i.toNat ((⟨e30.From, e30.To, x26.1⟩ : GOcc))), x26.2)))))) else (if v = 2 then (req ((0 : Int) ≤ 0) (req (0 < (l.length : Nat)) ((l[0]?).bind fun e36 => (req ((l.length + 1) * 40 ≤ 140737488355328) (some ((l ++ [e36]), r3)))))) else (if v = 3 then (req ((0 : Int) ≤ i) (req (i < (l.length : Nat)) ((l[i.toNat]?).bind fun e43 => (some ((l.set i.toNat ((⟨e43.From, 2001, e43.Ids⟩ : GOcc))), r3))))) else (some (l, r3)))))) = some g) => by
    unfold spec_l3Bent.f
    rw [a1 k hk]
    simp only [Option.bind_some]
    rw [if_neg hl, b1]
    simp only [Option.bind_some]
    rw [c1]
    simp only [Option.bind_some]
    exact hg
  by_cases h0 : v = 0
  · obtain ⟨w, r4, d1, d2, d3⟩ := num_ok r3 [0, IntKind.wrap .i64 (l[i.toNat].To + 1)] _ c4 (by omega) (by simp)
    refine ⟨l.set i.toNat ⟨w, l[i.toNat].To, l[i.toNat].Ids⟩, r4, fun k hk => open' k hk _ ?_, by simp; omega, idsLe_set _ _ _ _ a3 hli, d3.mono (by omega)⟩
    rw [if_pos h0, req_pos b2, req_pos (by omega), List.getElem?_eq_getElem hlt]
    simp only [Option.bind_some, d1]
    rw [req_pos b2, req_pos (by omega)]
  by_cases h1 : v = 1
  · obtain ⟨w, r4, d1, d2, d3⟩ := r0Ids_ok r3 _ c4 (by omega)
    refine ⟨l.set i.toNat ⟨l[i.toNat].From, l[i.toNat].To, w⟩, r4, fun k hk => open' k hk _ ?_, by simp; omega, idsLe_set _ _ _ _ a3 d2, d3.mono (by omega)⟩
    rw [if_neg h0, if_pos h1, d1]
    simp only [Option.bind_some]
    rw [req_pos b2, req_pos (by omega), List.getElem?_eq_getElem hlt]
    rfl
  by_cases h2 : v = 2
  · have hlt0 : 0 < l.length := by omega
    refine ⟨l ++ [l[0]], r3, fun k hk => open' k hk _ ?_, by simp; omega, fun x hx => ?_, c4.mono (by omega)⟩
    · rw [if_neg h0, if_neg h1, if_pos h2, req_pos (by omega), req_pos (by omega), List.getElem?_eq_getElem hlt0]
      simp only [Option.bind_some]
      rw [req_pos (by omega)]
    · simp only [List.mem_append, List.mem_cons, List.not_mem_nil, or_false] at hx
      rcases hx with hx | hx
      · exact a3 x hx
      · rw [hx]; exact a3 _ (List.getElem_mem hlt0)
  by_cases h3 : v = 3
  · refine ⟨l.set i.toNat ⟨l[i.toNat].From, 2001, l[i.toNat].Ids⟩, r3, fun k hk => open' k hk _ ?_, by simp; omega, idsLe_set _ _ _ _ a3 hli, c4.mono (by omega)⟩
    rw [if_neg h0, if_neg h1, if_neg h2, if_pos h3, req_pos b2, req_pos (by omega), List.getElem?_eq_getElem hlt]
    rfl
  · refine ⟨l, r3, fun k hk => open' k hk _ ?_, by omega, a3, c4.mono (by omega)⟩
    rw [if_neg h0, if_neg h1, if_neg h2, if_neg h3]
theorem l14Open_ok (l : List Int) (hl : l.length ≤ 1048576) (hb : ∀ y ∈ l, 0 ≤ y ∧ y ≤ 255) : ∃ r, spec_l14Open.f l = some r ∧ RdOk r 0 := by
  unfold spec_l14Open.f
  by_cases h : 2000 < (l.length : Int)
  · rw [if_pos h, req_pos (by omega), req_pos (by omega), req_pos (by omega)]
    exact ⟨_, rfl, fun x hx => hb x (List.mem_of_mem_take hx), by simp; omega, by dsimp only; omega, by dsimp only; omega⟩
  · rw [if_neg h]
    exact ⟨_, rfl, hb, hl, by dsimp only; omega, by dsimp only; omega⟩
theorem DrawTurnOccs_ok (l : List Int) (hl : l.length ≤ 1048576) (hb : ∀ y ∈ l, 0 ≤ y ∧ y ≤ 255) : ∃ os by', (∀ k, 1001 ≤ k → spec_DrawTurnOccs.f k l = some (os, by')) ∧ os.length ≤ 7 ∧ IdsLe os 3 := by
  obtain ⟨r, a1, a2⟩ := l14Open_ok l hl hb
  obtain ⟨os, r1, b1, b2, b3, b4⟩ := l3Bent_ok r 0 a2 (by omega)
  obtain ⟨v, r2, c1, c2, c3⟩ := num_ok r1 [0, 1, 5, 100, 1000, (-1), 1001] _ b4 (by omega) (by simp)
  refine ⟨os, v, fun k hk => ?_, b2, b3⟩
  unfold spec_DrawTurnOccs.f
  rw [a1]
  simp only [Option.bind_some, b1 k hk, c1]
end Go.Proofs.Ytggoffcbifibnaa
