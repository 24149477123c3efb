/- The law of shifted occurrences: copies, marks, sizes. -/
import Derived.Test.YtgbgabkdbfeibaaM2
import Derived.Test.YtgbgabkdbfeibaaM3
namespace Go.Proofs.Ytgbgabkdbfeibaa
open Go Go.Vm
set_option linter.unusedVariables false
def idsSum (l : List GOcc) : Nat := (l.map fun o => o.Ids.length).sum
theorem idsSum_cons (o : GOcc) (l : List GOcc) : idsSum (o :: l) = o.Ids.length + idsSum l := by simp [idsSum]
theorem idsSum_le : ∀ (l : List GOcc), IdsLe l (idsSum l)
  | [] => fun o h => by simp at h
  | x :: xs => fun o h => by
    rw [idsSum_cons]
    rcases List.mem_cons.1 h with rfl | h
    · omega
    · have := idsSum_le xs o h; omega
theorem szOccS_loop (k : Nat) (l : List GOcc) (hl : l.length < 4611686018427387904) (hm : IdsLe l 4611686018427387904) : ∀ (d n i : Nat) (s : Int), i + d = l.length → d < n → 0 ≤ s → s ≤ 1048576 →
    ∃ r, laws_szOccS.l0 k l n s (i : Int) = some r ∧ (r = .error (-1) ∨ (r = .ok (s - idsSum (l.drop i)) ∧ 0 ≤ s - idsSum (l.drop i))) := by
  intro d
  induction d with
  | zero =>
    intro n i s hi hn h0 h1
    obtain ⟨n, rfl⟩ : ∃ m, n = m + 1 := ⟨n - 1, by omega⟩
    rw [laws_szOccS.l0, if_neg (by omega), List.drop_eq_nil_of_le (by omega)]
    exact ⟨_, rfl, .inr ⟨by simp [idsSum], by simpa [idsSum] using h0⟩⟩
  | succ d ih =>
    intro n i s hi hn h0 h1
    obtain ⟨n, rfl⟩ : ∃ m, n = m + 1 := ⟨n - 1, by omega⟩
    have hlt : i < l.length := by omega
    have hb := hm l[i] (List.getElem_mem hlt)
    rw [laws_szOccS.l0, if_pos (by omega), req_pos (by omega), Int.toNat_natCast, List.getElem?_eq_getElem hlt, List.drop_eq_getElem_cons hlt, idsSum_cons]
    simp only [Option.bind_some, laws_szOcc.f, laws_szIntS.f]
    rw [wr (s - _) (by omega)]
    by_cases h : s - (l[i].Ids.length : Int) < 0
    · rw [if_pos h]
      simp only [Option.bind_some]
      rw [if_pos (by decide)]
      simp only [Option.bind_some]
      rw [if_pos (by decide)]
      exact ⟨_, rfl, .inl rfl⟩
    · rw [if_neg h]
      simp only [Option.bind_some]
      rw [if_neg h]
      simp only [Option.bind_some]
      rw [if_neg h, wrS i (by omega)]
      obtain ⟨r, h2, h3⟩ := ih n (i + 1) (s - l[i].Ids.length) (by omega) (by omega) (by omega) (by omega)
      refine ⟨r, h2, h3.imp id ?_⟩
      rintro ⟨h4, h5⟩
      have e : s - (l[i].Ids.length : Int) - (idsSum (l.drop (i + 1)) : Nat) = s - ((l[i].Ids.length + idsSum (l.drop (i + 1)) : Nat) : Int) := by push_cast; omega
      rw [← e]; exact ⟨h4, h5⟩
theorem szOccS_eq (l : List GOcc) (hl : l.length < 4611686018427387904) (hm : IdsLe l 4611686018427387904) : ∃ r, Evn (fun k => laws_szOccS.f k l 1048576) r ∧ (r < 0 ∨ (0 ≤ r ∧ l.length ≤ 1048576 ∧ idsSum l ≤ 1048576)) := by
  by_cases h : l.length ≤ 1048576
  · have key : ∀ k, l.length + 1 ≤ k → ∃ r, laws_szOccS.l0 k l k (1048576 - l.length) 0 = some r ∧ (r = .error (-1) ∨ (r = .ok (1048576 - (l.length : Int) - idsSum l) ∧ 0 ≤ 1048576 - (l.length : Int) - idsSum l)) := fun k hk => by
      have := szOccS_loop k l hl hm l.length k 0 (1048576 - l.length) (by omega) (by omega) (by omega) (by omega)
      simpa using this
    by_cases hs : 0 ≤ 1048576 - (l.length : Int) - idsSum l
    · obtain ⟨r0, e0, c0⟩ := key (l.length + 1) (Nat.le_refl _)
      by_cases hr : (∀ k, l.length + 1 ≤ k → laws_szOccS.l0 k l k (1048576 - l.length) 0 = some (.ok (1048576 - (l.length : Int) - idsSum l)))
      · refine ⟨1048576 - (l.length : Int) - idsSum l, ⟨l.length + 1, fun k hk => ?_⟩, .inr ⟨hs, h, by omega⟩⟩
        dsimp only
        unfold laws_szOccS.f
        rw [wr _ (by omega), if_neg (by omega), hr k hk]; rfl
      · exfalso
        apply hr
        intro k hk
        -- with enough room no error comes
        have : ∀ (d n i : Nat) (s : Int), i + d = l.length → d < n → s - idsSum (l.drop i) ≥ 0 → s ≤ 1048576 → laws_szOccS.l0 k l n s (i : Int) = some (.ok (s - idsSum (l.drop i))) := by
          intro d
          induction d with
          | zero =>
            intro n i s hi hn h0 h1
            obtain ⟨n, rfl⟩ : ∃ m, n = m + 1 := ⟨n - 1, by omega⟩
            rw [laws_szOccS.l0, if_neg (by omega), List.drop_eq_nil_of_le (by omega)]
            simp [idsSum]
          | succ d ih =>
            intro n i s hi hn h0 h1
            obtain ⟨n, rfl⟩ : ∃ m, n = m + 1 := ⟨n - 1, by omega⟩
            have hlt : i < l.length := by omega
            have hb := hm l[i] (List.getElem_mem hlt)
            rw [List.drop_eq_getElem_cons hlt, idsSum_cons] at h0 ⊢
            have hq : ¬ s - (l[i].Ids.length : Int) < 0 := by push_cast at h0; omega
            rw [laws_szOccS.l0, if_pos (by omega), req_pos (by omega), Int.toNat_natCast, List.getElem?_eq_getElem hlt]
            simp only [Option.bind_some, laws_szOcc.f, laws_szIntS.f]
            rw [wr (s - _) (by omega), if_neg hq]
            simp only [Option.bind_some]
            rw [if_neg hq]
            simp only [Option.bind_some]
            rw [if_neg hq, wrS i (by omega), ih n (i + 1) (s - l[i].Ids.length) (by omega) (by omega) (by push_cast at h0; omega) (by omega)]
            congr 2; push_cast; omega
        have := this l.length k 0 (1048576 - l.length) (by omega) (by omega) (by simpa using hs) (by omega)
        simpa using this
    · refine ⟨-1, ⟨l.length + 1, fun k hk => ?_⟩, .inl (by decide)⟩
      obtain ⟨r, e, c⟩ := key k hk
      dsimp only
      unfold laws_szOccS.f
      rw [wr _ (by omega), if_neg (by omega), e]
      rcases c with rfl | ⟨_, c⟩
      · rfl
      · exact absurd c hs
  · refine ⟨-1, ⟨0, fun k hk => ?_⟩, .inl (by decide)⟩
    dsimp only
    unfold laws_szOccS.f
    rw [wr _ (by omega), if_pos (by omega)]
theorem toIntS_k (l : List Int) (hl : l.length * 8 ≤ reachBytes) (k : Nat) (hk : l.length + 1 ≤ k) : laws_toIntS.f k l = some l := by
  unfold laws_toIntS.f
  have hb := reach_le hl
  rw [req_pos (by omega), req_pos (by omega), req_pos (by omega)]
  have := toIntS_loop k l (reach_lt hl (by omega)) l.length k 0 (List.replicate l.length 0) (by omega) (by omega) (by simp) (by simp)
  rw [show ((0 : Nat) : Int) = 0 from rfl] at this
  rw [this]; rfl
theorem toOcc_k (o : GOcc) (hl : o.Ids.length ≤ 1048576) (k : Nat) (hk : o.Ids.length + 1 ≤ k) : laws_toOcc.f k o = some o := by
  unfold laws_toOcc.f
  have hr : reachBytes = 140737488351232 := rfl
  rw [toIntS_k _ (by omega) k hk]; rfl
theorem toOccS_loop (k : Nat) (l : List GOcc) (hl : l.length ≤ 1048576) (hm : IdsLe l 1048576) (hk : 1048577 ≤ k) : ∀ (d n i : Nat) (acc : List GOcc), i + d = l.length → d < n → acc.length = l.length → acc.take i = l.take i →
    laws_toOccS.l0 k l n acc (i : Int) = some l := by
  intro d
  induction d with
  | zero =>
    intro n i acc hi hn ha ht
    obtain ⟨n, rfl⟩ : ∃ m, n = m + 1 := ⟨n - 1, by omega⟩
    rw [laws_toOccS.l0, if_neg (by omega)]
    rw [show i = l.length by omega, List.take_length, ← ha, List.take_length] at ht
    rw [ht]
  | succ d ih =>
    intro n i acc hi hn ha ht
    obtain ⟨n, rfl⟩ : ∃ m, n = m + 1 := ⟨n - 1, by omega⟩
    have hlt : i < l.length := by omega
    have hb := hm l[i] (List.getElem_mem hlt)
    rw [laws_toOccS.l0, if_pos (by omega), req_pos (by omega), Int.toNat_natCast, List.getElem?_eq_getElem hlt]
    simp only [Option.bind_some, toOcc_k l[i] hb k (by omega)]
    rw [req_pos (by omega), req_pos (by omega), List.getElem?_eq_getElem (show i < acc.length by omega)]
    simp only [Option.bind_some]
    rw [wrS i (by omega)]
    refine ih n (i + 1) _ (by omega) (by omega) (by simpa using ha) ?_
    rw [List.take_add_one, List.take_set_of_le (Nat.le_refl _), ht, List.take_add_one]
    simp [hlt, ha]
theorem toOccS_eq (l : List GOcc) (hl : l.length ≤ 1048576) (hm : IdsLe l 1048576) : Evn (fun k => laws_toOccS.f k l) l := by
  refine ⟨1048577, fun k hk => ?_⟩
  dsimp only
  unfold laws_toOccS.f
  rw [req_pos (by omega), req_pos (by omega), req_pos (by omega)]
  have := toOccS_loop k l hl hm (by omega) l.length k 0 (List.replicate l.length ⟨0, 0, []⟩) (by omega) (by omega) (by simp) (by simp)
  rw [show ((0 : Nat) : Int) = 0 from rfl] at this
  rw [this]; rfl
theorem eqIntS_k (l : List Int) (hl : l.length < 4611686018427387904) (k : Nat) (hk : l.length + 1 ≤ k) : laws_eqIntS.f k l l = some true := by
  unfold laws_eqIntS.f
  have := eqIntS_loop k l hl l.length k 0 (by omega) (by omega)
  rw [show ((0 : Nat) : Int) = 0 from rfl] at this
  rw [if_pos rfl, this]; rfl
theorem eqOcc_k (o : GOcc) (hl : o.Ids.length ≤ 1048576) (k : Nat) (hk : o.Ids.length + 1 ≤ k) : laws_eqOcc.f k o o = some true := by
  unfold laws_eqOcc.f
  rw [if_pos rfl, if_pos rfl, eqIntS_k _ (by omega) k hk]; rfl
theorem eqOccS_loop (k : Nat) (l : List GOcc) (hl : l.length ≤ 1048576) (hm : IdsLe l 1048576) (hk : 1048577 ≤ k) : ∀ (d n i : Nat), i + d = l.length → d < n → laws_eqOccS.l0 k l l n (i : Int) = some (.ok ()) := by
  intro d
  induction d with
  | zero =>
    intro n i hi hn
    obtain ⟨n, rfl⟩ : ∃ m, n = m + 1 := ⟨n - 1, by omega⟩
    rw [laws_eqOccS.l0, if_neg (by omega)]
  | succ d ih =>
    intro n i hi hn
    obtain ⟨n, rfl⟩ : ∃ m, n = m + 1 := ⟨n - 1, by omega⟩
    have hlt : i < l.length := by omega
    have hb := hm l[i] (List.getElem_mem hlt)
    rw [laws_eqOccS.l0, if_pos (by omega), req_pos (by omega), Int.toNat_natCast, List.getElem?_eq_getElem hlt]
    simp only [Option.bind_some]
    rw [req_pos (by omega)]
    simp only [eqOcc_k l[i] hb k (by omega), Option.bind_some, if_true]
    rw [wrS i (by omega)]
    exact ih n (i + 1) (by omega) (by omega)
theorem eqOccS_refl (l : List GOcc) (hl : l.length ≤ 1048576) (hm : IdsLe l 1048576) : Evn (fun k => laws_eqOccS.f k l l) true := by
  refine ⟨1048577, fun k hk => ?_⟩
  dsimp only
  unfold laws_eqOccS.f
  have := eqOccS_loop k l hl hm hk l.length k 0 (by omega) (by omega)
  rw [show ((0 : Nat) : Int) = 0 from rfl] at this
  rw [if_pos rfl, this]; rfl
def marks (j : Int) (n : Nat) : List Int := (List.range n).map fun t : Nat => j + (t : Int)
theorem marks_get (j : Int) (n t : Nat) (h : t < n) : (marks j n)[t]? = some (j + (t : Int)) := by simp [marks, h]
theorem markIntS_k (l : List Int) (j : Int) (hl : l.length < 1152921504606846976) (hj : 0 ≤ j ∧ j < 1152921504606846976) (k : Nat) (hk : l.length + 1 ≤ k) : laws_markIntS.f k l j = some (j + l.length, marks j l.length) := by
  have := markIntS_loop k l.length j hl hj l.length k 0 l (by omega) (by omega) rfl (fun t h => by omega)
  simp only [Int.natCast_zero, Int.add_zero] at this
  obtain ⟨l', h1, h2, h3⟩ := this
  have e : l' = marks j l.length := by
    apply List.ext_getElem?
    intro t
    rcases Nat.lt_or_ge t l.length with h | h
    · rw [h3 t h, marks_get j _ t h]
    · rw [List.getElem?_eq_none (by omega), List.getElem?_eq_none (by simp [marks]; omega)]
  unfold laws_markIntS.f
  rw [h1, e]; rfl
theorem heldIntS_loop (k : Nat) (j : Int) (m : Nat) (hm : m < 1152921504606846976) (hj : 0 ≤ j ∧ j < 1152921504606846976) : ∀ (d n i : Nat), i + d = m → d < n → laws_heldIntS.l0 k (marks j m) n (j + i) (i : Int) = some (.ok (j + m)) := by
  intro d
  induction d with
  | zero =>
    intro n i hi hn
    obtain ⟨n, rfl⟩ : ∃ m, n = m + 1 := ⟨n - 1, by omega⟩
    rw [laws_heldIntS.l0, if_neg (by simp [marks]; omega), show i = m by omega]
  | succ d ih =>
    intro n i hi hn
    obtain ⟨n, rfl⟩ : ∃ m, n = m + 1 := ⟨n - 1, by omega⟩
    rw [laws_heldIntS.l0, if_pos (by simp [marks]; omega), req_pos (by omega), Int.toNat_natCast, marks_get j m i (by omega)]
    simp only [Option.bind_some, if_true]
    rw [wrS i (by omega), wr (j + i + 1) (by omega)]
    have e : j + (i : Int) + 1 = j + ((i + 1 : Nat) : Int) := by push_cast; omega
    rw [e]
    exact ih n (i + 1) (by omega) (by omega)
theorem heldIntS_k (j : Int) (m : Nat) (hm : m < 1152921504606846976) (hj : 0 ≤ j ∧ j < 1152921504606846976) (k : Nat) (hk : m + 1 ≤ k) : laws_heldIntS.f k (marks j m) j = some (j + m) := by
  unfold laws_heldIntS.f
  have := heldIntS_loop k j m hm hj m k 0 (by omega) (by omega)
  simp only [Int.natCast_zero, Int.add_zero] at this
  rw [this]; rfl
def off (l : List GOcc) (i : Nat) : Nat := idsSum (l.take i) + 2 * i
def mkOcc (s : Int) (n : Nat) : GOcc := ⟨s, s + 1, marks (s + 2) n⟩
theorem off_succ (l : List GOcc) (i : Nat) (h : i < l.length) : off l (i + 1) = off l i + 2 + l[i].Ids.length := by
  unfold off
  rw [show l.take (i + 1) = l.take i ++ [l[i]] from by rw [List.take_add_one, List.getElem?_eq_getElem h]; rfl]
  simp only [idsSum, List.map_append, List.sum_append, List.map_cons, List.map_nil, List.sum_cons, List.sum_nil]
  omega
theorem off_le (l : List GOcc) (i : Nat) (h : i ≤ l.length) : off l i ≤ idsSum l + 2 * l.length := by
  unfold off
  have : idsSum l = idsSum (l.take i) + idsSum (l.drop i) := by
    conv => lhs; rw [← List.take_append_drop i l]
    simp only [idsSum, List.map_append, List.sum_append]
  omega
theorem markOccS_loop (k : Nat) (l : List GOcc) (j : Int) (hl : l.length ≤ 1048576) (hs : idsSum l ≤ 1048576) (hj : 0 ≤ j ∧ j ≤ 1048576) (hk : 1048577 ≤ k) : ∀ (d n i : Nat) (acc : List GOcc), i + d = l.length → d < n → acc.length = l.length →
    (∀ t, t < i → acc[t]? = some (mkOcc (j + off l t) ((l[t]?.getD ⟨0, 0, []⟩).Ids.length))) → (∀ t, i ≤ t → acc[t]? = l[t]?) →
    ∃ l', laws_markOccS.l0 k n acc (j + off l i) (i : Int) = some (j + off l l.length, l') ∧ l'.length = l.length ∧ ∀ t, t < l.length → l'[t]? = some (mkOcc (j + off l t) ((l[t]?.getD ⟨0, 0, []⟩).Ids.length)) := by
  intro d
  induction d with
  | zero =>
    intro n i acc hi hn ha ht hr
    obtain ⟨n, rfl⟩ : ∃ m, n = m + 1 := ⟨n - 1, by omega⟩
    refine ⟨acc, ?_, ha, fun t h => ht t (by omega)⟩
    rw [laws_markOccS.l0, if_neg (by omega), show i = l.length by omega]
  | succ d ih =>
    intro n i acc hi hn ha ht hr
    obtain ⟨n, rfl⟩ : ∃ m, n = m + 1 := ⟨n - 1, by omega⟩
    have hlt : i < acc.length := by omega
    have hll : i < l.length := by omega
    have hget : acc[i]? = some l[i] := by rw [hr i (Nat.le_refl _), List.getElem?_eq_getElem hll]
    have hb := idsSum_le l l[i] (List.getElem_mem hll)
    have ho := off_le l i (by omega)
    rw [laws_markOccS.l0, if_pos (by omega), req_pos (by omega), req_pos (by omega), Int.toNat_natCast, hget]
    simp only [Option.bind_some, List.set_set, List.length_set]
    repeat rw [req_pos (by omega)]
    rw [wr (j + off l i + 1) (by omega), wr (j + off l i + 1 + 1) (by omega), markIntS_k l[i].Ids _ (by omega) (by omega) k (by omega)]
    simp only [Option.bind_some]
    rw [req_pos (by simp [marks]), wrS i (by omega)]
    have e : j + (off l i : Int) + 1 + 1 + (l[i].Ids.length : Int) = j + ((off l (i + 1) : Nat) : Int) := by rw [off_succ l i hll]; push_cast; omega
    rw [e]
    refine ih n (i + 1) _ (by omega) (by omega) (by simpa using ha) (fun t h => ?_) (fun t h => ?_)
    · rw [List.getElem?_set]
      by_cases e2 : i = t
      · subst e2
        rw [if_pos rfl, if_pos hlt]
        simp only [List.getElem?_eq_getElem hll, Option.getD_some, mkOcc, Option.some.injEq, GOcc.mk.injEq, true_and]
        congr 1; omega
      · rw [if_neg e2]; exact ht t (by omega)
    · rw [List.getElem?_set_ne (by omega)]; exact hr t (by omega)
theorem markOccS_eq (l : List GOcc) (j : Int) (hl : l.length ≤ 1048576) (hs : idsSum l ≤ 1048576) (hj : 0 ≤ j ∧ j ≤ 1048576) : ∃ l' : List GOcc, l'.length = l.length ∧ (∀ t, t < l.length → l'[t]? = some (mkOcc (j + off l t) ((l[t]?.getD ⟨0, 0, []⟩).Ids.length))) ∧ Evn (fun k => laws_markOccS.f k l j) (j + off l l.length, l') := by
  have h : ∀ k, 1048577 ≤ k → ∃ l', laws_markOccS.l0 k k l j 0 = some (j + off l l.length, l') ∧ l'.length = l.length ∧ ∀ t, t < l.length → l'[t]? = some (mkOcc (j + off l t) ((l[t]?.getD ⟨0, 0, []⟩).Ids.length)) := by
    intro k hk
    have := markOccS_loop k l j hl hs hj hk l.length k 0 l (by omega) (by omega) rfl (fun t h => by omega) (fun t h => rfl)
    simpa [off, idsSum] using this
  obtain ⟨l', h1, h2, h3⟩ := h 1048577 (Nat.le_refl _)
  refine ⟨l', h2, h3, 1048577, fun k hk => ?_⟩
  obtain ⟨l2, g1, g2, g3⟩ := h k hk
  have : l2 = l' := by
    apply List.ext_getElem?
    intro t
    rcases Nat.lt_or_ge t l.length with h | h
    · rw [g3 t h, h3 t h]
    · rw [List.getElem?_eq_none (by omega), List.getElem?_eq_none (by omega)]
  subst this
  dsimp only
  unfold laws_markOccS.f
  rw [g1]; rfl
theorem heldOccS_loop (k : Nat) (l m : List GOcc) (j : Int) (hl : l.length ≤ 1048576) (hs : idsSum l ≤ 1048576) (hj : 0 ≤ j ∧ j ≤ 1048576) (hk : 1048577 ≤ k) (hlen : m.length = l.length) (hm : ∀ t, t < l.length → m[t]? = some (mkOcc (j + off l t) ((l[t]?.getD ⟨0, 0, []⟩).Ids.length))) : ∀ (d n i : Nat), i + d = l.length → d < n →
    laws_heldOccS.l0 k m n (j + off l i) (i : Int) = some (.ok (j + off l l.length)) := by
  intro d
  induction d with
  | zero =>
    intro n i hi hn
    obtain ⟨n, rfl⟩ : ∃ m, n = m + 1 := ⟨n - 1, by omega⟩
    rw [laws_heldOccS.l0, if_neg (by omega), show i = l.length by omega]
  | succ d ih =>
    intro n i hi hn
    obtain ⟨n, rfl⟩ : ∃ m, n = m + 1 := ⟨n - 1, by omega⟩
    have hll : i < l.length := by omega
    have hb := idsSum_le l l[i] (List.getElem_mem hll)
    have ho := off_le l i (by omega)
    rw [laws_heldOccS.l0, if_pos (by omega), req_pos (by omega), Int.toNat_natCast, hm i hll]
    simp only [Option.bind_some, mkOcc, if_true, List.getElem?_eq_getElem hll, Option.getD_some]
    rw [req_pos (by omega), wr (j + off l i + 1) (by omega), wr (j + off l i + 1 + 1) (by omega), if_pos rfl, req_pos (by omega)]
    rw [show j + (off l i : Int) + 1 + 1 = j + off l i + 2 by omega, heldIntS_k _ _ (by omega) (by omega) k (by omega)]
    simp only [Option.bind_some]
    rw [if_neg (by omega), wrS i (by omega)]
    have e : j + (off l i : Int) + 2 + (l[i].Ids.length : Int) = j + ((off l (i + 1) : Nat) : Int) := by rw [off_succ l i hll]; push_cast; omega
    rw [e]
    exact ih n (i + 1) (by omega) (by omega)
theorem heldOccS_eq (l m : List GOcc) (j : Int) (hl : l.length ≤ 1048576) (hs : idsSum l ≤ 1048576) (hj : 0 ≤ j ∧ j ≤ 1048576) (hlen : m.length = l.length) (hm : ∀ t, t < l.length → m[t]? = some (mkOcc (j + off l t) ((l[t]?.getD ⟨0, 0, []⟩).Ids.length))) : Evn (fun k => laws_heldOccS.f k m j) (j + off l l.length) := by
  refine ⟨1048577, fun k hk => ?_⟩
  dsimp only
  unfold laws_heldOccS.f
  have := heldOccS_loop k l m j hl hs hj hk hlen hm l.length k 0 (by omega) (by omega)
  simp only [off, List.take_zero, idsSum, List.map_nil, List.sum_nil, Nat.mul_zero, Nat.add_zero, Int.natCast_zero, Int.add_zero] at this ⊢
  rw [this]; rfl
theorem turnOccs_len (l : List GOcc) (n : Int) : (turnOccs l n).length ≤ l.length ∧ idsSum (turnOccs l n) ≤ idsSum l := by
  unfold turnOccs; split
  · simp [idsSum, shOcc, Function.comp_def]
  · simp [idsSum]
theorem FnExactTurnOccs_pure (p0 : List GOcc) (p1 : Int) (h0 : p0.length * 40 ≤ reachBytes) (hi : ∀ o ∈ p0, o.Ids.length * 8 ≤ reachBytes) : ∃ k, laws_FnExactTurnOccs.f k p0 p1 = some true := by
  have hl := reach_lt h0 (by omega)
  have hm : IdsLe p0 4611686018427387904 := fun o ho => Nat.le_of_lt (reach_lt (hi o ho) (by omega))
  refine Evn.get (g := fun k => laws_FnExactTurnOccs.f k p0 p1) ?_
  simp only [laws_FnExactTurnOccs.f]
  obtain ⟨r, hr, hc⟩ := szOccS_eq p0 hl hm
  refine Evn.bind hr ?_
  rcases hc with hc | ⟨hc, hlen, hsum⟩
  · exact Evn.pos hc (Evn.const rfl)
  have hm2 : IdsLe p0 1048576 := fun o ho => Nat.le_trans (idsSum_le p0 o ho) hsum
  obtain ⟨ht1, ht2⟩ := turnOccs_len p0 p1
  have hmt : IdsLe (turnOccs p0 p1) 1048576 := fun o ho => Nat.le_trans (idsSum_le _ o ho) (by omega)
  have hspec : Evn (fun k => spec_TurnOccs.f k p0 p1) (turnOccs p0 p1) := ⟨1048576 + p0.length + 1, fun k hk => spec_TurnOccs_eq p0 p1 hl 1048576 hm2 (by omega) k hk⟩
  have himpl : Evn (fun k => impl_TurnOccs.f k p0 p1) (turnOccs p0 p1) := ⟨1048576 + p0.length + 1, fun k hk => impl_TurnOccs_eq p0 p1 hl 1048576 hm2 (by omega) k hk⟩
  obtain ⟨m0, m1, m2, m3⟩ := markOccS_eq p0 1 hlen hsum (by omega)
  obtain ⟨g0, g1, g2, g3⟩ := markOccS_eq (turnOccs p0 p1) 1 (by omega) (by omega) (by omega)
  have hh := heldOccS_eq (turnOccs p0 p1) g0 1 (by omega) (by omega) (by omega) g1 g2
  have hto := toOccS_eq p0 hlen hm2
  have heq := eqOccS_refl (turnOccs p0 p1) (by omega) hmt
  have heq0 := eqOccS_refl p0 hlen hm2
  refine Evn.neg (by omega) (Evn.bind hto (Evn.bind hspec (Evn.bind hto (Evn.bind himpl (Evn.bind heq (Evn.pos rfl (Evn.bind hto (Evn.bind heq0 (Evn.pos rfl (Evn.bind m3 (Evn.req m1 (Evn.neg (by dsimp only; omega) ?_))))))))))))
  refine Evn.bind heq (Evn.pos rfl (Evn.bind g3 (Evn.req g1 (Evn.bind hh (Evn.neg (by omega) (Evn.pos rfl ?_))))))
  exact Evn.bind hto (Evn.bind himpl (Evn.bind heq (Evn.pos rfl (Evn.bind hh (Evn.neg (by omega) (Evn.pos rfl (Evn.const rfl)))))))
end Go.Proofs.Ytgbgabkdbfeibaa
