/- Plain lemmas about the functions over data; first part. -/
import Derived.Test.YtlbnmldopjadoaaGreatL
namespace Go.Proofs.YtlbnmldopjadoaaGreat
open Go Go.Vm
set_option linter.unusedVariables false
set_option linter.unusedSimpArgs false
theorem wr (x : Int) (h : -9223372036854775808 ≤ x ∧ x < 9223372036854775808) : IntKind.wrap .i64 x = x := rA h
theorem wrS (i : Nat) (h : i < 4611686018427387904) : IntKind.wrap .i64 ((i : Int) + 1) = ((i + 1 : Nat) : Int) := by rw [wr _ (by omega)]; simp
theorem wrP (i : Nat) (h : i < 4611686018427387904) : IntKind.wrap .i64 (((i + 1 : Nat) : Int) - 1) = (i : Int) := by rw [wr _ (by omega)]; simp
/-- from some number of rounds on -/
def Evn {α : Type} (g : Nat → Option α) (r : α) : Prop := ∃ K, ∀ k, K ≤ k → g k = some r
theorem Evn.const {α : Type} {g : Option α} {r : α} (h : g = some r) : Evn (fun _ => g) r := ⟨0, fun _ _ => h⟩
theorem Evn.bind {α β : Type} {g : Nat → Option α} {f : Nat → α → Option β} {r : α} {s : β} (h1 : Evn g r) (h2 : Evn (fun k => f k r) s) : Evn (fun k => (g k).bind (f k)) s := by
  obtain ⟨K1, h1⟩ := h1
  obtain ⟨K2, h2⟩ := h2
  exact ⟨K1 + K2, fun k hk => by simp only; rw [h1 k (by omega)]; exact h2 k (by omega)⟩
theorem Evn.get {α : Type} {g : Nat → Option α} {r : α} (h : Evn g r) : ∃ k, g k = some r := h.elim fun K h => ⟨K, h K (Nat.le_refl _)⟩
theorem Evn.req {α : Type} {c : Prop} [Decidable c] {g : Nat → Option α} {r : α} (hc : c) (h : Evn g r) : Evn (fun k => Vm.req c (g k)) r := by
  obtain ⟨K, h⟩ := h
  exact ⟨K, fun k hk => by simp only; rw [aG hc]; exact h k hk⟩
theorem Evn.neg {α : Type} {c : Prop} [Decidable c] {g g' : Nat → Option α} {r : α} (hc : ¬ c) (h : Evn g' r) : Evn (fun k => if c then g k else g' k) r := by
  obtain ⟨K, h⟩ := h
  exact ⟨K, fun k hk => by simp only; rw [if_neg hc]; exact h k hk⟩
/- events -/
def ly (e : GEv) : Bool := decide (0 ≤ e.Sym) && decide (e.Sym < 5) && decide (1 ≤ e.At) && decide (e.At ≤ 1000) && decide (0 ≤ e.Val) && decide (e.Val ≤ 100)
theorem rv (a b c : Int) : a8.f a b c = some (decide (b ≤ a) && decide (a ≤ c)) := by
  unfold a8.f
  split
  all_goals (rw [Option.some.injEq, Bool.eq_iff_iff]; simp; omega)
theorem oY (e : GEv) : gj.f e = some (ly e) := by
  unfold gj.f cW.f ly
  simp only [rv, Option.bind_some]
  repeat' split
  all_goals (rw [Option.some.injEq, Bool.eq_iff_iff]; simp_all; try omega)
def iq (l : List GEv) (a : Int) : Nat → Bool
  | 0 => true
  | j + 1 => match l[j]? with
    | some d => decide (d.At < a)
    | none => false
def il (l : List GEv) (i : Nat) : Bool := match l[i]? with
  | some e => ly e && iq l e.At i
  | none => false
def ge (l : List GEv) : Bool := (List.range' 0 l.length).all (il l) && decide (l.length ≤ 24)
theorem md (k : Nat) (l : List GEv) (hl : l.length < 4611686018427387904) : ∀ (d n i : Nat), i + d = l.length → d < n →
    bO.l0 k l n (i : Int) = some (if (List.range' i d).all (il l) then .ok () else .error false) := by
  intro d
  induction d with
  | zero =>
    intro n i hi hn
    obtain ⟨n, rfl⟩ : ∃ m, n = m + 1 := ⟨n - 1, by omega⟩
    rw [bO.l0, if_neg (by omega)]; simp
  | succ d ih =>
    intro n i hi hn
    obtain ⟨n, rfl⟩ : ∃ m, n = m + 1 := ⟨n - 1, by omega⟩
    have hlt : i < l.length := by omega
    have hnext := ih n (i + 1) (by omega) (by omega)
    rw [bO.l0, if_pos (by omega), aG (by omega), Int.toNat_natCast, List.getElem?_eq_getElem hlt]
    simp only [Option.bind_some, oY, List.range'_succ, List.all_cons]
    have hg : il l i = (ly l[i] && iq l l[i].At i) := by unfold il; rw [List.getElem?_eq_getElem hlt]
    rw [hg]
    cases hok : ly l[i]
    · simp
    · cases i with
      | zero => simp only [if_true]; rw [if_neg (by omega), wrS 0 (by omega), hnext]; simp only [iq, Bool.true_and]
      | succ j =>
        simp only [if_true]
        rw [if_pos (by omega)]
        simp only [wrP j (by omega)]
        rw [aG (by omega), Int.toNat_natCast, List.getElem?_eq_getElem (show j < l.length by omega)]
        simp only [Option.bind_some]
        have hp : iq l l[j + 1].At (j + 1) = decide (l[j].At < l[j + 1].At) := by simp only [iq, List.getElem?_eq_getElem (show j < l.length by omega)]
        rw [hp]
        by_cases h : l[j].At < l[j + 1].At
        · rw [if_pos h, wrS (j + 1) (by omega), hnext]; simp only [h, decide_true, Bool.true_and]
        · rw [if_neg h]; simp only [h, decide_false, Bool.true_and, Bool.false_and]; rfl
theorem qA {l : List GEv} (h : ge l = true) : l.length ≤ 24 := by
  unfold ge at h; simp at h; exact h.2
theorem u8_ok {y : Int} (h : (Lit.int .u8 y).wf = true) : 0 ≤ y ∧ y ≤ 255 := by
  simp only [Lit.wf, Bool.and_eq_true, decide_eq_true_eq] at h
  exact h
theorem rR (a b : Int) (ha : 0 ≤ a ∧ a < 4611686018427387904) (hb : 0 ≤ b ∧ b < 4611686018427387904) : 0 ≤ ci .xor .i64 a b ∧ ci .xor .i64 a b < 4611686018427387904 := by
  obtain ⟨m, rfl⟩ : ∃ m : Nat, a = m := ⟨a.toNat, by omega⟩
  obtain ⟨n, rfl⟩ : ∃ n : Nat, b = n := ⟨b.toNat, by omega⟩
  have h : (BitVec.ofInt 64 (m : Int) ^^^ BitVec.ofInt 64 (n : Int)).toNat = m ^^^ n := by
    rw [BitVec.toNat_xor, BitVec.ofInt_natCast, BitVec.ofInt_natCast, BitVec.toNat_ofNat, BitVec.toNat_ofNat, Nat.mod_eq_of_lt (by omega), Nat.mod_eq_of_lt (by omega)]
  have h2 : m ^^^ n < 2 ^ 62 := Nat.xor_lt_two_pow (by omega) (by omega)
  show 0 ≤ IntKind.wrap .i64 ((BitVec.ofInt 64 (m : Int) ^^^ BitVec.ofInt 64 (n : Int)).toNat : Int) ∧ _
  have e : ci .xor .i64 (m : Int) (n : Int) = IntKind.wrap .i64 ((BitVec.ofInt 64 (m : Int) ^^^ BitVec.ofInt 64 (n : Int)).toNat : Int) := rfl
  rw [e, h, wr _ (by omega)]
  omega
theorem lW (a b : Int) (ha : 0 ≤ a ∧ a < 4611686018427387904) (hb : 1 ≤ b ∧ b < 4611686018427387904) : ci .rem .i64 a b = a % b := by
  show a.tmod b = a % b
  exact Int.tmod_eq_emod_of_nonneg ha.1
theorem oB (a b : Int) (ha : 0 ≤ a ∧ a < 4611686018427387904) (hb : 1 ≤ b ∧ b < 4611686018427387904) : ci .quo .i64 a b = a / b ∧ 0 ≤ a / b ∧ a / b ≤ a := by
  have e : ci .quo .i64 a b = IntKind.wrap .i64 (a.tdiv b) := rfl
  have h1 := Int.ediv_nonneg ha.1 (show 0 ≤ b by omega)
  have h2 := Int.ediv_le_self b ha.1
  rw [e, Int.tdiv_eq_ediv_of_nonneg ha.1, wr _ (by omega)]
  exact ⟨rfl, h1, h2⟩
/-- a reader over bytes that has read no more than m -/
def fI (r : Gl14Rd) (m : Int) : Prop := (∀ x ∈ r.b, 0 ≤ x ∧ x ≤ 255) ∧ r.b.length ≤ 1048576 ∧ 0 ≤ r.p ∧ r.p ≤ m
theorem fI.mono {r : Gl14Rd} {m n : Int} (h : fI r m) (hm : m ≤ n) : fI r n := ⟨h.1, h.2.1, h.2.2.1, by have := h.2.2.2; omega⟩
theorem kM (r : Gl14Rd) (n : Int) (m : Int) (h : fI r m) (hm : m ≤ 1000000000) (hn : n < 4611686018427387904) : ∃ v r', cf.f r n = some (v, r') ∧ 0 ≤ v ∧ (1 ≤ n → v < n) ∧ (n < 1 → v = 0) ∧ fI r' (m + 1) := by
  obtain ⟨hb, hl, h0, h1⟩ := h
  have hw : IntKind.wrap .i64 (r.p + 1) = r.p + 1 := wr _ (by omega)
  have hr' : fI ⟨r.b, r.p + 1⟩ (m + 1) := ⟨hb, hl, by dsimp only; omega, by dsimp only; omega⟩
  unfold cf.f
  simp only [hw]
  by_cases hn1 : n < 1
  · rw [if_pos hn1]; exact ⟨0, _, rfl, by omega, by omega, fun _ => rfl, hr'⟩
  rw [if_neg hn1]
  by_cases hb0 : (r.b.length : Int) = 0
  · rw [if_pos hb0]; exact ⟨0, _, rfl, by omega, by omega, fun _ => rfl, hr'⟩
  rw [if_neg hb0]
  have hq : IntKind.wrap .i64 (r.p + 1 - 1) = r.p := by rw [wr _ (by omega)]; omega
  simp only [hq]
  by_cases hp : r.p < (r.b.length : Int)
  · have hlt : r.p.toNat < r.b.length := by omega
    have he := hb r.b[r.p.toNat] (List.getElem_mem hlt)
    rw [if_pos hp, aG h0, List.getElem?_eq_getElem hlt]
    simp only [Option.bind_some]
    rw [aG (by omega), wr _ (by omega), lW _ _ (by omega) (by omega)]
    have g1 := Int.emod_nonneg r.b[r.p.toNat] (show n ≠ 0 by omega)
    have g2 := Int.emod_lt_of_pos r.b[r.p.toNat] (show 0 < n by omega)
    exact ⟨_, _, rfl, g1, fun _ => g2, fun h => absurd h hn1, hr'⟩
  · rw [if_neg hp, aG hb0]
    rw [wr (r.p * 7) (by omega), wr (r.p * 7 + 3) (by omega), wr (r.p * 29) (by omega), lW r.p _ (by omega) (by omega), lW (r.p * 7 + 3) _ (by omega) (by omega), (oB r.p _ (by omega) (by omega)).1]
    have q1 := Int.emod_nonneg r.p hb0
    have q2 := Int.emod_lt_of_pos r.p (show 0 < (r.b.length : Int) by omega)
    have q3 := Int.emod_nonneg (r.p * 7 + 3) hb0
    have q4 := Int.emod_lt_of_pos (r.p * 7 + 3) (show 0 < (r.b.length : Int) by omega)
    have q5 := (oB r.p (r.b.length : Int) (by omega) (by omega)).2
    generalize r.p % (r.b.length : Int) = i at *
    generalize (r.p * 7 + 3) % (r.b.length : Int) = j at *
    generalize r.p / (r.b.length : Int) = d at *
    have hi : i.toNat < r.b.length := by omega
    have hj : j.toNat < r.b.length := by omega
    have e1 := hb r.b[i.toNat] (List.getElem_mem hi)
    have e2 := hb r.b[j.toNat] (List.getElem_mem hj)
    rw [aG q1, List.getElem?_eq_getElem hi]
    simp only [Option.bind_some]
    rw [aG hb0, aG q3, List.getElem?_eq_getElem hj]
    simp only [Option.bind_some]
    generalize r.b[i.toNat] = x at *
    generalize r.b[j.toNat] = y at *
    rw [aG hb0, aG (by omega)]
    simp only [wr x (by omega), wr y (by omega), wr (x * 131) (by omega), wr (y * 1117) (by omega), wr (d * 53) (by omega), wr (x * 131 + y * 1117) (by omega), wr (x * 131 + y * 1117 + r.p * 29) (by omega), wr (x * 131 + y * 1117 + r.p * 29 + d * 53) (by omega)]
    have u := oB (x * 131 + y * 1117 + r.p * 29 + d * 53) 64 (by omega) (by omega)
    have v := rR (x * 131 + y * 1117 + r.p * 29 + d * 53) (ci .quo .i64 (x * 131 + y * 1117 + r.p * 29 + d * 53) 64) (by omega) (by rw [u.1]; omega)
    rw [lW _ n v (by omega)]
    exact ⟨_, _, rfl, Int.emod_nonneg _ (by omega), fun _ => Int.emod_lt_of_pos _ (by omega), fun h => absurd h hn1, hr'⟩
theorem lV (r : Gl14Rd) (l : List Int) (m : Int) (h : fI r m) (hm : m ≤ 1000000000) (hl : 1 ≤ l.length ∧ l.length < 1000) : ∃ v r', bJ.f r l = some (v, r') ∧ v ∈ l ∧ fI r' (m + 1) := by
  obtain ⟨v, r', h1, h2, h3, h4, h5⟩ := kM r l.length m h hm (by omega)
  have hv := h3 (by omega)
  unfold bJ.f
  rw [h1]
  simp only [Option.bind_some]
  rw [aG h2, List.getElem?_eq_getElem (show v.toNat < l.length by omega)]
  exact ⟨_, _, rfl, List.getElem_mem _, h5⟩
theorem qc (l : List Int) (hl : l.length ≤ 1048576) (hb : ∀ y ∈ l, 0 ≤ y ∧ y ≤ 255) : ∃ r, eJ.f l = some r ∧ fI r 0 := by
  unfold eJ.f
  by_cases h : 2000 < (l.length : Int)
  · rw [if_pos h, aG (by omega), aG (by omega), aG (by omega)]
    exact ⟨_, rfl, fun x hx => hb x (List.mem_of_mem_take hx), by simp; omega, by dsimp only; omega, by dsimp only; omega⟩
  · rw [if_neg h]
    exact ⟨_, rfl, hb, hl, by dsimp only; omega, by dsimp only; omega⟩
def cy (c : av) : Bool := decide (0 ≤ c.Sym) && decide (c.Sym < 5) && decide (1 ≤ c.Gap) && decide (c.Gap ≤ 20) && decide (0 ≤ c.Val) && decide (c.Val ≤ 100)
theorem jg (c : av) : eg.f c = some (cy c) := by
  unfold eg.f cW.f cy
  simp only [rv, Option.bind_some]
  repeat' split
  all_goals (rw [Option.some.injEq, Bool.eq_iff_iff]; simp_all; try omega)
theorem nh (c : av) : ew.f c = some (cy c) := by
  unfold ew.f cy
  repeat' split
  all_goals (rw [Option.some.injEq, Bool.eq_iff_iff]; simp; omega)
def eY (l : List av) : Bool := decide (l.length ≤ 30) && l.all cy
theorem qn (k : Nat) (l : List av) (hl : l.length ≤ 1000) : ∀ (d n i : Nat), i + d = l.length → d < n →
    ∃ r, aM.l0 k (fun y0 => cS.f y0) l n (i : Int) = some r ∧ ((∃ j : Int, r = .error j ∧ 0 ≤ j ∧ (l.drop i).all cy = false) ∨ (r = .ok () ∧ (l.drop i).all cy = true)) := by
  intro d
  induction d with
  | zero =>
    intro n i hi hn
    obtain ⟨n, rfl⟩ : ∃ m, n = m + 1 := ⟨n - 1, by omega⟩
    rw [aM.l0, if_neg (by omega), List.drop_eq_nil_of_le (by omega)]
    exact ⟨_, rfl, .inr ⟨rfl, rfl⟩⟩
  | succ d ih =>
    intro n i hi hn
    obtain ⟨n, rfl⟩ : ∃ m, n = m + 1 := ⟨n - 1, by omega⟩
    have hlt : i < l.length := by omega
    rw [aM.l0, if_pos (by omega), aG (by omega), Int.toNat_natCast, List.getElem?_eq_getElem hlt, List.drop_eq_getElem_cons hlt, List.all_cons]
    have hg : ∀ c, cS.f c = some (!cy c) := fun c => by simp only [cS.f, jg, Option.bind_some]
    simp only [Option.bind_some]
    rw [hg l[i]]
    cases h : cy l[i]
    · exact ⟨_, rfl, .inl ⟨i, rfl, by omega, rfl⟩⟩
    · simp only [Bool.not_true, Option.bind_some, Bool.false_eq_true, if_false, Bool.true_and]
      rw [wrS i (by omega)]
      exact ih n (i + 1) (by omega) (by omega)
theorem eL (k : Nat) (hk : 2000 ≤ k) (l : List av) (hl : l.length ≤ 1000) : cL.f k l = some (eY l) := by
  unfold cL.f eY
  by_cases h : 30 < (l.length : Int)
  · rw [if_pos h]
    have : ¬ l.length ≤ 30 := by omega
    simp [this]
  · rw [if_neg h]
    have h2 : l.length ≤ 30 := by omega
    obtain ⟨r, e, h3⟩ := qn k l hl l.length k 0 (by omega) (by omega)
    unfold cw.f aM.f
    rw [show (0 : Int) = ((0 : Nat) : Int) from rfl, e]
    simp only [List.drop_zero] at h3
    rcases h3 with ⟨j, rfl, hj, h4⟩ | ⟨rfl, h4⟩
    · have : ¬ j < 0 := by omega
      simp [h4, this]
    · simp [h4, h2]
theorem lL (k : Nat) (l : List av) (hl : l.length ≤ 1000) : ∀ (d n i : Nat), i + d = l.length → d < n →
    bp.l0 k l n (i : Int) = some (if (l.drop i).all cy then .ok () else .error false) := by
  intro d
  induction d with
  | zero =>
    intro n i hi hn
    obtain ⟨n, rfl⟩ : ∃ m, n = m + 1 := ⟨n - 1, by omega⟩
    rw [bp.l0, if_neg (by omega), List.drop_eq_nil_of_le (by omega)]
    rfl
  | succ d ih =>
    intro n i hi hn
    obtain ⟨n, rfl⟩ : ∃ m, n = m + 1 := ⟨n - 1, by omega⟩
    have hlt : i < l.length := by omega
    rw [bp.l0, if_pos (by omega), aG (by omega), Int.toNat_natCast, List.getElem?_eq_getElem hlt, List.drop_eq_getElem_cons hlt, List.all_cons]
    simp only [Option.bind_some, nh]
    cases h : cy l[i]
    · simp
    · simp only [if_true, Bool.true_and]
      rw [wrS i (by omega)]
      exact ih n (i + 1) (by omega) (by omega)
theorem nt (k : Nat) (hk : 2000 ≤ k) (l : List av) (hl : l.length ≤ 1000) : bp.f k l = some (eY l) := by
  unfold bp.f eY
  have h := lL k l hl l.length k 0 (by omega) (by omega)
  rw [show (0 : Int) = ((0 : Nat) : Int) from rfl, h, List.drop_zero]
  cases l.all cy
  · simp
  · simp only [if_true, Option.bind_some, Bool.and_true, Option.some.injEq]
    by_cases h : l.length ≤ 30
    · have : ¬ (30 : Int) < l.length := by omega
      simp [h, this]
    · have : (30 : Int) < l.length := by omega
      simp [h, this]
/- what is drawn -/
theorem qd (k : Nat) : ∀ (c n : Nat) (b : List Int) (p m : Int) (acc : List av), c < n → c ≤ 100 → fI ⟨b, p⟩ m → m + 3 * c ≤ 1000000000 → acc.length + c ≤ 1000 →
    ∃ l b' p', bt.l0 k n b p acc (c : Int) = some (l, b', p') ∧ fI ⟨b', p'⟩ (m + 3 * c) ∧ l.length = acc.length + c := by
  intro c
  induction c with
  | zero =>
    intro n b p m acc hn hc hr hm ha
    obtain ⟨n, rfl⟩ : ∃ m, n = m + 1 := ⟨n - 1, by omega⟩
    rw [bt.l0, if_neg (by omega)]
    exact ⟨_, _, _, rfl, by simpa using hr, rfl⟩
  | succ c ih =>
    intro n b p m acc hn hc hr hm ha
    obtain ⟨n, rfl⟩ : ∃ m, n = m + 1 := ⟨n - 1, by omega⟩
    obtain ⟨v1, r1, e1, -, h1⟩ := lV ⟨b, p⟩ [0, 0, 1, 1, 2, 3, 4] m hr (by omega) (by simp)
    obtain ⟨v2, r2, e2, -, h2⟩ := lV r1 [1, 1, 2, 3, 20] (m + 1) h1 (by omega) (by simp)
    obtain ⟨v3, r3, e3, -, h3⟩ := lV r2 [0, 0, 1, 5, 100] (m + 1 + 1) h2 (by omega) (by simp)
    rw [bt.l0, if_pos (by omega), e1]
    simp only [Option.bind_some]
    rw [e2]
    simp only [Option.bind_some]
    rw [e3]
    simp only [Option.bind_some]
    rw [aG (by omega), wrP c (by omega)]
    obtain ⟨l, b', p', q1, q2, q3⟩ := ih n r3.b r3.p (m + 1 + 1 + 1) (acc ++ [⟨v1, v2, v3⟩]) (by omega) (by omega) h3 (by omega) (by simp; omega)
    refine ⟨l, b', p', q1, q2.mono (by omega), ?_⟩
    rw [q3, List.length_append, List.length_singleton]
    omega
theorem rM (k : Nat) (hk : 1000 ≤ k) (r : Gl14Rd) (m : Int) (hr : fI r m) (hm : m ≤ 1000000) : ∃ l r', bt.f k r = some (l, r') ∧ fI r' (m + 37) ∧ l.length ≤ 12 := by
  obtain ⟨v, r1, e1, h1, h2, -, h4⟩ := kM r 12 m hr (by omega) (by omega)
  have h2 := h2 (by omega)
  obtain ⟨c, rfl⟩ : ∃ c : Nat, v = c := ⟨v.toNat, by omega⟩
  obtain ⟨l, b', p', q1, q2, q3⟩ := qd k c k r1.b r1.p (m + 1) [] (by omega) (by omega) h4 (by omega) (by simp; omega)
  unfold bt.f
  rw [e1]
  simp only [Option.bind_some]
  rw [q1]
  refine ⟨l, ⟨b', p'⟩, rfl, q2.mono (by omega), ?_⟩
  rw [q3]; simp; omega
theorem qv (k : Nat) : ∀ (d n : Nat) (l : List av), l.length + d = 31 → d < n → ∃ l', bK.l0 k n l = some l' ∧ l'.length = 31 := by
  intro d
  induction d with
  | zero =>
    intro n l hl hn
    obtain ⟨n, rfl⟩ : ∃ m, n = m + 1 := ⟨n - 1, by omega⟩
    rw [bK.l0, if_pos (by omega)]
    exact ⟨_, rfl, by omega⟩
  | succ d ih =>
    intro n l hl hn
    obtain ⟨n, rfl⟩ : ∃ m, n = m + 1 := ⟨n - 1, by omega⟩
    rw [bK.l0, if_neg (by omega), aG (by omega)]
    exact ih n _ (by simp; omega) (by omega)
theorem pX (k : Nat) (hk : 1000 ≤ k) (r : Gl14Rd) (m : Int) (hr : fI r m) (hm : m ≤ 1000000) : ∃ l r', bK.f k r = some (l, r') ∧ l.length ≤ 31 := by
  obtain ⟨l, r1, e1, h1, h2⟩ := rM k hk r m hr hm
  unfold bK.f
  rw [e1]
  simp only [Option.bind_some]
  by_cases h0 : ((l.length : Nat) : Int) = 0
  · rw [if_pos h0]; exact ⟨_, _, rfl, by omega⟩
  rw [if_neg h0]
  obtain ⟨v2, r2, e2, p1, p2, -, p4⟩ := kM r1 (l.length : Nat) (m + 37) h1 (by omega) (by omega)
  have p2 := p2 (by omega)
  obtain ⟨i, rfl⟩ : ∃ i : Nat, v2 = i := ⟨v2.toNat, by omega⟩
  have hi : i < l.length := by omega
  obtain ⟨v3, r3, e3, -, -, -, q4⟩ := kM r2 40 (m + 37 + 1) p4 (by omega) (by omega)
  rw [e2]
  simp only [Option.bind_some]
  rw [e3]
  simp only [Option.bind_some]
  have num : ∀ t : List Int, 1 ≤ t.length ∧ t.length < 1000 → ∃ v r', bJ.f r3 t = some (v, r') := fun t ht => by
    obtain ⟨v, r', e, -⟩ := lV r3 t (m + 37 + 1 + 1) q4 (by omega) ht
    exact ⟨v, r', e⟩
  by_cases g0 : v3 = 0
  · obtain ⟨v, r', e⟩ := num [-1, 5] (by simp)
    rw [if_pos g0, e]
    simp only [Option.bind_some]
    rw [aG (by omega), aG (by omega), Int.toNat_natCast, List.getElem?_eq_getElem hi]
    exact ⟨_, _, rfl, by simp; omega⟩
  rw [if_neg g0]
  by_cases g1 : v3 = 1
  · obtain ⟨v, r', e⟩ := num [0, 21] (by simp)
    rw [if_pos g1, e]
    simp only [Option.bind_some]
    rw [aG (by omega), aG (by omega), Int.toNat_natCast, List.getElem?_eq_getElem hi]
    exact ⟨_, _, rfl, by simp; omega⟩
  rw [if_neg g1]
  by_cases g2 : v3 = 2
  · obtain ⟨v, r', e⟩ := num [-1, 101] (by simp)
    rw [if_pos g2, e]
    simp only [Option.bind_some]
    rw [aG (by omega), aG (by omega), Int.toNat_natCast, List.getElem?_eq_getElem hi]
    exact ⟨_, _, rfl, by simp; omega⟩
  rw [if_neg g2]
  by_cases g3 : v3 = 3
  · obtain ⟨l', e, h⟩ := qv k (31 - l.length) k l (by omega) (by omega)
    rw [if_pos g3, e]
    exact ⟨_, _, rfl, by omega⟩
  · rw [if_neg g3]; exact ⟨_, _, rfl, by omega⟩
theorem pG (k : Nat) (hk : 1000 ≤ k) (l : List Int) (hl : l.length ≤ 1048576) (hb : ∀ y ∈ l, 0 ≤ y ∧ y ≤ 255) : ∃ t, dp.f k l = some t ∧ t.length ≤ 31 := by
  obtain ⟨r, e, h⟩ := qc l hl hb
  obtain ⟨t, r', e2, h2⟩ := pX k hk r 0 h (by omega)
  unfold dp.f
  rw [e]
  simp only [Option.bind_some]
  rw [e2]
  exact ⟨t, rfl, h2⟩
/- the engine without rules -/
def eV : List Int := List.replicate 4 0
def cn (l : List GEv) : GEng := ⟨[], [], l, eV, []⟩
def cO (l : List GEv) : Int := match l.getLast? with
  | some e => e.At
  | none => 0
theorem now_k (l : List GEv) (hl : l.length ≤ 1000) : fp.f l = some (cO l) := by
  unfold fp.f cO
  rcases List.eq_nil_or_concat l with rfl | ⟨m, e, rfl⟩
  · rfl
  · rw [List.concat_eq_append] at hl ⊢
    rw [List.length_append, List.length_singleton] at hl ⊢
    rw [if_neg (by omega)]
    rw [wrP m.length (by omega), aG (by omega), Int.toNat_natCast]
    simp
theorem iF (k : Nat) : bx.f (k + 1) [] = some true := by simp [bx.f, bx.l0]
theorem jo (k : Nat) : bh.f (k + 1) [] = some [] := by simp [bh.f, bh.l0]
theorem rc (k : Nat) : bW.f (k + 1) [] = some (cn []) := by
  simp [bW.f, bW.l0, iF, jo, req, cn, eV]
theorem jh (k : Nat) : ba.f (k + 1) [] = some [] := by simp [ba.f, ba.l0]
theorem pI (k : Nat) (g : GGraph → Option Bool) : bB.f g (k + 1) [] = some false := by simp [bB.f, aW.f, aW.l0]
theorem qD (k : Nat) (g : aH → Option Bool) : bH.f g (k + 1) [] = some false := by simp [bH.f, aZ.f, aZ.l0]
theorem qH (k : Nat) : bD.f (fun y0 => er.f y0) (k + 5) eV = some false := by rfl
theorem qP (k : Nat) : cM.f (k + 5) [] = some [] := by rfl
theorem evs_k (k : Nat) (l : List GEv) (hl : l.length ≤ 1000) (hk : 2000 ≤ k) : bO.f k l = some (ge l) := by
  unfold bO.f ge
  have := md k l (by omega) l.length k 0 (by omega) (by omega)
  rw [show ((0 : Nat) : Int) = 0 from rfl] at this
  rw [this]
  cases (List.range' 0 l.length).all (il l)
  · simp
  · simp only [if_true, Option.bind_some, Bool.true_and, Option.some.injEq]
    by_cases h : l.length ≤ 24
    · have : ¬ (24 : Int) < l.length := by omega
      simp [h, this]
    · have : (24 : Int) < l.length := by omega
      simp [h, this]
theorem rL (k : Nat) (hk : 2000 ≤ k) (l : List GEv) (hl : ge l = true) : fF.f k (cn l) = some true := by
  have h24 := qA hl
  obtain ⟨n, rfl⟩ : ∃ n, k = n + 5 := ⟨k - 5, by omega⟩
  unfold fF.f
  have e1 := iF (n + 4)
  have e2 := evs_k (n + 5) l (by omega) hk
  have e3 := pI (n + 4) (fun y0 => eG.f (n + 5) y0 (cn l))
  have e4 := qD (n + 4) (fun y0 => eH.f (n + 5) y0 (cn l))
  have e5 := qH n
  show (bx.f (n + 5) []).bind _ = _
  rw [e1]
  simp only [Option.bind_some, if_true]
  show (if ((([] : List GGraph).length : Nat) : Int) = ((([] : List GRule).length : Nat) : Int) then (bO.f (n + 5) l).bind _ else _) = _
  rw [if_pos (show ((([] : List GGraph).length : Nat) : Int) = ((([] : List GRule).length : Nat) : Int) from rfl), e2, hl]
  simp only [Option.bind_some, if_true]
  show (if ((eV.length : Nat) : Int) = 4 then (bB.f _ (n + 5) []).bind _ else _) = _
  rw [if_pos (show ((eV.length : Nat) : Int) = 4 from rfl), e3]
  simp only [Option.bind_some, Bool.false_eq_true, if_false]
  show (bD.f _ (n + 5) eV).bind _ = _
  rw [e5]
  simp only [Option.bind_some, Bool.false_eq_true, if_false]
  show (bH.f _ (n + 5) []).bind _ = _
  rw [e4]
  rfl
theorem jB (k : Nat) (hk : 2000 ≤ k) (l : List GEv) (hl : l.length ≤ 1000) : bc.f k (cn l) = some (cn l) := by
  obtain ⟨n, rfl⟩ : ∃ n, k = n + 5 := ⟨k - 5, by omega⟩
  unfold bc.f
  show (bh.f (n + 5) []).bind _ = _
  rw [jo (n + 4)]
  simp only [Option.bind_some]
  show (ed.f l).bind _ = _
  unfold ed.f
  rw [aG (by omega)]
  simp only [Option.bind_some]
  show req (eV.length * 8 ≤ 140737488355328) ((ba.f (n + 5) []).bind _) = _
  rw [aG (by decide), jh (n + 4)]
  simp only [Option.bind_some]
  rw [bc.l0, if_neg (by show ¬ (0 : Int) < (([] : List GGraph).length : Nat); decide)]
  rfl
theorem ph (k : Nat) (hk : 2000 ≤ k) (l : List GEv) (hl : l.length ≤ 24) (e : GEv) (he : e.At ≤ 1000) (r : cB) :
    aN.f k (cn l) e r = some (if l.length = 24 then (2, cn l, r) else (0, cn (l ++ [e]), r)) := by
  obtain ⟨n, rfl⟩ : ∃ n, k = n + 5 := ⟨k - 5, by omega⟩
  unfold aN.f
  show (if ((l.length : Nat) : Int) = 24 then _ else _) = _
  by_cases h : l.length = 24
  · rw [if_pos (by omega), if_pos h]
  · rw [if_neg (by omega), if_neg (by omega), if_neg h]
    show req ((l.length + 1) * 24 ≤ 140737488355328) ((cM.f (n + 5) []).bind _) = _
    rw [aG (by omega), qP n]
    simp only [Option.bind_some]
    rw [aN.l2, if_neg (by show ¬ (0 : Int) < (([] : List Int).length : Nat); decide)]
    rfl
theorem rh (k : Nat) (hk : 2000 ≤ k) (l : List GEv) (hl : l.length ≤ 24) (c : av) (ha : -1000000 ≤ cO l + c.Gap ∧ cO l + c.Gap ≤ 1000) :
    bu.f k (cn l) c.Sym c.Gap c.Val = some (if l.length = 24 then (cn l, 2, []) else (cn (l ++ [⟨c.Sym, cO l + c.Gap, c.Val⟩]), 0, [])) := by
  obtain ⟨n, rfl⟩ : ∃ n, k = n + 5 := ⟨k - 5, by omega⟩
  unfold bu.f
  rw [jB _ hk l (by omega)]
  simp only [Option.bind_some]
  show (bu.l0 (n + 5) (cn l) (n + 5) [] [] l eV [] [⟨c.Sym, 0, c.Val⟩] 0 c.Gap).bind _ = _
  rw [bu.l0, if_pos (by simp), aG (by decide), aG (by simp)]
  simp only [List.getElem?_cons_zero, Option.bind_some]
  rw [aG (by decide), aG (by simp), aG (by simp), now_k l (by omega)]
  simp only [Option.bind_some]
  rw [wr _ (by omega)]
  rw [show (⟨[], [], l, eV, []⟩ : GEng) = cn l from rfl, ph _ hk l hl _ ha.2]
  simp only [Option.bind_some]
  by_cases h : l.length = 24
  · rw [if_pos h, if_pos h]
    simp only []
    rw [if_neg (by decide), jB _ hk l (by omega)]
    rfl
  · rw [if_neg h, if_neg h]
    simp only [if_true]
    rw [bu.l0, if_neg (by simp)]
    simp only [Option.bind_some]
    show (bc.f (n + 5) (cn (l ++ [_]))).bind _ = _
    rw [jB _ hk _ (by simp; omega)]
    simp only [Option.bind_some]
    rw [aG (by simp [cn]), aG (by simp [cn]), aG (by simp [cn])]
    show (ba.f (n + 5) []).bind _ = _
    rw [jh (n + 4)]
    rfl
theorem ls (l : List GEv) (e : GEv) (a : Int) : ∀ i, i ≤ l.length → iq (l ++ [e]) a i = iq l a i
  | 0, _ => rfl
  | j + 1, h => by
    show (match (l ++ [e])[j]? with | some d => decide (d.At < a) | none => false) = (match l[j]? with | some d => decide (d.At < a) | none => false)
    rw [List.getElem?_append_left (by omega)]
theorem pU {l : List GEv} {e : GEv} (h : ge l = true) (hl : l.length < 24) (he : ly e = true) (ha : cO l < e.At) : ge (l ++ [e]) = true := by
  unfold ge at h ⊢
  simp only [Bool.and_eq_true, List.all_eq_true, List.mem_range', decide_eq_true_eq, List.length_append, List.length_singleton] at h ⊢
  refine ⟨?_, by omega⟩
  rintro x ⟨i, hi, rfl⟩
  simp only [Nat.zero_add, Nat.one_mul]
  unfold il
  by_cases hlt : i < l.length
  · have := h.1 i ⟨i, hlt, by omega⟩
    unfold il at this
    rw [List.getElem?_append_left hlt]
    rw [List.getElem?_eq_getElem hlt] at this ⊢
    simp only [Bool.and_eq_true] at this ⊢
    exact ⟨this.1, by rw [ls l e _ i (by omega)]; exact this.2⟩
  · have e1 : i = l.length := by omega
    subst e1
    rw [List.getElem?_append_right (by omega), Nat.sub_self]
    simp only [List.getElem?_cons_zero, Bool.and_eq_true]
    refine ⟨he, ?_⟩
    rw [ls l e _ _ (Nat.le_refl _)]
    unfold cO at ha
    cases hn : l.length with
    | zero => rfl
    | succ j =>
      show (match l[j]? with | some d => decide (d.At < e.At) | none => false) = true
      rw [List.getLast?_eq_getElem?, hn, Nat.add_sub_cancel, List.getElem?_eq_getElem (by omega)] at ha
      rw [List.getElem?_eq_getElem (by omega)]
      simpa using ha
theorem pd (l : List GEv) (e : GEv) : cO (l ++ [e]) = e.At := by unfold cO; simp
structure Run (i : Nat) (evs : List GEv) (codes : List Int) : Prop where
  ok : ge evs = true
  len : evs.length = min i 24
  late : 0 ≤ cO evs ∧ cO evs ≤ 20 * (evs.length : Int)
  codes : codes = List.replicate (min i 24) 0 ++ List.replicate (i - 24) 2
theorem lZ (c : av) : cy c = true ↔ 0 ≤ c.Sym ∧ c.Sym < 5 ∧ 1 ≤ c.Gap ∧ c.Gap ≤ 20 ∧ 0 ≤ c.Val ∧ c.Val ≤ 100 := by
  unfold cy; simp only [Bool.and_eq_true, decide_eq_true_eq]; omega
theorem rj {i : Nat} {evs : List GEv} {codes : List Int} (h : Run i evs codes) (hf : evs.length = 24) : Run (i + 1) evs (codes ++ [2]) := by
  have h1 := h.len
  refine ⟨h.ok, by omega, h.late, ?_⟩
  rw [h.codes, List.append_assoc, show min i 24 = 24 by omega, show min (i + 1) 24 = 24 by omega, show i + 1 - 24 = (i - 24) + 1 by omega]
  congr 1
  exact List.replicate_succ'.symm
theorem qY {i : Nat} {evs : List GEv} {codes : List Int} (h : Run i evs codes) (hf : ¬ evs.length = 24) {c : av} (hc : cy c = true) : Run (i + 1) (evs ++ [⟨c.Sym, cO evs + c.Gap, c.Val⟩]) (codes ++ [0]) := by
  have h1 := h.len
  have h2 := h.late
  rw [lZ] at hc
  refine ⟨pU h.ok (by omega) ?_ (by show cO evs < cO evs + c.Gap; omega), by rw [List.length_append, List.length_singleton]; omega, by rw [pd, List.length_append, List.length_singleton]; dsimp only; omega, ?_⟩
  · unfold ly
    simp only [Bool.and_eq_true, decide_eq_true_eq]
    omega
  · rw [h.codes, show min i 24 = i by omega, show min (i + 1) 24 = i + 1 by omega, show i - 24 = 0 by omega, show i + 1 - 24 = 0 by omega, List.replicate_succ']
    simp
theorem pc (k : Nat) (hk : 2000 ≤ k) (l : List GEv) (ok : ge l = true) (hl : l.length ≤ 24) (c : av) (hc : cy c = true) (ha : -1000000 ≤ cO l + c.Gap ∧ cO l + c.Gap ≤ 1000) :
    eI.f k (cn l) c.Sym c.Gap c.Val = some (if l.length = 24 then (cn l, 2, []) else (cn (l ++ [⟨c.Sym, cO l + c.Gap, c.Val⟩]), 0, [])) := by
  unfold eI.f
  rw [rL k hk l ok]
  simp only [Option.bind_some, if_true]
  rw [show (⟨c.Sym, c.Gap, c.Val⟩ : av) = c from rfl, jg, hc]
  simp only [Option.bind_some, if_true]
  rw [rh k hk l hl c ha]
  by_cases h : l.length = 24
  · rw [if_pos h]; rfl
  · rw [if_neg h]; rfl
theorem qR (k : Nat) (hk : 2000 ≤ k) (l : List av) (hl : l.length ≤ 1000) (hc : ∀ c ∈ l, cy c = true) : ∀ (d n i : Nat) (evs : List GEv) (codes : List Int), i + d = l.length → d < n → Run i evs codes →
    ∃ evs' codes', aY.l0 k l n [] [] evs eV [] codes (i : Int) = some ([], [], evs', eV, [], codes') ∧ Run l.length evs' codes' := by
  intro d
  induction d with
  | zero =>
    intro n i evs codes hi hn h
    obtain ⟨n, rfl⟩ : ∃ m, n = m + 1 := ⟨n - 1, by omega⟩
    rw [aY.l0, if_neg (by omega)]
    exact ⟨_, _, rfl, by rwa [show l.length = i by omega]⟩
  | succ d ih =>
    intro n i evs codes hi hn h
    obtain ⟨n, rfl⟩ : ∃ m, n = m + 1 := ⟨n - 1, by omega⟩
    have hlt : i < l.length := by omega
    have hci := hc l[i] (List.getElem_mem hlt)
    have h1 := h.len
    have h2 := h.late
    have hcl : codes.length = i := by rw [h.codes]; simp; omega
    have hcc := (lZ _).1 hci
    rw [aY.l0, if_pos (by omega), aG (by omega), Int.toNat_natCast, List.getElem?_eq_getElem hlt]
    simp only [Option.bind_some]
    rw [show (⟨[], [], evs, eV, []⟩ : GEng) = cn evs from rfl, pc k hk evs h.ok (by omega) l[i] hci (by omega)]
    simp only [Option.bind_some]
    rw [aG (by omega), wrS i (by omega)]
    by_cases hf : evs.length = 24
    · rw [if_pos hf]
      exact ih n (i + 1) evs (codes ++ [2]) (by omega) (by omega) (rj h hf)
    · rw [if_neg hf]
      exact ih n (i + 1) _ (codes ++ [0]) (by omega) (by omega) (qY h hf hci)
theorem qx (k : Nat) (hk : 2000 ≤ k) (l : List av) (hl : l.length ≤ 1000) (h : eY l = true) : ∃ evs codes, aY.f k [] l = some (cn evs, codes) ∧ Run l.length evs codes := by
  obtain ⟨n, rfl⟩ : ∃ n, k = n + 5 := ⟨k - 5, by omega⟩
  have hc : ∀ c ∈ l, cy c = true := by
    unfold eY at h
    simp only [Bool.and_eq_true, List.all_eq_true] at h
    exact h.2
  obtain ⟨evs, codes, e, r⟩ := qR (n + 5) hk l hl hc l.length (n + 5) 0 [] [] (by omega) (by omega) ⟨rfl, rfl, by decide, rfl⟩
  refine ⟨evs, codes, ?_, r⟩
  unfold aY.f
  rw [iF (n + 4)]
  simp only [Option.bind_some, if_true]
  rw [eL _ hk l hl, h]
  simp only [Option.bind_some, if_true]
  rw [rc (n + 4)]
  simp only [Option.bind_some]
  show (aY.l0 (n + 5) l (n + 5) [] [] [] eV [] [] 0).bind _ = _
  rw [show (0 : Int) = ((0 : Nat) : Int) from rfl, e]
  rfl
theorem pg (k : Nat) (hk : 2000 ≤ k) (l : List av) (hl : l.length ≤ 1000) (h : eY l = false) : aY.f k [] l = some (⟨[], [], [], [], []⟩, []) := by
  obtain ⟨n, rfl⟩ : ∃ n, k = n + 5 := ⟨k - 5, by omega⟩
  unfold aY.f
  rw [iF (n + 4)]
  simp only [Option.bind_some, if_true]
  rw [eL _ hk l hl, h]
  rfl
theorem qa (k : Nat) (x : GEng × List Int) (hx : ∀ y ∈ x.2, y = 0 ∨ y = 2) (hl : x.2.length ≤ 1000) : ∀ (d n i s : Nat), i + d = x.2.length → d < n → s + d ≤ 1000000 →
    aK.l0 k x n (s : Int) (i : Int) = some (.ok ((s + (x.2.drop i).count 0 : Nat) : Int)) := by
  intro d
  induction d with
  | zero =>
    intro n i s hi hn hs
    obtain ⟨n, rfl⟩ : ∃ m, n = m + 1 := ⟨n - 1, by omega⟩
    rw [aK.l0, if_neg (by omega), List.drop_eq_nil_of_le (by omega)]
    rfl
  | succ d ih =>
    intro n i s hi hn hs
    obtain ⟨n, rfl⟩ : ∃ m, n = m + 1 := ⟨n - 1, by omega⟩
    have hlt : i < x.2.length := by omega
    rw [aK.l0, if_pos (by omega), aG (by omega), aG (by omega), Int.toNat_natCast, List.getElem?_eq_getElem hlt, List.drop_eq_getElem_cons hlt]
    simp only [Option.bind_some]
    by_cases h0 : x.2[i] = 0
    · rw [if_pos h0, wrS s (by omega), wrS i (by omega), ih n (i + 1) (s + 1) (by omega) (by omega) (by omega), h0, List.count_cons_self]
      congr 3
      omega
    · have h2 : x.2[i] = 2 := (hx _ (List.getElem_mem hlt)).resolve_left h0
      rw [if_neg h0, aG (by omega), aG (by omega), if_pos h2, wrS i (by omega), ih n (i + 1) s (by omega) (by omega) (by omega), List.count_cons_of_ne (by rw [h2]; decide)]
theorem nQ (p0 : List Int) (h0 : ∀ y ∈ p0, 0 ≤ y ∧ y ≤ 255) : ∃ k, aK.f k p0 = some true := by
  obtain ⟨k, hk⟩ : ∃ k : Nat, k = 3000 := ⟨_, rfl⟩
  refine ⟨k, ?_⟩
  unfold aK.f
  by_cases c0 : 1048576 < (p0.length : Int)
  · rw [if_pos c0]
  rw [if_neg c0]
  obtain ⟨l, e1, e2⟩ := pG k (by omega) p0 (by omega) h0
  have I := eL k (by omega) l (by omega)
  have S := nt k (by omega) l (by omega)
  rw [e1]
  simp only [Option.bind_some]
  rw [I]
  simp only [Option.bind_some]
  rw [S]
  simp only [Option.bind_some]
  cases ht : eY l
  · simp only [Bool.false_eq_true, if_false]
    rw [pg k (by omega) l (by omega) ht]
    rfl
  · simp only [if_true]
    obtain ⟨evs, codes, e3, r⟩ := qx k (by omega) l (by omega) ht
    rw [aG (by omega), aG (by omega), e3]
    simp only [Option.bind_some]
    have hc := r.codes
    have h1 := r.len
    have hx : ∀ y ∈ codes, y = 0 ∨ y = 2 := by
      rw [hc]
      intro y hy
      rcases List.mem_append.1 hy with h | h
      · exact .inl (List.eq_of_mem_replicate h)
      · exact .inr (List.eq_of_mem_replicate h)
    have hlen : codes.length = l.length := by rw [hc]; simp; omega
    have hcount : codes.count 0 = min l.length 24 := by
      rw [hc, List.count_append, List.count_replicate, List.count_replicate]
      simp
    have L := qa k (cn evs, codes) hx (by show codes.length ≤ 1000; omega) codes.length k 0 0 (by show 0 + codes.length = codes.length; omega) (by omega) (by omega)
    rw [show ((0 : Nat) : Int) = 0 from rfl] at L
    rw [L]
    simp only [Option.bind_some]
    rw [eL k (by omega) _ (by simp; omega)]
    have hb : eY (([] ++ l) ++ [⟨0, 21, 0⟩]) = false := by
      unfold eY
      rw [List.all_append]
      simp [cy]
    rw [hb]
    simp only [Option.bind_some, Bool.false_eq_true, if_false]
    rw [Nat.zero_add, List.drop_zero]
    show (if ((codes.count 0 : Nat) : Int) = ((evs.length : Nat) : Int) then (if ((codes.length : Nat) : Int) = ((l.length : Nat) : Int) then (if ((codes.count 0 : Nat) : Int) = ((l.length : Nat) : Int) then some true else some (((codes.count 0 : Nat) : Int) == 24)) else some false) else some false) = some true
    rw [hcount, if_pos (by omega), if_pos (by omega)]
    by_cases hq : ((min l.length 24 : Nat) : Int) = ((l.length : Nat) : Int)
    · rw [if_pos hq]
    · rw [if_neg hq]
      rw [show min l.length 24 = 24 by omega]
      rfl
end Go.Proofs.YtlbnmldopjadoaaGreat
