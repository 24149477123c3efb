/- Plain lemmas about the functions over data; first part. -/
import Derived.Test.YtlbnmldopjadoaaGreatL
namespace Go.Proofs.YtlbnmldopjadoaaGreat
open Go Go.Vm
set_option linter.unusedVariables false
set_option linter.unusedSimpArgs false
theorem wr (x : Int) (h : -9223372036854775808 ≤ x ∧ x < 9223372036854775808) : IntKind.wrap .i64 x = x := wU h
theorem wrS (i : Nat) (h : i < 4611686018427387904) : IntKind.wrap .i64 ((i : Int) + 1) = ((i + 1 : Nat) : Int) := by rw [wr _ (by omega)]; simp
theorem wrP (i : Nat) (h : i < 4611686018427387904) : IntKind.wrap .i64 (((i + 1 : Nat) : Int) - 1) = (i : Int) := by rw [wr _ (by omega)]; simp
/-- from some number of rounds on -/
def Evn {α : Type} (g : Nat → Option α) (r : α) : Prop := ∃ K, ∀ k, K ≤ k → g k = some r
theorem Evn.const {α : Type} {g : Option α} {r : α} (h : g = some r) : Evn (fun _ => g) r := ⟨0, fun _ _ => h⟩
theorem Evn.bind {α β : Type} {g : Nat → Option α} {f : Nat → α → Option β} {r : α} {s : β} (h1 : Evn g r) (h2 : Evn (fun k => f k r) s) : Evn (fun k => (g k).bind (f k)) s := by
  obtain ⟨K1, h1⟩ := h1
  obtain ⟨K2, h2⟩ := h2
  exact ⟨K1 + K2, fun k hk => by simp only; rw [h1 k (by omega)]; exact h2 k (by omega)⟩
theorem Evn.get {α : Type} {g : Nat → Option α} {r : α} (h : Evn g r) : ∃ k, g k = some r := h.elim fun K h => ⟨K, h K (Nat.le_refl _)⟩
theorem Evn.req {α : Type} {c : Prop} [Decidable c] {g : Nat → Option α} {r : α} (hc : c) (h : Evn g r) : Evn (fun k => Vm.req c (g k)) r := by
  obtain ⟨K, h⟩ := h
  exact ⟨K, fun k hk => by simp only; rw [af hc]; exact h k hk⟩
theorem Evn.neg {α : Type} {c : Prop} [Decidable c] {g g' : Nat → Option α} {r : α} (hc : ¬ c) (h : Evn g' r) : Evn (fun k => if c then g k else g' k) r := by
  obtain ⟨K, h⟩ := h
  exact ⟨K, fun k hk => by simp only; rw [if_neg hc]; exact h k hk⟩
/- events -/
def gQ (e : GEv) : Bool := decide (0 ≤ e.Sym) && decide (e.Sym < 5) && decide (1 ≤ e.At) && decide (e.At ≤ 1000) && decide (0 ≤ e.Val) && decide (e.Val ≤ 100)
theorem rr (e : GEv) : iF.f e = some (gQ e) := by
  unfold iF.f gQ
  repeat' split
  all_goals (rw [Option.some.injEq, Bool.eq_iff_iff]; simp; omega)
theorem ri (a b c : Int) : d9.f a b c = some (decide (b ≤ a) && decide (a ≤ c)) := by
  unfold d9.f
  split
  all_goals (rw [Option.some.injEq, Bool.eq_iff_iff]; simp; omega)
theorem sv (e : GEv) : iN.f e = some (gQ e) := by
  unfold iN.f eh.f gQ
  simp only [ri, Option.bind_some]
  repeat' split
  all_goals (rw [Option.some.injEq, Bool.eq_iff_iff]; simp_all; try omega)
def fI (l : List GEv) (a : Int) : Nat → Bool
  | 0 => true
  | j + 1 => match l[j]? with
    | some d => decide (d.At < a)
    | none => false
def fm (l : List GEv) (i : Nat) : Bool := match l[i]? with
  | some e => gQ e && fI l e.At i
  | none => false
def dr (l : List GEv) : Bool := (List.range' 0 l.length).all (fm l) && decide (l.length ≤ 24)
theorem oM (k : Nat) (l : List GEv) (hl : l.length < 4611686018427387904) : ∀ (d n i : Nat), i + d = l.length → d < n →
    aT.l0 k l n (i : Int) = some (if (List.range' i d).all (fm l) then .ok () else .error false) := by
  intro d
  induction d with
  | zero =>
    intro n i hi hn
    obtain ⟨n, rfl⟩ : ∃ m, n = m + 1 := ⟨n - 1, by omega⟩
    rw [aT.l0, if_neg (by omega)]; simp
  | succ d ih =>
    intro n i hi hn
    obtain ⟨n, rfl⟩ : ∃ m, n = m + 1 := ⟨n - 1, by omega⟩
    have hlt : i < l.length := by omega
    have hnext := ih n (i + 1) (by omega) (by omega)
    rw [aT.l0, if_pos (by omega), af (by omega), Int.toNat_natCast, List.getElem?_eq_getElem hlt]
    simp only [Option.bind_some, rr, List.range'_succ, List.all_cons]
    have hg : fm l i = (gQ l[i] && fI l l[i].At i) := by unfold fm; rw [List.getElem?_eq_getElem hlt]
    rw [hg]
    cases hok : gQ l[i]
    · simp
    · cases i with
      | zero => simp only [if_true]; rw [if_neg (by omega), wrS 0 (by omega), hnext]; simp only [fI, Bool.true_and]
      | succ j =>
        simp only [if_true]
        rw [if_pos (by omega), af (by omega)]
        simp only [wrP j (by omega)]
        rw [af (by omega), Int.toNat_natCast, List.getElem?_eq_getElem (show j < l.length by omega)]
        simp only [Option.bind_some]
        have hp : fI l l[j + 1].At (j + 1) = decide (l[j].At < l[j + 1].At) := by simp only [fI, List.getElem?_eq_getElem (show j < l.length by omega)]
        rw [hp]
        by_cases h : l[j].At < l[j + 1].At
        · rw [if_pos h, wrS (j + 1) (by omega), hnext]; simp only [h, decide_true, Bool.true_and]
        · rw [if_neg h]; simp only [h, decide_false, Bool.true_and, Bool.false_and]; rfl
theorem pn (k : Nat) (l : List GEv) (hl : l.length < 4611686018427387904) : ∀ (d n i : Nat), i + d = l.length → d < n →
    cw.l0 k l n (i : Int) = some (if (List.range' i d).all (fm l) then .ok () else .error false) := by
  intro d
  induction d with
  | zero =>
    intro n i hi hn
    obtain ⟨n, rfl⟩ : ∃ m, n = m + 1 := ⟨n - 1, by omega⟩
    rw [cw.l0, if_neg (by omega)]; simp
  | succ d ih =>
    intro n i hi hn
    obtain ⟨n, rfl⟩ : ∃ m, n = m + 1 := ⟨n - 1, by omega⟩
    have hlt : i < l.length := by omega
    have hnext := ih n (i + 1) (by omega) (by omega)
    rw [cw.l0, if_pos (by omega), af (by omega), Int.toNat_natCast, List.getElem?_eq_getElem hlt]
    simp only [Option.bind_some, sv, List.range'_succ, List.all_cons]
    have hg : fm l i = (gQ l[i] && fI l l[i].At i) := by unfold fm; rw [List.getElem?_eq_getElem hlt]
    rw [hg]
    cases hok : gQ l[i]
    · simp
    · cases i with
      | zero => simp only [if_true]; rw [if_neg (by omega), wrS 0 (by omega), hnext]; simp only [fI, Bool.true_and]
      | succ j =>
        simp only [if_true]
        rw [if_pos (by omega)]
        simp only [wrP j (by omega)]
        rw [af (by omega), Int.toNat_natCast, List.getElem?_eq_getElem (show j < l.length by omega)]
        simp only [Option.bind_some]
        have hp : fI l l[j + 1].At (j + 1) = decide (l[j].At < l[j + 1].At) := by simp only [fI, List.getElem?_eq_getElem (show j < l.length by omega)]
        rw [hp]
        by_cases h : l[j].At < l[j + 1].At
        · rw [if_pos h, wrS (j + 1) (by omega), hnext]; simp only [h, decide_true, Bool.true_and]
        · rw [if_neg h]; simp only [h, decide_false, Bool.true_and, Bool.false_and]; rfl
theorem mA {l : List GEv} (h : dr l = true) : l.length ≤ 24 := by
  unfold dr at h; simp at h; exact h.2
theorem om {l : List GEv} (h : dr l = true) {e : GEv} (he : e ∈ l) : gQ e = true := by
  unfold dr at h
  simp only [Bool.and_eq_true, List.all_eq_true, List.mem_range', decide_eq_true_eq] at h
  obtain ⟨i, hi⟩ := List.mem_iff_getElem?.1 he
  have hlt : i < l.length := by
    rcases Nat.lt_or_ge i l.length with h1 | h1
    · exact h1
    · rw [List.getElem?_eq_none h1] at hi; cases hi
  have := h.1 i ⟨i, hlt, by omega⟩
  unfold fm at this
  rw [hi] at this
  simp only [Bool.and_eq_true] at this
  exact this.1
def cD : List Int → List Int → Int
  | [], [] => 0
  | [], _ :: _ => -1
  | _ :: _, [] => 1
  | x :: xs, y :: ys => if x < y then -1 else if y < x then 1 else cD xs ys
theorem nu : ∀ l, cD l l = 0
  | [] => rfl
  | x :: xs => by simp [cD, nu xs]
theorem xA (a b : Int) : gm.f a b = some (if a < b then -1 else if b < a then 1 else 0) := by
  unfold gm.f iG.f
  by_cases h : a < b
  · simp [h]
  · by_cases h2 : b < a <;> simp [h, h2]
theorem qY (k : Nat) (a b : List Int) (ha : a.length < 4611686018427387904) : ∀ (d n i : Nat), i + d = a.length → i ≤ b.length → d < n →
    ((bQ.l0 k a b n (i : Int)).bind fun o => match o with
      | .ok _ => (if (a.length : Int) < (b.length : Int) then some (-1) else some 0)
      | .error r => some r) = some (cD (a.drop i) (b.drop i)) := by
  intro d
  induction d with
  | zero =>
    intro n i hi hb hn
    obtain ⟨n, rfl⟩ : ∃ m, n = m + 1 := ⟨n - 1, by omega⟩
    rw [bQ.l0, if_neg (by omega), List.drop_eq_nil_of_le (by omega)]
    simp only [Option.bind_some]
    cases h : b.drop i with
    | nil =>
      have : b.length ≤ i := List.drop_eq_nil_iff.1 h
      rw [if_neg (by omega)]; rfl
    | cons y ys =>
      have : i < b.length := by
        rcases Nat.lt_or_ge i b.length with h1 | h1
        · exact h1
        · rw [List.drop_eq_nil_of_le h1] at h; cases h
      rw [if_pos (by omega)]; rfl
  | succ d ih =>
    intro n i hi hb hn
    obtain ⟨n, rfl⟩ : ∃ m, n = m + 1 := ⟨n - 1, by omega⟩
    have hlt : i < a.length := by omega
    rw [bQ.l0, if_pos (by omega), List.drop_eq_getElem_cons hlt, af (by omega), Int.toNat_natCast, List.getElem?_eq_getElem hlt]
    simp only [Option.bind_some]
    by_cases h : i < b.length
    · rw [if_pos (by omega), af (by omega), List.getElem?_eq_getElem h, List.drop_eq_getElem_cons h]
      simp only [Option.bind_some, cD, xA]
      by_cases h1 : a[i] < b[i]
      · rw [if_pos h1, if_pos h1, if_neg (by decide)]; rfl
      · rw [if_neg h1, if_neg h1]
        by_cases h2 : b[i] < a[i]
        · rw [if_pos h2, if_pos h2, if_neg (by decide)]; rfl
        · rw [if_neg h2, if_neg h2, if_pos rfl, wrS i (by omega)]
          exact ih n (i + 1) (by omega) (by omega) (by omega)
    · rw [if_neg (by omega), List.drop_eq_nil_of_le (show b.length ≤ i by omega)]
      simp only [Option.bind_some, cD]
theorem sM (a b : List Int) (ha : a.length < 4611686018427387904) (k : Nat) (hk : a.length + 1 ≤ k) : bQ.f k a b = some (cD a b) := by
  unfold bQ.f
  have := qY k a b ha a.length k 0 (by omega) (by omega) (by omega)
  rw [show ((0 : Nat) : Int) = 0 from rfl] at this
  exact this
def sgn (b : Bool) : Int := if b then -1 else 1
def cn (a b : GOcc) : Int := if a.To = b.To then (if a.From = b.From then cD a.Ids b.Ids else sgn (decide (a.From < b.From))) else sgn (decide (a.To < b.To))
def cf (a b : GOcc) : Bool := decide (cn a b < 0)
theorem iy (a : GOcc) : cn a a = 0 := by simp [cn, nu]
theorem jY (a b : GOcc) (ha : a.Ids.length < 4611686018427387904) (k : Nat) (hk : a.Ids.length + 1 ≤ k) : cq.f k a b = some (cn a b) := by
  unfold cq.f cn iD.f sgn
  rw [sM _ _ ha k hk]
  split
  · split
    · rfl
    · by_cases h : a.From < b.From <;> simp [h]
  · by_cases h : a.To < b.To <;> simp [h]
/-- numbers that rise from above p, below 24 -/
def wH : Int → List Int → Bool
  | _, [] => true
  | p, x :: xs => decide (p < x) && decide (x ≤ 23) && wH x xs
def occOk (o : GOcc) : Bool := decide (1 ≤ o.From) && decide (o.From ≤ o.To) && decide (o.To ≤ 2000) && decide (1 ≤ o.Ids.length) && wH (-1) o.Ids
def wC (l : List GOcc) (m : Nat) : Prop := ∀ o ∈ l, o.Ids.length ≤ m
theorem nE : ∀ a b, cD a b = 0 → a = b
  | [], [], _ => rfl
  | [], _ :: _, h => by simp [cD] at h
  | _ :: _, [], h => by simp [cD] at h
  | x :: xs, y :: ys, h => by
    unfold cD at h
    split at h
    · cases h
    split at h
    · cases h
    rw [nE xs ys h, show x = y by omega]
theorem nr : ∀ a b, cD a b = - cD b a
  | [], [] => rfl
  | [], _ :: _ => rfl
  | _ :: _, [] => rfl
  | x :: xs, y :: ys => by
    unfold cD
    by_cases h1 : x < y
    · rw [if_pos h1, if_neg (by omega), if_pos h1]
    by_cases h2 : y < x
    · rw [if_neg h1, if_pos h2, if_pos h2]; rfl
    rw [if_neg h1, if_neg h2, if_neg h2, if_neg h1]; exact nr xs ys
theorem lS : ∀ a b c, cD a b < 0 → cD b c < 0 → cD a c < 0
  | [], [], _, h, _ => by simp [cD] at h
  | _ :: _, [], _, h, _ => by simp [cD] at h
  | _, _ :: _, [], _, h => by simp [cD] at h
  | [], _ :: _, _ :: _, _, _ => by simp [cD]
  | x :: xs, y :: ys, z :: zs, h, k => by
    unfold cD at h k ⊢
    by_cases h1 : x < y
    · by_cases k1 : y < z
      · rw [if_pos (by omega)]; omega
      · rw [if_neg k1] at k
        split at k
        · omega
        · rw [if_pos (by omega)]; omega
    · rw [if_neg h1] at h
      split at h
      · omega
      · by_cases k1 : y < z
        · rw [if_pos (by omega)]; omega
        · rw [if_neg k1] at k
          split at k
          · omega
          · rw [if_neg (by omega), if_neg (by omega)]; exact lS xs ys zs h k
theorem kw {a b : GOcc} (h : cn a b = 0) : a = b := by
  unfold cn at h
  split at h
  · split at h
    · obtain ⟨a1, a2, a3⟩ := a; obtain ⟨b1, b2, b3⟩ := b
      have := nE _ _ h
      simp_all
    · unfold sgn at h; split at h <;> cases h
  · unfold sgn at h; split at h <;> cases h
theorem sN (a b : GOcc) : cn a b = - cn b a := by
  unfold cn sgn
  by_cases h1 : a.To = b.To
  · rw [if_pos h1, if_pos h1.symm]
    by_cases h2 : a.From = b.From
    · rw [if_pos h2, if_pos h2.symm]; exact nr _ _
    · rw [if_neg h2, if_neg (show ¬ b.From = a.From from fun e => h2 e.symm)]
      by_cases h3 : a.From < b.From
      · have : ¬ b.From < a.From := by omega
        simp [h3, this]
      · have : b.From < a.From := by omega
        simp [h3, this]
  · rw [if_neg h1, if_neg (show ¬ b.To = a.To from fun e => h1 e.symm)]
    by_cases h3 : a.To < b.To
    · have : ¬ b.To < a.To := by omega
      simp [h3, this]
    · have : b.To < a.To := by omega
      simp [h3, this]
theorem uS (a b : GOcc) : cn a b < 0 ↔ a.To < b.To ∨ (a.To = b.To ∧ (a.From < b.From ∨ (a.From = b.From ∧ cD a.Ids b.Ids < 0))) := by
  unfold cn sgn
  by_cases h1 : a.To = b.To
  · rw [if_pos h1]
    by_cases h2 : a.From = b.From
    · rw [if_pos h2]; simp [h1, h2]
    · rw [if_neg h2]
      by_cases h3 : a.From < b.From
      · simp [h1, h3]
      · simp [h1, h2, h3]
  · rw [if_neg h1]
    by_cases h3 : a.To < b.To
    · simp [h3]
    · simp [h1, h3]
theorem lD {a b c : GOcc} (h : cf a b = true) (k : cf b c = true) : cf a c = true := by
  unfold cf at *
  simp only [decide_eq_true_eq] at *
  rw [uS] at *
  rcases h with h | ⟨h1, h⟩
  · rcases k with k | ⟨k1, k⟩
    · exact .inl (by omega)
    · exact .inl (by omega)
  · rcases k with k | ⟨k1, k⟩
    · exact .inl (by omega)
    · refine .inr ⟨by omega, ?_⟩
      rcases h with h | ⟨h2, h⟩
      · rcases k with k | ⟨k2, k⟩
        · exact .inl (by omega)
        · exact .inl (by omega)
      · rcases k with k | ⟨k2, k⟩
        · exact .inl (by omega)
        · exact .inr ⟨by omega, lS _ _ _ h k⟩
theorem pC (a : GOcc) : cf a a = false := by unfold cf; rw [iy]; rfl
theorem re {a b : GOcc} (h : cf a b = false) (hne : a ≠ b) : cf b a = true := by
  unfold cf at *
  simp only [decide_eq_true_eq, decide_eq_false_iff_not] at *
  have := sN a b
  have : cn a b ≠ 0 := fun e => hne (kw e)
  omega
/-- an ordered list -/
def Asc (l : List GOcc) : Prop := l.Pairwise fun a b => cf a b = true
def cd : List GOcc → GOcc → List GOcc
  | [], o => [o]
  | x :: l, o => if cf x o then x :: cd l o else if cn x o = 0 then x :: l else o :: x :: l
def bV (l m : List GOcc) : List GOcc := m.foldl cd l
theorem dU {x o : GOcc} : ∀ {l : List GOcc}, x ∈ cd l o ↔ x ∈ l ∨ x = o
  | [] => by simp [cd]
  | y :: l => by
    unfold cd
    split
    · simp only [List.mem_cons, dU (l := l), or_assoc]
    · split
      · rename_i h
        have := kw h
        subst this
        simp only [List.mem_cons]
        constructor
        · exact fun h => .inl h
        · rintro (h | rfl)
          · exact h
          · exact .inl rfl
      · simp only [List.mem_cons]
        constructor
        · rintro (h | h)
          · exact .inr h
          · exact .inl h
        · rintro (h | h)
          · exact .inr h
          · exact .inl h
theorem im {o : GOcc} : ∀ {l : List GOcc}, Asc l → Asc (cd l o)
  | [], _ => by simp [cd, Asc]
  | y :: l, h => by
    have h' := List.pairwise_cons.1 h
    unfold cd
    split
    · rename_i h1
      refine List.pairwise_cons.2 ⟨fun z hz => ?_, im h'.2⟩
      rcases dU.1 hz with h2 | rfl
      · exact h'.1 z h2
      · exact h1
    · split
      · exact h
      · rename_i h1 h2
        have h3 : cf o y = true := re (by simpa using h1) (fun e => h2 (by rw [e]; exact iy _))
        refine List.pairwise_cons.2 ⟨fun z hz => ?_, h⟩
        rcases List.mem_cons.1 hz with rfl | h4
        · exact h3
        · exact lD h3 (h'.1 z h4)
theorem ft (o : GOcc) : ∀ l : List GOcc, (cd l o).length ≤ l.length + 1
  | [] => by simp [cd]
  | y :: l => by
    have := ft o l
    unfold cd
    split
    · simp; omega
    · split <;> simp
theorem kf (l : List GOcc) (x : GOcc) (m : List GOcc) : bV l (x :: m) = bV (cd l x) m := rfl
theorem dN : ∀ {m l : List GOcc}, Asc l → Asc (bV l m)
  | [], _, h => h
  | x :: m, l, h => by rw [kf]; exact dN (im h)
theorem bW : ∀ (m l : List GOcc), (bV l m).length ≤ l.length + m.length
  | [], _ => by simp [bV]
  | x :: m, l => by rw [kf]; have := bW m (cd l x); have := ft x l; simp; omega
theorem gW {x : GOcc} : ∀ {m l : List GOcc}, x ∈ bV l m ↔ x ∈ l ∨ x ∈ m
  | [], l => by simp [bV]
  | y :: m, l => by rw [kf, gW, dU, List.mem_cons, or_assoc]
/-- where one stands or would stand -/
def cc (l : List GOcc) (o : GOcc) : Nat := (l.takeWhile fun x => cf x o).length
theorem pN (l : List GOcc) (o : GOcc) : cc l o ≤ l.length := by unfold cc; exact (List.takeWhile_prefix _).length_le
theorem mh (o : GOcc) : ∀ l : List GOcc, cd l o = if ∃ x, l[cc l o]? = some x ∧ cn x o = 0 then l else l.take (cc l o) ++ [o] ++ l.drop (cc l o)
  | [] => by simp [cd, cc]
  | y :: l => by
    unfold cd
    by_cases h : cf y o = true
    · have e : cc (y :: l) o = cc l o + 1 := by unfold cc; rw [List.takeWhile_cons, if_pos h]; rfl
      rw [if_pos h, e, mh o l]
      simp only [List.getElem?_cons_succ, List.take_succ_cons, List.drop_succ_cons]
      split <;> rfl
    · have e : cc (y :: l) o = 0 := by unfold cc; rw [List.takeWhile_cons, if_neg h]; rfl
      rw [if_neg h, e]
      simp only [List.getElem?_cons_zero, List.take_zero, List.drop_zero, Option.some.injEq, exists_eq_left']
      rfl
theorem me {o : GOcc} : ∀ {l : List GOcc} {i : Nat}, i < cc l o → ∃ x, l[i]? = some x ∧ cf x o = true
  | [], i, h => by simp [cc] at h
  | y :: l, i, h => by
    by_cases hy : cf y o = true
    · have e : cc (y :: l) o = cc l o + 1 := by unfold cc; rw [List.takeWhile_cons, if_pos hy]; rfl
      cases i with
      | zero => exact ⟨y, rfl, hy⟩
      | succ i => rw [e] at h; exact me (l := l) (i := i) (by omega)
    · have e : cc (y :: l) o = 0 := by unfold cc; rw [List.takeWhile_cons, if_neg hy]; rfl
      rw [e] at h; omega
theorem rV {l : List GOcc} {o : GOcc} (h : cc l o < l.length) : cf l[cc l o] o = false := by
  induction l with
  | nil => simp at h
  | cons y l ih =>
    by_cases hy : cf y o = true
    · have e : cc (y :: l) o = cc l o + 1 := by unfold cc; rw [List.takeWhile_cons, if_pos hy]; rfl
      have := ih (by rw [e] at h; simpa using h)
      simp only [e, List.getElem_cons_succ]
      exact this
    · have e : cc (y :: l) o = 0 := by unfold cc; rw [List.takeWhile_cons, if_neg hy]; rfl
      simp only [e, List.getElem_cons_zero]
      simpa using hy
theorem xr {l : List GOcc} {o : GOcc} (hs : Asc l) {i : Nat} (h1 : cc l o ≤ i) (h2 : i < l.length) : cf l[i] o = false := by
  have h3 := rV (l := l) (o := o) (by omega)
  rcases Nat.lt_or_ge (cc l o) i with h4 | h4
  · have h5 : cf l[cc l o] l[i] = true := List.pairwise_iff_getElem.1 hs _ _ _ _ h4
    cases h6 : cf l[i] o
    · rfl
    · rw [lD h5 h6] at h3; cases h3
  · have : i = cc l o := by omega
    subst this; exact h3
/-- a loop over a list -/
theorem vw {α σ : Type} (l : List α) (body : σ → α → Option σ) (L : Nat → σ → Int → Option σ) (g : σ → α → σ) (Inv : Nat → σ → Prop)
    (hend : ∀ n s, L (n + 1) s (l.length : Int) = some s)
    (hstep : ∀ n s (i : Nat) (h : i < l.length), L (n + 1) s (i : Int) = (body s l[i]).bind fun s' => L n s' ((i + 1 : Nat) : Int))
    (hbody : ∀ i s (h : i < l.length), Inv i s → body s l[i] = some (g s l[i]) ∧ Inv (i + 1) (g s l[i])) :
    ∀ (d i n : Nat) (s : σ), i + d = l.length → d < n → Inv i s → L n s (i : Int) = some ((l.drop i).foldl g s) ∧ Inv l.length ((l.drop i).foldl g s) := by
  intro d
  induction d with
  | zero =>
    intro i n s hi hn hI
    obtain ⟨n, rfl⟩ : ∃ m, n = m + 1 := ⟨n - 1, by omega⟩
    have e : i = l.length := by omega
    subst e
    rw [hend, List.drop_length]
    exact ⟨rfl, hI⟩
  | succ d ih =>
    intro i n s hi hn hI
    obtain ⟨n, rfl⟩ : ∃ m, n = m + 1 := ⟨n - 1, by omega⟩
    have hlt : i < l.length := by omega
    obtain ⟨h1, h2⟩ := hbody i s hlt hI
    rw [hstep n s i hlt, h1, List.drop_eq_getElem_cons hlt]
    exact ih (i + 1) n _ (by omega) (by omega) h2
theorem er {α σ : Type} (l : List α) (body : σ → α → Option σ) (L : Nat → σ → Int → Option σ) (g : σ → α → σ) (Inv : Nat → σ → Prop)
    (hend : ∀ n s, L (n + 1) s (l.length : Int) = some s)
    (hstep : ∀ n s (i : Nat) (h : i < l.length), L (n + 1) s (i : Int) = (body s l[i]).bind fun s' => L n s' ((i + 1 : Nat) : Int))
    (hbody : ∀ i s (h : i < l.length), Inv i s → body s l[i] = some (g s l[i]) ∧ Inv (i + 1) (g s l[i])) (n : Nat) (s : σ) (hn : l.length < n) (hI : Inv 0 s) :
    L n s 0 = some (l.foldl g s) ∧ Inv l.length (l.foldl g s) := by
  have := vw l body L g Inv hend hstep hbody l.length 0 n s (by omega) hn hI
  simpa using this
/-- the numbers of one are few -/
abbrev Few (o : GOcc) : Prop := o.Ids.length ≤ 1000
abbrev jH (l : List GOcc) : Prop := ∀ o ∈ l, Few o
theorem wK (a b : GOcc) (ha : Few a) (k : Nat) (hk : 1000000000000 ≤ k) : cq.f k a b = some (cn a b) := jY a b (by omega) k (by omega)
theorem xJ (a b : Nat) (h : a + b < 1000000000000000) : IntKind.wrap .i64 (cG .shr .u64 (IntKind.wrap .u64 (IntKind.wrap .i64 ((a : Int) + (b : Int)))) 1) = (((a + b) / 2 : Nat) : Int) := by
  rw [show IntKind.wrap .i64 ((a : Int) + (b : Int)) = (a : Int) + (b : Int) from wr _ (by omega)]
  have e : IntKind.wrap .u64 ((a : Int) + (b : Int)) = (a : Int) + (b : Int) := by
    show ((a : Int) + (b : Int)) % 18446744073709551616 = _
    exact Int.emod_eq_of_lt (by omega) (by omega)
  rw [e]
  have e2 : cG .shr .u64 ((a : Int) + (b : Int)) 1 = ((a : Int) + (b : Int)).fdiv 2 := rfl
  rw [e2, Int.fdiv_eq_ediv_of_nonneg _ (by omega), wr _ (by omega)]
  omega
theorem w4 (k : Nat) (hk : 1000000000000 ≤ k) (l : List GOcc) (o : GOcc) (hl : l.length ≤ 1000000000000) (hf : jH l) (hs : Asc l) : ∀ (d a b n : Nat), b - a ≤ d → a ≤ cc l o → cc l o ≤ b → b ≤ l.length → d < n →
    aE.l0 k (fun y0 y1 => cq.f k y0 y1) l o n (a : Int) (b : Int) = some ((cc l o : Nat) : Int) := by
  intro d
  induction d with
  | zero =>
    intro a b n h1 h2 h3 h4 hn
    obtain ⟨n, rfl⟩ : ∃ m, n = m + 1 := ⟨n - 1, by omega⟩
    rw [aE.l0, if_neg (by omega), show a = cc l o by omega]
  | succ d ih =>
    intro a b n h1 h2 h3 h4 hn
    obtain ⟨n, rfl⟩ : ∃ m, n = m + 1 := ⟨n - 1, by omega⟩
    by_cases h : a < b
    · have hm : (a + b) / 2 < l.length := by omega
      rw [aE.l0, if_pos (by omega), xJ a b (by omega), af (by omega), af (by omega), Int.toNat_natCast, List.getElem?_eq_getElem hm]
      simp only [Option.bind_some, wK _ o (hf _ (List.getElem_mem hm)) k hk]
      by_cases hc : cn l[(a + b) / 2] o < 0
      · rw [if_pos hc, wrS _ (by omega)]
        refine ih _ b n (by omega) ?_ h3 h4 (by omega)
        rcases Nat.lt_or_ge ((a + b) / 2) (cc l o) with h5 | h5
        · omega
        · have := xr hs h5 hm
          unfold cf at this
          simp at this
          omega
      · rw [if_neg hc]
        refine ih a _ n (by omega) h2 ?_ (by omega) (by omega)
        rcases Nat.lt_or_ge ((a + b) / 2) (cc l o) with h5 | h5
        · obtain ⟨x, e1, e2⟩ := me h5
          rw [List.getElem?_eq_getElem hm, Option.some.injEq] at e1
          subst e1
          unfold cf at e2
          simp at e2
          omega
        · exact h5
    · rw [aE.l0, if_neg (by omega), show a = cc l o by omega]
theorem ua (k : Nat) (hk : 1000000000000 ≤ k) (l : List GOcc) (o : GOcc) (hl : l.length ≤ 100000000000) (hf : jH l) (hs : Asc l) :
    aE.f (fun y0 y1 => cq.f k y0 y1) k l o = some (((cc l o : Nat) : Int), decide (∃ x, l[cc l o]? = some x ∧ cn x o = 0)) := by
  unfold aE.f
  have hr := pN l o
  have := w4 k hk l o (by omega) hf hs l.length 0 l.length k (by omega) (by omega) hr (Nat.le_refl _) (by omega)
  rw [show ((0 : Nat) : Int) = 0 from rfl] at this
  rw [this]
  simp only [Option.bind_some]
  by_cases h : cc l o < l.length
  · rw [if_pos (by omega), af (by omega), Int.toNat_natCast, List.getElem?_eq_getElem h]
    simp only [Option.bind_some, wK _ o (hf _ (List.getElem_mem h)) k hk, Option.some.injEq, Prod.mk.injEq, true_and]
    rw [Bool.eq_iff_iff]
    simp
  · rw [if_neg (by omega), List.getElem?_eq_none (by omega)]
    simp
theorem gd (k : Nat) (hk : 1000000000000 ≤ k) (l : List GOcc) (o : GOcc) (hl : l.length ≤ 100000000000) (hf : jH l) (hs : Asc l) : c9.f k l o = some (cd l o) := by
  unfold c9.f
  rw [ua k hk l o hl hf hs]
  simp only [Option.bind_some]
  have hr := pN l o
  by_cases h : ∃ x, l[cc l o]? = some x ∧ cn x o = 0
  · rw [if_pos (by simpa using h), mh, if_pos h]
  · rw [if_neg (by simpa using h), mh, if_neg h]
    unfold gT.f fi.f
    rw [af (by omega)]
    simp only [Option.bind_some]
    rw [af (by omega), af (by omega), af (show [o].length = 1 from rfl), af (by omega)]
    rfl
theorem pP (o : GOcc) (h : Few o) : dn.f o = some o := by
  unfold dn.f; exact af (by omega)
theorem vE {l : List GOcc} {o : GOcc} (h : jH l) (ho : Few o) : jH (cd l o) := fun x hx => by
  rcases dU.1 hx with h1 | rfl
  · exact h x h1
  · exact ho
theorem bS (k : Nat) (hk : 1000000000000 ≤ k) (l m : List GOcc) (hl : l.length + m.length ≤ 90000000000) (hf : jH l) (hm : jH m) (hs : Asc l) : aL.f k l m = some (bV l m) := by
  unfold aL.f
  have := er m (fun s e => c9.f k s e) (aL.l0 k m) cd (fun i s => s.length ≤ l.length + i ∧ jH s ∧ Asc s)
    (fun n s => by rw [aL.l0, if_neg (by omega)])
    (fun n s i h => by rw [aL.l0, if_pos (by omega), af (by omega), Int.toNat_natCast, List.getElem?_eq_getElem h]; simp only [Option.bind_some]; rw [wrS i (by omega)])
    (fun i s h hI => ⟨gd k hk s _ (by omega) hI.2.1 hI.2.2, by have := ft m[i] s; omega, vE hI.2.1 (hm _ (List.getElem_mem h)), im hI.2.2⟩)
    k l (by omega) ⟨by omega, hf, hs⟩
  rw [this.1]; rfl
theorem vi {α : Type} (l acc : List α) : l.foldl (fun s e => s ++ [e]) acc = acc ++ l := by
  induction l generalizing acc with
  | nil => simp
  | cons x l ih => rw [List.foldl_cons, ih]; simp
theorem tp (k : Nat) (hk : 1000000000000 ≤ k) (l : List GOcc) (hl : l.length ≤ 90000000000) (hf : jH l) : bR.f k l = some l := by
  unfold bR.f
  have := er l (fun s e => (dn.f e).bind fun x28 => (req ((s.length + 1) * 40 ≤ 140737488355328) (some (s ++ [x28])))) (bR.l0 k l) (fun s e => s ++ [e]) (fun i s => s.length = i)
    (fun n s => by rw [bR.l0, if_neg (by omega)])
    (fun n s i h => by
      rw [bR.l0, if_pos (by omega), af (by omega), Int.toNat_natCast, List.getElem?_eq_getElem h]; simp only [Option.bind_some]; rw [wrS i (by omega), pP _ (hf _ (List.getElem_mem h))]; simp only [Option.bind_some]
      unfold req; split <;> rfl)
    (fun i s h hI => ⟨by rw [pP _ (hf _ (List.getElem_mem h))]; simp only [Option.bind_some]; rw [af (by omega)], by simp [hI]⟩)
    k [] (by omega) rfl
  rw [this.1, vi]; rfl
/-- numbers that rise -/
abbrev Up (l : List Int) : Prop := l.Pairwise fun a b => a < b
theorem ve : ∀ {a b : List Int}, Up a → Up b → (∀ x, x ∈ a ↔ x ∈ b) → a = b
  | [], [], _, _, _ => rfl
  | [], y :: b, _, _, h => by have := (h y).2 (by simp); simp at this
  | x :: a, [], _, _, h => by have := (h x).1 (by simp); simp at this
  | x :: a, y :: b, ha, hb, h => by
    obtain ⟨a1, a2⟩ := List.pairwise_cons.1 ha
    obtain ⟨b1, b2⟩ := List.pairwise_cons.1 hb
    have e : x = y := by
      have h1 := (h x).1 (by simp)
      have h2 := (h y).2 (by simp)
      rcases List.mem_cons.1 h1 with h1 | h1
      · exact h1
      · rcases List.mem_cons.1 h2 with h2 | h2
        · exact h2.symm
        · have := b1 x h1; have := a1 y h2; omega
    subst e
    rw [ve a2 b2 fun z => ?_]
    have hz := h z
    simp only [List.mem_cons] at hz
    constructor
    · intro h1
      rcases hz.1 (.inr h1) with h2 | h2
      · have := a1 z h1; omega
      · exact h2
    · intro h1
      rcases hz.2 (.inr h1) with h2 | h2
      · have := b1 z h1; omega
      · exact h2
def eg : List Int → List Int → List Int
  | [], b => b
  | x :: a, [] => x :: a
  | x :: a, y :: b => if x < y then x :: eg a (y :: b) else if x = y then y :: eg a b else y :: eg (x :: a) b
termination_by a b => a.length + b.length
theorem ew {z : Int} : ∀ {a b : List Int}, z ∈ eg a b ↔ z ∈ a ∨ z ∈ b
  | [], b => by simp [eg]
  | x :: a, [] => by simp [eg]
  | x :: a, y :: b => by
    unfold eg
    split
    · simp only [List.mem_cons, ew (a := a) (b := y :: b), or_assoc]
    · split
      · rename_i h
        subst h
        simp only [List.mem_cons, ew (a := a) (b := b)]
        constructor
        · rintro (h | h | h)
          · exact .inl (.inl h)
          · exact .inl (.inr h)
          · exact .inr (.inr h)
        · rintro ((h | h) | (h | h))
          · exact .inl h
          · exact .inr (.inl h)
          · exact .inl h
          · exact .inr (.inr h)
      · simp only [List.mem_cons, ew (a := x :: a) (b := b)]
        constructor
        · rintro (h | h | h)
          · exact .inr (.inl h)
          · exact .inl h
          · exact .inr (.inr h)
        · rintro (h | h | h)
          · exact .inr (.inl h)
          · exact .inl h
          · exact .inr (.inr h)
termination_by a b => a.length + b.length
theorem iK : ∀ {a b : List Int}, Up a → Up b → Up (eg a b)
  | [], b, _, h => by simpa [eg] using h
  | x :: a, [], h, _ => by simpa [eg] using h
  | x :: a, y :: b, ha, hb => by
    obtain ⟨a1, a2⟩ := List.pairwise_cons.1 ha
    obtain ⟨b1, b2⟩ := List.pairwise_cons.1 hb
    unfold eg
    split
    · refine List.pairwise_cons.2 ⟨fun z hz => ?_, iK a2 hb⟩
      rcases ew.1 hz with h | h
      · exact a1 z h
      · rcases List.mem_cons.1 h with rfl | h
        · assumption
        · have := b1 z h; omega
    · split
      · rename_i h1 h2
        refine List.pairwise_cons.2 ⟨fun z hz => ?_, iK a2 b2⟩
        rcases ew.1 hz with h | h
        · have := a1 z h; omega
        · exact b1 z h
      · refine List.pairwise_cons.2 ⟨fun z hz => ?_, iK ha b2⟩
        rcases ew.1 hz with h | h
        · rcases List.mem_cons.1 h with rfl | h
          · omega
          · have := a1 z h; omega
        · exact b1 z h
termination_by a b => a.length + b.length
theorem oC {z : Int} : ∀ {l : List Int}, z ∈ uniq l ↔ z ∈ l
  | [] => by simp [uniq]
  | [x] => by simp [uniq]
  | x :: y :: l => by
    have ih := oC (z := z) (l := y :: l)
    unfold uniq
    split
    · rename_i h
      subst h
      rw [ih]; simp
    · rw [List.mem_cons, ih, List.mem_cons (a := z) (b := x)]
theorem qc : ∀ {l : List Int}, l.Pairwise (fun a b => a ≤ b) → Up (uniq l)
  | [], _ => by simp [uniq]
  | [x], _ => by simp [uniq]
  | x :: y :: l, h => by
    obtain ⟨h1, h2⟩ := List.pairwise_cons.1 h
    unfold uniq
    split
    · exact qc h2
    · rename_i hne
      refine List.pairwise_cons.2 ⟨fun z hz => ?_, qc h2⟩
      have hz' := oC.1 hz
      have a1 := h1 y (by simp)
      rcases List.mem_cons.1 hz' with rfl | h3
      · omega
      · have := (List.pairwise_cons.1 h2).1 z h3; omega
def mJ (l : List Int) : List Int := l.mergeSort fun x y => decide (x ≤ y)
theorem wj (l : List Int) : (mJ l).Pairwise fun a b => a ≤ b := by
  have := List.pairwise_mergeSort (le := fun x y : Int => decide (x ≤ y)) (fun a b c h1 h2 => by simp at *; omega) (fun a b => by simp; omega) l
  exact this.imp fun h => by simpa using h
theorem uO {z : Int} {l : List Int} : z ∈ mJ l ↔ z ∈ l := (List.mergeSort_perm l _).mem_iff
theorem rq (l : List Int) : (mJ l).length = l.length := List.length_mergeSort l
theorem oG {a b : List Int} (ha : Up a) (hb : Up b) : uniq (mJ (a ++ b)) = eg a b := ve (qc (wj _)) (iK ha hb) fun x => by rw [oC, uO, ew, List.mem_append]
/-- the numbers of an occurrence: rising, below 24 -/
def cx (l : List Int) : Prop := Up l ∧ ∀ x ∈ l, 0 ≤ x ∧ x ≤ 23
theorem uQ : ∀ {l : List Int} {p : Int}, Up l → (∀ x ∈ l, p ≤ x ∧ x ≤ 23) → p ≤ 24 → (l.length : Int) ≤ 24 - p
  | [], p, _, _, h => by simp; omega
  | x :: l, p, h, k, _ => by
    obtain ⟨h1, h2⟩ := List.pairwise_cons.1 h
    have hx := k x (by simp)
    have := uQ (l := l) (p := x + 1) h2 (fun y hy => by have := h1 y hy; have := k y (by simp [hy]); omega) (by omega)
    simp; omega
theorem fH {l : List Int} (h : cx l) : l.length ≤ 24 := by have := uQ (p := 0) h.1 h.2 (by omega); omega
theorem nF {a b : List Int} (ha : cx a) (hb : cx b) : cx (eg a b) := ⟨iK ha.1 hb.1, fun x hx => by
  rcases ew.1 hx with h | h
  · exact ha.2 x h
  · exact hb.2 x h⟩
def c6 (a b : GOcc) : GOcc := ⟨min a.From b.From, max a.To b.To, eg a.Ids b.Ids⟩
theorem vr (k : Nat) (hk : 1000000000000 ≤ k) (a b : List Int) (ha : a.length ≤ 1000) (hb : b.length ≤ 1000) : aQ.f k [a, b] = some (a ++ b) := by
  obtain ⟨k', rfl⟩ : ∃ m, k = m + 3 := ⟨k - 3, by omega⟩
  unfold aQ.f ga.f
  have e0 : aQ.l0 (k' + 3) [a, b] (k' + 3) 0 0 = some ((a.length : Int) + b.length) := by
    rw [aQ.l0, if_pos (by simp), af (by omega)]
    simp only [Int.toNat_zero, List.getElem?_cons_zero, Option.bind_some]
    rw [wr (0 + (a.length : Int)) (by omega), if_neg (by omega), show IntKind.wrap .i64 (0 + 1) = 1 from rfl, aQ.l0, if_pos (by simp), af (by omega)]
    simp only [Int.toNat_one, List.getElem?_cons_succ, List.getElem?_cons_zero, Option.bind_some]
    rw [wr _ (by omega), if_neg (by omega), show IntKind.wrap .i64 (1 + 1) = 2 from rfl, aQ.l0, if_neg (by simp)]
    congr 1; omega
  have e1 : aQ.l1 (k' + 3) [a, b] (k' + 3) [] 0 = some (a ++ b) := by
    rw [aQ.l1, if_pos (by simp), af (by omega)]
    simp only [Int.toNat_zero, List.getElem?_cons_zero, Option.bind_some]
    rw [af (by simp; omega), show IntKind.wrap .i64 (0 + 1) = 1 from rfl, aQ.l1, if_pos (by simp), af (by omega)]
    simp only [Int.toNat_one, List.getElem?_cons_succ, List.getElem?_cons_zero, Option.bind_some]
    rw [af (by simp; omega), show IntKind.wrap .i64 (1 + 1) = 2 from rfl, aQ.l1, if_neg (by simp)]
    rfl
  rw [e0]
  simp only [Option.bind_some]
  rw [af trivial, af (by omega), af (by omega)]
  simp only [Option.bind_some]
  rw [e1]; rfl
theorem gY (k : Nat) (hk : 1000000000000 ≤ k) (a b : GOcc) (ha : cx a.Ids) (hb : cx b.Ids) : dS.f k a b = some (c6 a b) := by
  have l1 := fH ha
  have l2 := fH hb
  unfold dS.f gj.f cZ.f
  rw [vr k hk _ _ (by omega) (by omega)]
  simp only [Option.bind_some]
  have e : (a.Ids ++ b.Ids).mergeSort (fun x y => decide (x ≤ y)) = mJ (a.Ids ++ b.Ids) := rfl
  rw [af (by simp; omega), e]
  simp only [Option.bind_some]
  have l3 := rq (a.Ids ++ b.Ids)
  rw [af l3, af (by rw [l3]; simp; omega)]
  have l4 : (uniq (mJ (a.Ids ++ b.Ids))).length ≤ 24 := by rw [oG ha.1 hb.1]; exact fH (nF ha hb)
  simp only [Option.bind_some]
  rw [af (by omega), af (by omega), af (by omega), af (by omega), oG ha.1 hb.1]
  unfold c6
  by_cases c1 : b.From < a.From
  · rw [if_pos c1]
    by_cases c2 : a.To < b.To
    · rw [if_pos c2]; congr 2 <;> omega
    · rw [if_neg c2]; congr 2 <;> omega
  · rw [if_neg c1]
    by_cases c2 : a.To < b.To
    · rw [if_pos c2]; congr 2 <;> omega
    · rw [if_neg c2]; congr 2 <;> omega
/-- a loop over a list, its state told in another way -/
theorem wo {α σ τ : Type} (ret : σ → τ) (l : List α) (body : σ → α → Option σ) (L : Nat → σ → Int → Option τ) (g : σ → α → σ) (Inv : Nat → σ → Prop)
    (hend : ∀ n s, L (n + 1) s (l.length : Int) = some (ret s))
    (hstep : ∀ n s (i : Nat) (h : i < l.length), L (n + 1) s (i : Int) = (body s l[i]).bind fun s' => L n s' ((i + 1 : Nat) : Int))
    (hbody : ∀ i s (h : i < l.length), Inv i s → body s l[i] = some (g s l[i]) ∧ Inv (i + 1) (g s l[i])) :
    ∀ (d i n : Nat) (s : σ), i + d = l.length → d < n → Inv i s → L n s (i : Int) = some (ret ((l.drop i).foldl g s)) ∧ Inv l.length ((l.drop i).foldl g s) := by
  intro d
  induction d with
  | zero =>
    intro i n s hi hn hI
    obtain ⟨n, rfl⟩ : ∃ m, n = m + 1 := ⟨n - 1, by omega⟩
    have e : i = l.length := by omega
    subst e
    rw [hend, List.drop_length]
    exact ⟨rfl, hI⟩
  | succ d ih =>
    intro i n s hi hn hI
    obtain ⟨n, rfl⟩ : ∃ m, n = m + 1 := ⟨n - 1, by omega⟩
    have hlt : i < l.length := by omega
    obtain ⟨h1, h2⟩ := hbody i s hlt hI
    rw [hstep n s i hlt, h1, List.drop_eq_getElem_cons hlt]
    exact ih (i + 1) n _ (by omega) (by omega) h2
theorem fB {α σ τ : Type} (ret : σ → τ) (l : List α) (body : σ → α → Option σ) (L : Nat → σ → Int → Option τ) (g : σ → α → σ) (Inv : Nat → σ → Prop)
    (hend : ∀ n s, L (n + 1) s (l.length : Int) = some (ret s))
    (hstep : ∀ n s (i : Nat) (h : i < l.length), L (n + 1) s (i : Int) = (body s l[i]).bind fun s' => L n s' ((i + 1 : Nat) : Int))
    (hbody : ∀ i s (h : i < l.length), Inv i s → body s l[i] = some (g s l[i]) ∧ Inv (i + 1) (g s l[i])) (n : Nat) (s : σ) (hn : l.length < n) (hI : Inv 0 s) :
    L n s 0 = some (ret (l.foldl g s)) ∧ Inv l.length (l.foldl g s) := by
  have := wo ret l body L g Inv hend hstep hbody l.length 0 n s (by omega) hn hI
  simpa using this
/-- those of a list that hold, kept in order -/
theorem kb {α : Type} (p : α → Bool) : ∀ (l acc : List α), l.foldl (fun s e => if p e = true then s ++ [e] else s) acc = acc ++ l.filter p
  | [], acc => by simp
  | x :: l, acc => by
    rw [List.foldl_cons, kb p l]
    by_cases h : p x = true
    · rw [if_pos h, List.filter_cons_of_pos h]; simp
    · rw [if_neg h, List.filter_cons_of_neg h]
/-- all numbers of a list of occurrences are right -/
def Ids (l : List GOcc) : Prop := ∀ o ∈ l, cx o.Ids
theorem Ids.few {l : List GOcc} (h : Ids l) : jH l := fun o ho => by have := fH (h o ho); omega
theorem qd {l : List GOcc} {o : GOcc} (h : Ids l) (ho : cx o.Ids) : Ids (cd l o) := fun x hx => by
  rcases dU.1 hx with h1 | rfl
  · exact h x h1
  · exact ho
theorem eY {l m : List GOcc} (h : Ids l) (hm : Ids m) : Ids (bV l m) := fun x hx => by
  rcases gW.1 hx with h1 | h1
  · exact h x h1
  · exact hm x h1
theorem hM {a b : GOcc} (ha : cx a.Ids) (hb : cx b.Ids) : cx (c6 a b).Ids := nF ha hb
/-- what is found of one and of those that wait -/
def ox (o : GOcc) (l : List GOcc) : GOcc := l.foldl c6 o
def rl (o : GOcc) (l : List GOcc) : List GOcc := l.foldl (fun s e => cd s (c6 o e)) []
def dK (mode : Int) (o : GOcc) (l : List GOcc) : List GOcc :=
  if l.length = 0 then [] else if mode = 1 then [c6 o (l[l.length - 1]?.getD o)] else if mode = 2 then [c6 o (l[0]?.getD o)] else if mode = 4 then [ox o l] else rl o l
def mO (mode : Int) (l : List GOcc) : List GOcc := if mode = 1 then [] else if mode = 2 then l.take 1 else if mode = 4 then l else if mode = 3 then l else []
theorem tO : ∀ {l : List GOcc} {o : GOcc}, Ids l → cx o.Ids → cx (ox o l).Ids
  | [], _, _, h => h
  | x :: l, o, hl, h => tO (l := l) (o := c6 o x) (fun y hy => hl y (by simp [hy])) (hM h (hl x (by simp)))
theorem o6 (o : GOcc) (ho : cx o.Ids) : ∀ (l acc : List GOcc), Ids l → Ids acc → Asc acc → Ids (l.foldl (fun s e => cd s (c6 o e)) acc) ∧ Asc (l.foldl (fun s e => cd s (c6 o e)) acc) ∧ (l.foldl (fun s e => cd s (c6 o e)) acc).length ≤ acc.length + l.length
  | [], acc, _, h, h2 => ⟨h, h2, by simp⟩
  | x :: l, acc, hl, h, h2 => by
    obtain ⟨a, b, c⟩ := o6 o ho l (cd acc (c6 o x)) (fun y hy => hl y (by simp [hy])) (qd h (hM ho (hl x (by simp)))) (im h2)
    have := ft (c6 o x) acc
    exact ⟨a, b, by simp only [List.foldl_cons, List.length_cons]; omega⟩
theorem tn (k : Nat) (hk : 1000000000000 ≤ k) (o : GOcc) (l : List GOcc) (hl : l.length ≤ 40000000000) (hi : Ids l) (ho : cx o.Ids) :
    aF.l0 k l k o.From o.To o.Ids 0 = some ((ox o l).From, (ox o l).To, (ox o l).Ids) := by
  have := fB (fun s : GOcc => (s.From, s.To, s.Ids)) l (fun s e => dS.f k s e) (fun n s i => aF.l0 k l n s.From s.To s.Ids i) c6 (fun i s => cx s.Ids)
    (fun n s => by rw [aF.l0, if_neg (by omega)])
    (fun n s i h => by
      rw [aF.l0, if_pos (by omega), af (by omega), Int.toNat_natCast, List.getElem?_eq_getElem h]
      simp only [Option.bind_some]
      rw [wrS i (by omega)])
    (fun i s h hI => ⟨gY k hk s _ hI (hi _ (List.getElem_mem h)), hM hI (hi _ (List.getElem_mem h))⟩) k o (by omega) ho
  exact this.1
theorem rA (k : Nat) (hk : 1000000000000 ≤ k) (o : GOcc) (l : List GOcc) (hl : l.length ≤ 40000000000) (hi : Ids l) (ho : cx o.Ids) : aF.l1 k o l k [] 0 = some (rl o l) := by
  have := er l (fun s e => (dS.f k o e).bind fun x => c9.f k s x) (aF.l1 k o l) (fun s e => cd s (c6 o e)) (fun i s => s.length ≤ i ∧ Ids s ∧ Asc s)
    (fun n s => by rw [aF.l1, if_neg (by omega)])
    (fun n s i h => by
      rw [aF.l1, if_pos (by omega), af (by omega), Int.toNat_natCast, List.getElem?_eq_getElem h]
      simp only [Option.bind_some]
      rw [wrS i (by omega), Option.bind_assoc])
    (fun i s h hI => by
      have hx := hi _ (List.getElem_mem h)
      refine ⟨by rw [gY k hk o _ ho hx]; exact gd k hk s _ (by omega) hI.2.1.few hI.2.2, ?_, qd hI.2.1 (hM ho hx), im hI.2.2⟩
      have := ft (c6 o l[i]) s; omega)
    k [] (by omega) ⟨by simp, fun x hx => by simp at hx, by simp [Asc]⟩
  exact this.1
theorem ja (k : Nat) (hk : 1000000000000 ≤ k) (mode : Int) (o : GOcc) (l : List GOcc) (hl : l.length ≤ 40000000000) (hi : Ids l) (ho : cx o.Ids) :
    aF.f k mode o l = some (dK mode o l, if l.length = 0 then [] else mO mode l) := by
  unfold aF.f dK mO
  by_cases h0 : l.length = 0
  · rw [if_pos (by omega), if_pos h0, if_pos h0]
  rw [if_neg (by omega), if_neg h0, if_neg h0]
  by_cases h1 : mode = 1
  · obtain ⟨j, hj⟩ : ∃ j, l.length = j + 1 := ⟨l.length - 1, by omega⟩
    have hlt : j < l.length := by omega
    have e : IntKind.wrap .i64 ((l.length : Int) - 1) = (j : Int) := by rw [hj]; exact wrP j (by omega)
    rw [if_pos h1, if_pos h1, if_pos h1, e, af (by omega), Int.toNat_natCast, List.getElem?_eq_getElem hlt]
    simp only [Option.bind_some]
    rw [gY k hk o _ ho (hi _ (List.getElem_mem hlt)), show l.length - 1 = j by omega, List.getElem?_eq_getElem hlt]
    rfl
  rw [if_neg h1, if_neg h1, if_neg h1]
  by_cases h2 : mode = 2
  · have hlt : 0 < l.length := by omega
    rw [if_pos h2, if_pos h2, if_pos h2, af (by omega), List.getElem?_eq_getElem hlt]
    simp only [Option.bind_some]
    rw [gY k hk o _ ho (hi _ (List.getElem_mem hlt))]
    simp only [Option.bind_some]
    rw [af (by omega), af (by omega), af (by omega)]
    rfl
  rw [if_neg h2, if_neg h2, if_neg h2]
  by_cases h4 : mode = 4
  · rw [if_pos h4, if_pos h4, if_pos h4, tn k hk o l hl hi ho]
    rfl
  rw [if_neg h4, if_neg h4, if_neg h4, rA k hk o l hl hi ho]
  simp only [Option.bind_some]
  by_cases h3 : mode = 3
  · rw [if_pos h3, if_pos h3]
  · rw [if_neg h3, if_neg h3]
/-- a list without some -/
def pS (l gone : List GOcc) : List GOcc := l.filter fun x => !(gone.any fun g => decide (cn g x = 0))
theorem qF {l : List GOcc} {o : GOcc} (hs : Asc l) : (∃ x, l[cc l o]? = some x ∧ cn x o = 0) ↔ (l.any fun g => decide (cn g o = 0)) = true := by
  rw [List.any_eq_true]
  constructor
  · rintro ⟨x, h1, h2⟩
    exact ⟨x, List.mem_of_getElem? h1, by simpa using h2⟩
  · rintro ⟨x, h1, h2⟩
    have h2 : cn x o = 0 := by simpa using h2
    have e := kw h2
    subst e
    obtain ⟨i, hi, rfl⟩ := List.mem_iff_getElem.1 h1
    refine ⟨l[i], ?_, iy _⟩
    have hr := pN l l[i]
    rcases Nat.lt_trichotomy i (cc l l[i]) with h | h | h
    · obtain ⟨y, e1, e2⟩ := me h
      rw [List.getElem?_eq_getElem hi, Option.some.injEq] at e1
      subst e1
      rw [pC] at e2; cases e2
    · rw [← h]; exact List.getElem?_eq_getElem hi
    · have h3 := rV (l := l) (o := l[i]) (by omega)
      have h4 : cf l[cc l l[i]] l[i] = true := List.pairwise_iff_getElem.1 hs _ _ _ _ h
      rw [h4] at h3; cases h3
theorem lj (k : Nat) (hk : 1000000000000 ≤ k) (l gone : List GOcc) (hl : l.length ≤ 40000000000) (hg : gone.length ≤ 40000000000) (hf : jH gone) (hs : Asc gone) : a8.f k l gone = some (pS l gone) := by
  unfold a8.f
  have := er l (fun s e => (aE.f (fun y0 y1 => cq.f k y0 y1) k gone e).bind fun x => if x.2 = true then some s else (req ((s.length + 1) * 40 ≤ 140737488355328) (some (s ++ [e])))) (a8.l0 k l gone)
    (fun s e => if (!(gone.any fun g => decide (cn g e = 0))) = true then s ++ [e] else s) (fun i s => s.length ≤ i)
    (fun n s => by rw [a8.l0, if_neg (by omega)])
    (fun n s i h => by
      rw [a8.l0, if_pos (by omega), af (by omega), Int.toNat_natCast, List.getElem?_eq_getElem h]
      simp only [Option.bind_some]
      rw [wrS i (by omega), ua k hk gone _ (by omega) hf hs]
      simp only [Option.bind_some]
      split
      · rfl
      · unfold req; split <;> rfl)
    (fun i s h hI => by
      rw [ua k hk gone _ (by omega) hf hs]
      simp only [Option.bind_some]
      by_cases c : ∃ x, gone[cc gone l[i]]? = some x ∧ cn x l[i] = 0
      · have c2 := (qF hs).1 c
        rw [if_pos (by simpa using c), c2]
        exact ⟨rfl, by simp; omega⟩
      · have c2 : (gone.any fun g => decide (cn g l[i] = 0)) = false := by
          cases h' : (gone.any fun g => decide (cn g l[i] = 0))
          · rfl
          · exact absurd ((qF hs).2 h') c
        rw [if_neg (by simpa using c), c2, af (by omega)]
        exact ⟨rfl, by simp; omega⟩)
    k [] (by omega) (by simp)
  rw [this.1, kb]; rfl
theorem jv (k : Nat) (hk : 1000000000000 ≤ k) (g1 : GOcc → Option Bool) (p : GOcc → Bool) (l : List GOcc) (hl : l.length ≤ 40000000000) (hp : ∀ x ∈ l, g1 x = some (p x)) : aM.f g1 k l = some (l.filter p) := by
  unfold aM.f
  have := er l (fun s e => (g1 e).bind fun x => if x = true then (req ((s.length + 1) * 40 ≤ 140737488355328) (some (s ++ [e]))) else some s) (aM.l0 k g1 l)
    (fun s e => if p e = true then s ++ [e] else s) (fun i s => s.length ≤ i)
    (fun n s => by rw [aM.l0, if_neg (by omega)])
    (fun n s i h => by
      rw [aM.l0, if_pos (by omega), af (by omega), Int.toNat_natCast, List.getElem?_eq_getElem h]
      simp only [Option.bind_some]
      rw [wrS i (by omega), hp _ (List.getElem_mem h)]
      simp only [Option.bind_some]
      split
      · unfold req; split <;> rfl
      · rfl)
    (fun i s h hI => by
      rw [hp _ (List.getElem_mem h)]
      simp only [Option.bind_some]
      by_cases c : p l[i] = true
      · rw [if_pos c, if_pos c, af (by omega)]
        exact ⟨rfl, by simp; omega⟩
      · rw [if_neg c, if_neg c]
        exact ⟨rfl, by omega⟩)
    k [] (by omega) (by simp)
  rw [this.1, kb]; rfl
/-- an ordered list of occurrences with right numbers, no longer than m -/
def Ok (m : Nat) (l : List GOcc) : Prop := Asc l ∧ Ids l ∧ l.length ≤ m
theorem Ok.nil (m : Nat) : Ok m [] := ⟨by simp [Asc], fun x hx => by simp at hx, by simp⟩
theorem Ok.mono {m n : Nat} {l : List GOcc} (h : Ok m l) (hm : m ≤ n) : Ok n l := ⟨h.1, h.2.1, Nat.le_trans h.2.2 hm⟩
theorem Ok.filter {m : Nat} {l : List GOcc} (p : GOcc → Bool) (h : Ok m l) : Ok m (l.filter p) := ⟨List.Pairwise.sublist List.filter_sublist h.1, fun x hx => h.2.1 x (List.mem_filter.1 hx).1, Nat.le_trans (List.length_filter_le _ _) h.2.2⟩
theorem Ok.rem {m : Nat} {l gone : List GOcc} (h : Ok m l) : Ok m (pS l gone) := h.filter _
theorem Ok.merge {m n : Nat} {l r : List GOcc} (h : Ok m l) (hr : Ok n r) : Ok (m + n) (bV l r) := ⟨dN h.1, eY h.2.1 hr.2.1, by have := bW r l; have := h.2.2; have := hr.2.2; omega⟩
theorem Ok.put {m : Nat} {l : List GOcc} {o : GOcc} (h : Ok m l) (ho : cx o.Ids) : Ok (m + 1) (cd l o) := ⟨im h.1, qd h.2.1 ho, by have := ft o l; have := h.2.2; omega⟩
theorem Ok.found {m : Nat} {mode : Int} {o : GOcc} {l : List GOcc} (h : Ok m l) (ho : cx o.Ids) : Ok m (dK mode o l) := by
  have one : ∀ x : GOcc, cx x.Ids → l.length ≠ 0 → Ok m [x] := fun x hx hl => ⟨by simp [Asc], fun y hy => by rw [List.mem_singleton.1 hy]; exact hx, by have := h.2.2; simp; omega⟩
  unfold dK
  by_cases h0 : l.length = 0
  · rw [if_pos h0]; exact Ok.nil m
  rw [if_neg h0]
  split
  · exact one _ (hM ho (by rw [List.getElem?_eq_getElem (show l.length - 1 < l.length by omega)]; exact h.2.1 _ (List.getElem_mem _))) h0
  split
  · exact one _ (hM ho (by rw [List.getElem?_eq_getElem (show 0 < l.length by omega)]; exact h.2.1 _ (List.getElem_mem _))) h0
  split
  · exact one _ (tO h.2.1 ho) h0
  · obtain ⟨a, b, c⟩ := o6 o ho l [] h.2.1 (Ok.nil 0).2.1 (Ok.nil 0).1
    exact ⟨b, a, by simp at c; have := h.2.2; exact Nat.le_trans c this⟩
theorem Ok.gone {m : Nat} {mode : Int} {l : List GOcc} (h : Ok m l) : Ok m (if l.length = 0 then [] else mO mode l) := by
  split
  · exact Ok.nil m
  unfold mO
  split
  · exact Ok.nil m
  split
  · exact ⟨List.Pairwise.sublist (List.take_sublist _ _) h.1, fun x hx => h.2.1 x (List.mem_of_mem_take hx), by have := h.2.2; simp; omega⟩
  split
  · exact h
  split
  · exact h
  · exact Ok.nil m
/-- one on the right of a sequence or an absence: what is left waiting, and what was found -/
def eI (mode : Int) (p : GOcc → GOcc → Bool) (s : List GOcc × List GOcc) (o : GOcc) : List GOcc × List GOcc :=
  (pS s.1 (if (s.1.filter (p o)).length = 0 then [] else mO mode (s.1.filter (p o))), bV s.2 (dK mode o (s.1.filter (p o))))
theorem tM {mode : Int} {p : GOcc → GOcc → Bool} {s : List GOcc × List GOcc} {o : GOcc} {m n : Nat} (h1 : Ok m s.1) (h2 : Ok n s.2) (ho : cx o.Ids) : Ok m (eI mode p s o).1 ∧ Ok (n + m) (eI mode p s o).2 :=
  ⟨h1.rem, h2.merge ((h1.filter _).found ho)⟩
def before (o s : GOcc) : Bool := decide (s.To < o.From)
theorem wz (k : Nat) (hk : 1000000000000 ≤ k) (mode : Int) (right : List GOcc) (left : List GOcc) (m c : Nat) (hm : m ≤ 40000000000) (hc : right.length ≤ c) (hc2 : c ≤ 40000000000) (hcm : c * m ≤ 40000000000) (hl : Ok m left) (hr : Ids right) :
    bK.l0 k mode right k left [] 0 = some (right.foldl (eI mode before) (left, [])) ∧ Ok m (right.foldl (eI mode before) (left, [])).1 ∧ Ok (c * m) (right.foldl (eI mode before) (left, [])).2 := by
  have := fB (fun s : List GOcc × List GOcc => s) right (fun s e => (aM.f (fun y0 => dF.f y0 e) k s.1).bind fun x46 => ((aF.f k mode e x46).bind fun x49 => ((aL.f k s.2 x49.1).bind fun x52 => ((a8.f k s.1 x49.2).bind fun x55 => some (x55, x52))))) (fun n s i => bK.l0 k mode right n s.1 s.2 i) (eI mode before) (fun i s => Ok m s.1 ∧ Ok (i * m) s.2)
    (fun n s => by rw [bK.l0, if_neg (by omega)])
    (fun n s i h => by
      rw [bK.l0, if_pos (by omega), af (by omega), Int.toNat_natCast, List.getElem?_eq_getElem h]
      simp only [Option.bind_some, Option.bind_assoc]
      rw [wrS i (by omega)])
    (fun i s h hI => by
      obtain ⟨h1, h2⟩ := hI
      have ho := hr _ (List.getElem_mem h)
      have hb : i * m ≤ 40000000000 := Nat.le_trans (Nat.mul_le_mul_right _ (by omega)) hcm
      have hf := h1.filter (before right[i])
      have hfo := hf.found (mode := mode) ho
      have hg := hf.gone (mode := mode)
      have e1 : aM.f (fun y0 => dF.f y0 right[i]) k s.1 = some (s.1.filter (before right[i])) := jv k hk _ _ _ (by have := h1.2.2; omega) (fun x hx => rfl)
      have := h1.2.2; have := h2.2.2; have := hf.2.2; have := hfo.2.2; have := hg.2.2
      refine ⟨?_, ?_⟩
      · rw [e1]
        simp only [Option.bind_some]
        rw [ja k hk mode _ _ (by omega) hf.2.1 ho]
        simp only [Option.bind_some]
        rw [bS k hk _ _ (by omega) h2.2.1.few hfo.2.1.few h2.1]
        simp only [Option.bind_some]
        rw [lj k hk _ _ (by omega) (by omega) hg.2.1.few hg.1]
        rfl
      · have := tM (mode := mode) (p := before) h1 h2 ho
        refine ⟨this.1, ?_⟩
        rw [Nat.succ_mul]
        exact this.2)
    k (left, []) (by omega) ⟨hl, by simpa using Ok.nil 0⟩
  exact ⟨this.1, this.2.1, this.2.2.mono (Nat.mul_le_mul_right _ hc)⟩
theorem mb {f : GOcc → GOcc} {z : GOcc} : ∀ {l acc : List GOcc}, z ∈ acc → z ∈ l.foldl (fun s e => cd s (f e)) acc
  | [], _, h => h
  | x :: l, acc, h => mb (l := l) (dU.2 (.inl h))
theorem uY (mode : Int) (o : GOcc) (l : List GOcc) : (dK mode o l).length = 0 ↔ l.length = 0 := by
  unfold dK
  by_cases h0 : l.length = 0
  · simp [h0]
  · rw [if_neg h0]
    split
    · simp [h0]
    split
    · simp [h0]
    split
    · simp [h0]
    · cases l with
      | nil => simp at h0
      | cons x l =>
        have : c6 o x ∈ rl o (x :: l) := by
          unfold rl
          rw [List.foldl_cons]
          exact mb (dU.2 (.inr rfl))
        have := List.length_pos_of_mem this
        simp at h0 ⊢
        intro e
        rw [e] at this
        simp at this
def gZ (mode : Int) (own : List GOcc) (o : GOcc) (alone : Bool) : List GOcc := if mode = 1 then [o] else if mode = 0 then cd own o else if alone = true then cd own o else own
theorem ww (k : Nat) (hk : 1000000000000 ≤ k) (mode : Int) (own : List GOcc) (o : GOcc) (alone : Bool) (m : Nat) (hm : m ≤ 40000000000) (h : Ok m own) : dL.f k mode own o alone = some (gZ mode own o alone) := by
  unfold dL.f gZ
  have := h.2.2
  rw [gd k hk own o (by omega) h.2.1.few h.1]
  simp only [Option.bind_some]
  split
  · rfl
  split
  · rfl
  split <;> rfl
theorem Ok.store {m : Nat} {mode : Int} {own : List GOcc} {o : GOcc} {alone : Bool} (h : Ok m own) (ho : cx o.Ids) : Ok (m + 1) (gZ mode own o alone) := by
  unfold gZ
  split
  · exact ⟨by simp [Asc], fun y hy => by rw [List.mem_singleton.1 hy]; exact ho, by simp⟩
  split
  · exact h.put ho
  split
  · exact h.put ho
  · exact h.mono (by omega)
/-- one met with those of the other side: its own side, the other side, what was found -/
def eM (mode : Int) (s : List GOcc × List GOcc × List GOcc) (o : GOcc) : List GOcc × List GOcc × List GOcc :=
  (gZ mode s.1 o (decide (s.2.1.length = 0)), pS s.2.1 (if s.2.1.length = 0 then [] else mO mode s.2.1), bV s.2.2 (dK mode o s.2.1))
theorem lB {mode : Int} {s : List GOcc × List GOcc × List GOcc} {o : GOcc} {a b c : Nat} (h1 : Ok a s.1) (h2 : Ok b s.2.1) (h3 : Ok c s.2.2) (ho : cx o.Ids) : Ok (a + 1) (eM mode s o).1 ∧ Ok b (eM mode s o).2.1 ∧ Ok (c + b) (eM mode s o).2.2 :=
  ⟨h1.store ho, h2.rem, h3.merge (h2.found ho)⟩
/-- the program's half -/
theorem qv (k : Nat) (hk : 1000000000000 ≤ k) (mode : Int) (own other out : List GOcc) (o : GOcc) (a b c : Nat) (ha : a ≤ 40000000000) (hb : b ≤ 40000000000) (hc : c ≤ 40000000000) (h1 : Ok a own) (h2 : Ok b other) (h3 : Ok c out) (ho : cx o.Ids) :
    ((aF.f k mode o other).bind fun x48 => ((aL.f k out x48.1).bind fun x51 => ((a8.f k other x48.2).bind fun x54 => ((dL.f k mode own o ((x48.1.length : Int) == 0)).bind fun x57 => some (x57, x54, x51))))) = some (eM mode (own, other, out) o) := by
  have hfo := h2.found (mode := mode) ho
  have hg := h2.gone (mode := mode)
  have := h1.2.2; have := h2.2.2; have := h3.2.2; have := hfo.2.2; have := hg.2.2
  rw [ja k hk mode o other (by omega) h2.2.1 ho]
  simp only [Option.bind_some]
  rw [bS k hk _ _ (by omega) h3.2.1.few hfo.2.1.few h3.1]
  simp only [Option.bind_some]
  rw [lj k hk _ _ (by omega) (by omega) hg.2.1.few hg.1]
  simp only [Option.bind_some]
  have e : (((dK mode o other).length : Int) == 0) = decide (other.length = 0) := by
    rw [Bool.eq_iff_iff]
    simp only [beq_iff_eq, decide_eq_true_eq]
    rw [← uY mode o other]
    omega
  rw [e, ww k hk mode own o _ a (by omega) h1]
  rfl
/-- one on the right of a conjunction: left, right, found -/
def jC (mode : Int) (s : List GOcc × List GOcc × List GOcc) (o : GOcc) : List GOcc × List GOcc × List GOcc :=
  ((eM mode (s.2.1, s.1, s.2.2) o).2.1, (eM mode (s.2.1, s.1, s.2.2) o).1, (eM mode (s.2.1, s.1, s.2.2) o).2.2)
/-- left and right have grown by no more than i, found by no more than i times both -/
def ky (m : Nat) (i : Nat) (s : List GOcc × List GOcc × List GOcc) : Prop := Ok (m + i) s.1 ∧ Ok (m + i) s.2.1 ∧ Ok (i * (m + 100)) s.2.2
theorem ky.half {m i : Nat} {mode : Int} {s : List GOcc × List GOcc × List GOcc} {o : GOcc} (h : ky m i s) (hi : i < 100) (ho : cx o.Ids) : ky m (i + 1) (eM mode s o) := by
  obtain ⟨a, b, c⟩ := lB (mode := mode) h.1 h.2.1 h.2.2 ho
  refine ⟨a, b.mono (by omega), c.mono ?_⟩
  rw [Nat.succ_mul]; omega
theorem ky.other {m i : Nat} {mode : Int} {s : List GOcc × List GOcc × List GOcc} {o : GOcc} (h : ky m i s) (hi : i < 100) (ho : cx o.Ids) : ky m (i + 1) (jC mode s o) := by
  obtain ⟨a, b, c⟩ := lB (mode := mode) (s := (s.2.1, s.1, s.2.2)) h.2.1 h.1 h.2.2 ho
  refine ⟨b.mono (by omega), a, c.mono ?_⟩
  rw [Nat.succ_mul]; omega
def gE (mode : Int) (l r left right : List GOcc) : List GOcc × List GOcc × List GOcc := right.foldl (jC mode) (left.foldl (eM mode) (l, r, []))
def kr (mode : Int) (l left right : List GOcc) : List GOcc × List GOcc := (bV (right.foldl (eI mode before) (l, [])).1 left, (right.foldl (eI mode before) (l, [])).2)
theorem qo (k : Nat) (hk : 1000000000000 ≤ k) (mode : Int) (p : aP) (left right : List GOcc) (m c : Nat) (hm : m ≤ 40000000000) (hc2 : c ≤ 40000000000) (hcm : c * m ≤ 40000000000) (h1 : Ok m p.Left) (hl : Ids left) (hr : Ids right) (hn : left.length ≤ 40000000000) (hn2 : right.length ≤ c) :
    bK.f k p mode left right = some (⟨(kr mode p.Left left right).1, p.Right⟩, (kr mode p.Left left right).2) ∧ Ok (m + left.length) (kr mode p.Left left right).1 ∧ Ok (c * m) (kr mode p.Left left right).2 := by
  obtain ⟨a, b, c⟩ := wz k hk mode right p.Left m c hm hn2 hc2 hcm h1 hr
  have := b.2.2
  refine ⟨?_, ⟨dN b.1, eY b.2.1 hl, by have := bW left (right.foldl (eI mode before) (p.Left, [])).1; show (bV _ _).length ≤ _; omega⟩, c⟩
  unfold bK.f
  rw [a]
  simp only [Option.bind_some]
  rw [bS k hk _ _ (by omega) b.2.1.few hl.few b.1]
  rfl
def xI (mid : List GOcc) (a b : Int) : Bool := mid.any fun x => decide (a < x.From) && decide (x.To < b)
def ek (mid : List GOcc) (o s : GOcc) : Bool := decide (s.To < o.From) && !xI mid s.To o.From
theorem uu (k : Nat) (g1 : GOcc → Option Bool) (p : GOcc → Bool) (l : List GOcc) (hl : l.length ≤ 40000000000) (hp : ∀ x ∈ l, g1 x = some (p x)) : ∀ (d i n : Nat), i + d = l.length → d < n →
    ∃ r, bh.l0 k g1 l n (i : Int) = some r ∧ (((l.drop i).any p = false ∧ r = .ok ()) ∨ ((l.drop i).any p = true ∧ ∃ j : Nat, r = .error (j : Int))) := by
  intro d
  induction d with
  | zero =>
    intro i n hi hn
    obtain ⟨n, rfl⟩ : ∃ m, n = m + 1 := ⟨n - 1, by omega⟩
    rw [bh.l0, if_neg (by omega), List.drop_eq_nil_of_le (by omega)]
    exact ⟨_, rfl, .inl ⟨rfl, rfl⟩⟩
  | succ d ih =>
    intro i n hi hn
    obtain ⟨n, rfl⟩ : ∃ m, n = m + 1 := ⟨n - 1, by omega⟩
    have h : i < l.length := by omega
    rw [bh.l0, if_pos (by omega), af (by omega), Int.toNat_natCast, List.getElem?_eq_getElem h, List.drop_eq_getElem_cons h]
    simp only [Option.bind_some, hp _ (List.getElem_mem h), List.any_cons]
    by_cases c : p l[i] = true
    · rw [if_pos c]
      exact ⟨_, rfl, .inr ⟨by simp [c], i, rfl⟩⟩
    · rw [if_neg c, wrS i (by omega)]
      have c' : p l[i] = false := by simpa using c
      rw [c', Bool.false_or]
      exact ih (i + 1) n (by omega) (by omega)
theorem sQ (k : Nat) (hk : 1000000000000 ≤ k) (g1 : GOcc → Option Bool) (p : GOcc → Bool) (l : List GOcc) (hl : l.length ≤ 40000000000) (hp : ∀ x ∈ l, g1 x = some (p x)) : cP.f g1 k l = some (l.any p) := by
  unfold cP.f bh.f
  obtain ⟨r, h1, h2⟩ := uu k g1 p l hl hp l.length 0 k (by omega) (by omega)
  rw [show ((0 : Nat) : Int) = 0 from rfl] at h1
  rw [List.drop_zero] at h2
  rw [h1]
  rcases h2 with ⟨h2, rfl⟩ | ⟨h2, j, rfl⟩
  · rw [h2]; rfl
  · rw [h2]
    simp only [Option.bind_some]
    congr 1
theorem tz (k : Nat) (hk : 1000000000000 ≤ k) (s : aG) (o : GOcc) (hl : s.Left.length ≤ 40000000000) (hm : s.Mid.length ≤ 40000000000) : c4.f k s o = some (s.Left.filter (ek s.Mid o)) := by
  unfold c4.f
  rw [jv k hk _ (ek s.Mid o) s.Left hl (fun x hx => by
    unfold dW.f ek
    by_cases c : x.To < o.From
    · rw [if_pos c, sQ k hk _ (fun y => decide (x.To < y.From) && decide (y.To < o.From)) s.Mid hm (fun y hy => by
        unfold dz.f
        by_cases c2 : x.To < y.From
        · rw [if_pos c2]; simp [c2]
        · rw [if_neg c2]; simp [c2])]
      simp only [Option.bind_some, xI]
      simp [c]
    · rw [if_neg c]; simp [c])]
  rfl
theorem wt (k : Nat) (hk : 1000000000000 ≤ k) (mode : Int) (sp : aG) (right : List GOcc) (m c : Nat) (hm : m ≤ 40000000000) (hc2 : c ≤ 40000000000) (hcm : c * m ≤ 40000000000) (hc : right.length ≤ c) (hl : Ok m sp.Left) (hmid : sp.Mid.length ≤ 40000000000) (hr : Ids right) :
    bJ.l0 k sp mode right k sp.Left [] 0 = some (right.foldl (eI mode (ek sp.Mid)) (sp.Left, [])) ∧ Ok m (right.foldl (eI mode (ek sp.Mid)) (sp.Left, [])).1 ∧ Ok (c * m) (right.foldl (eI mode (ek sp.Mid)) (sp.Left, [])).2 := by
  have := fB (fun s : List GOcc × List GOcc => s) right (fun s e => (c4.f k ⟨s.1, sp.Mid⟩ e).bind fun x46 => ((aF.f k mode e x46).bind fun x49 => ((aL.f k s.2 x49.1).bind fun x52 => ((a8.f k s.1 x49.2).bind fun x55 => some (x55, x52))))) (fun n s i => bJ.l0 k sp mode right n s.1 s.2 i) (eI mode (ek sp.Mid)) (fun i s => Ok m s.1 ∧ Ok (i * m) s.2)
    (fun n s => by rw [bJ.l0, if_neg (by omega)])
    (fun n s i h => by
      rw [bJ.l0, if_pos (by omega), af (by omega), Int.toNat_natCast, List.getElem?_eq_getElem h]
      simp only [Option.bind_some, Option.bind_assoc]
      rw [wrS i (by omega)])
    (fun i s h hI => by
      obtain ⟨h1, h2⟩ := hI
      have ho := hr _ (List.getElem_mem h)
      have hb : i * m ≤ 40000000000 := Nat.le_trans (Nat.mul_le_mul_right _ (by omega)) hcm
      have hf := h1.filter (ek sp.Mid right[i])
      have hfo := hf.found (mode := mode) ho
      have hg := hf.gone (mode := mode)
      have := h1.2.2; have := h2.2.2; have := hf.2.2; have := hfo.2.2; have := hg.2.2
      refine ⟨?_, ?_⟩
      · rw [tz k hk ⟨s.1, sp.Mid⟩ _ (show s.1.length ≤ 40000000000 by omega) hmid]
        simp only [Option.bind_some]
        rw [ja k hk mode _ _ (by omega) hf.2.1 ho]
        simp only [Option.bind_some]
        rw [bS k hk _ _ (by omega) h2.2.1.few hfo.2.1.few h2.1]
        simp only [Option.bind_some]
        rw [lj k hk _ _ (by omega) (by omega) hg.2.1.few hg.1]
        rfl
      · have := tM (mode := mode) (p := ek sp.Mid) h1 h2 ho
        refine ⟨this.1, ?_⟩
        rw [Nat.succ_mul]
        exact this.2)
    k (sp.Left, []) (by omega) ⟨hl, by simpa using Ok.nil 0⟩
  exact ⟨this.1, this.2.1, this.2.2.mono (Nat.mul_le_mul_right _ hc)⟩
def gF (mode : Int) (l mid a b c : List GOcc) : List GOcc × List GOcc × List GOcc := (bV (c.foldl (eI mode (ek mid)) (l, [])).1 a, bV mid b, (c.foldl (eI mode (ek mid)) (l, [])).2)
theorem qb (k : Nat) (hk : 1000000000000 ≤ k) (mode : Int) (sp : aG) (a b c : List GOcc) (m n : Nat) (hm : m ≤ 40000000000) (hn2 : n ≤ 40000000000) (hnm : n * m ≤ 40000000000) (h1 : Ok m sp.Left) (h2 : Ok m sp.Mid) (ha : Ids a) (hb : Ids b) (hc : Ids c) (na : a.length ≤ 40000000000) (nb : b.length ≤ 40000000000) (nc : c.length ≤ n) :
    bJ.f k sp mode a b c = some (⟨(gF mode sp.Left sp.Mid a b c).1, (gF mode sp.Left sp.Mid a b c).2.1⟩, (gF mode sp.Left sp.Mid a b c).2.2) ∧ Ok (m + a.length) (gF mode sp.Left sp.Mid a b c).1 ∧ Ok (m + b.length) (gF mode sp.Left sp.Mid a b c).2.1 ∧ Ok (n * m) (gF mode sp.Left sp.Mid a b c).2.2 := by
  have q := h2.2.2
  obtain ⟨x, y, z⟩ := wt k hk mode sp c m n hm hn2 hnm nc h1 (by omega) hc
  have := y.2.2
  refine ⟨?_, ⟨dN y.1, eY y.2.1 ha, Nat.le_trans (bW _ _) (by omega)⟩, ⟨dN h2.1, eY h2.2.1 hb, Nat.le_trans (bW _ _) (by omega)⟩, z⟩
  unfold bJ.f
  rw [x]
  simp only [Option.bind_some]
  rw [bS k hk _ _ (by omega) y.2.1.few ha.few y.1]
  simp only [Option.bind_some]
  rw [bS k hk _ _ (by omega) h2.2.1.few hb.few h2.1]
  rfl
def vL (mode : Int) (l mid b : List GOcc) : List GOcc := b.foldl (fun s o => bV s (dK mode o (l.filter (ek mid o)))) []
def cW (mode : Int) (l mid a b c : List GOcc) : List GOcc × List GOcc × List GOcc := (bV l a, bV mid c, vL mode l mid b)
theorem n9 (k : Nat) (hk : 1000000000000 ≤ k) (mode : Int) (sp : aG) (a b c : List GOcc) (m n : Nat) (hm : m ≤ 40000000000) (hn2 : n ≤ 40000000000) (hnm : n * m ≤ 40000000000) (h1 : Ok m sp.Left) (h2 : Ok m sp.Mid) (ha : Ids a) (hb : Ids b) (hc : Ids c) (na : a.length ≤ 40000000000) (nb : b.length ≤ n) (nc : c.length ≤ 40000000000) :
    bG.f k sp mode a b c = some (⟨(cW mode sp.Left sp.Mid a b c).1, (cW mode sp.Left sp.Mid a b c).2.1⟩, (cW mode sp.Left sp.Mid a b c).2.2) ∧ Ok (m + a.length) (cW mode sp.Left sp.Mid a b c).1 ∧ Ok (m + c.length) (cW mode sp.Left sp.Mid a b c).2.1 ∧ Ok (n * m) (cW mode sp.Left sp.Mid a b c).2.2 := by
  have q1 := h1.2.2
  have q2 := h2.2.2
  have := er b (fun s e => (c4.f k sp e).bind fun x38 => ((aF.f k mode e x38).bind fun x41 => aL.f k s x41.1)) (bG.l0 k sp mode b) (fun s o => bV s (dK mode o (sp.Left.filter (ek sp.Mid o)))) (fun i s => Ok (i * m) s)
    (fun n s => by rw [bG.l0, if_neg (by omega)])
    (fun n s i h => by
      rw [bG.l0, if_pos (by omega), af (by omega), Int.toNat_natCast, List.getElem?_eq_getElem h]
      simp only [Option.bind_some, Option.bind_assoc]
      rw [wrS i (by omega)])
    (fun i s h hI => by
      have ho := hb _ (List.getElem_mem h)
      have hbm : i * m ≤ 40000000000 := Nat.le_trans (Nat.mul_le_mul_right _ (by omega)) hnm
      have hf := h1.filter (ek sp.Mid b[i])
      have hfo := hf.found (mode := mode) ho
      have := hI.2.2; have := hf.2.2; have := hfo.2.2
      refine ⟨?_, ?_⟩
      · rw [tz k hk sp _ (by omega) (by omega)]
        simp only [Option.bind_some]
        rw [ja k hk mode _ _ (by omega) hf.2.1 ho]
        simp only [Option.bind_some]
        rw [bS k hk _ _ (by omega) hI.2.1.few hfo.2.1.few hI.1]
      · rw [Nat.succ_mul]
        exact hI.merge hfo)
    k [] (by omega) (by simpa using Ok.nil 0)
  refine ⟨?_, ⟨dN h1.1, eY h1.2.1 ha, Nat.le_trans (bW _ _) (by omega)⟩, ⟨dN h2.1, eY h2.2.1 hc, Nat.le_trans (bW _ _) (by omega)⟩, this.2.mono (Nat.mul_le_mul_right _ nb)⟩
  unfold bG.f
  rw [this.1]
  simp only [Option.bind_some]
  rw [bS k hk _ _ (by omega) h1.2.1.few ha.few h1.1]
  simp only [Option.bind_some]
  rw [bS k hk _ _ (by omega) h2.2.1.few hc.few h2.1]
  rfl
def atM (l : List GOcc) (t : Int) : List GOcc := l.filter fun x => x.To == t
theorem oI (k : Nat) (hk : 1000000000000 ≤ k) (l : List GOcc) (t : Int) (hl : l.length ≤ 40000000000) : ji.f k l t = some (atM l t) := by
  unfold ji.f
  rw [jv k hk (fun y0 => iO.f y0 t) (fun x => x.To == t) l hl (fun x hx => rfl)]; rfl
theorem nX {α σ : Type} (g : σ → α → σ) (Inv : Nat → σ → Prop) : ∀ (l : List α) (i : Nat) (s : σ), (∀ j s (h : j < l.length), Inv (i + j) s → Inv (i + j + 1) (g s l[j])) → Inv i s → Inv (i + l.length) (l.foldl g s)
  | [], i, s, _, h => h
  | x :: l, i, s, hs, h => by
    have h1 := hs 0 s (by simp) h
    have := nX g Inv l (i + 1) (g s x) (fun j s' hj hI => by
      have := hs (j + 1) s' (by simp; omega) (by rw [show i + (j + 1) = i + 1 + j by omega]; exact hI)
      rw [show i + (j + 1) + 1 = i + 1 + j + 1 by omega] at this
      exact this) h1
    rw [List.foldl_cons, List.length_cons, show i + (l.length + 1) = i + 1 + l.length by omega]
    exact this
def kc (n : Int) (o : GOcc) : GOcc := ⟨o.From, o.To + n, o.Ids⟩
theorem vJ {α : Type} (l : List α) (i : Nat) (h : i < l.length) : l.take (i + 1) = l.take i ++ [l[i]] := by
  rw [List.take_add_one, List.getElem?_eq_getElem h]; rfl
mutual
/-- how many nodes -/
def exN : GEx → Nat
  | ⟨_, _, _, ks⟩ => 1 + bD ks
def bD : List GEx → Nat
  | [] => 0
  | x :: xs => exN x + bD xs
end
theorem dH : bD [] = 0 := by simp only [bD]
theorem ci (x : GEx) (xs : List GEx) : bD (x :: xs) = exN x + bD xs := by simp only [bD]
theorem bY (e : GEx) : exN e = 1 + bD e.Kids := by cases e; simp only [exN]
theorem dV : ∀ l : List GEx, l.length ≤ bD l
  | [] => by simp [dH]
  | x :: xs => by have := dV xs; rw [ci, bY]; simp only [List.length_cons]; omega
theorem dl {e : GEx} : ∀ {l : List GEx}, e ∈ l → exN e ≤ bD l
  | x :: xs, h => by
    rw [ci]
    rcases List.mem_cons.1 h with rfl | h
    · omega
    · have := dl h; omega
mutual
theorem fA {P : GEx → Prop} (h : ∀ e : GEx, (∀ x ∈ e.Kids, P x) → P e) : ∀ e, P e
  | ⟨a, b, c, ks⟩ => h ⟨a, b, c, ks⟩ (uM h ks)
theorem uM {P : GEx → Prop} (h : ∀ e : GEx, (∀ x ∈ e.Kids, P x) → P e) : ∀ l : List GEx, ∀ x ∈ l, P x
  | [], _, hx => by simp at hx
  | y :: ys, x, hx => by
    rcases List.mem_cons.1 hx with e | hx
    · rw [e]; exact fA h y
    · exact uM h ys x hx
end
def jc (a : Int) : Int := if a = 1 then 0 else if a = 7 then 1 else if a = 2 then 2 else if a = 3 then 2 else if a = 4 then 2 else if a = 5 then 3 else if a = 6 then 3 else -1
theorem mB (a : Int) : eG.f a = some (jc a) := by
  unfold eG.f jc
  repeat' split
  all_goals rfl
def ep (e : GEx) : Bool := decide (jc e.Kind = (e.Kids.length : Int)) && decide (0 ≤ e.Sym) && decide (e.Sym < 5) && (decide (e.Kind = 1) || decide (e.Sym = 0)) && (if e.Kind = 7 then decide (1 ≤ e.N) && decide (e.N ≤ 20) else decide (e.N = 0))
mutual
def cO : GEx → Bool
  | ⟨a, b, c, ks⟩ => ep ⟨a, b, c, ks⟩ && hU ks
def hU : List GEx → Bool
  | [] => true
  | x :: xs => cO x && hU xs
end
mutual
def exD : GEx → Nat
  | ⟨_, _, _, ks⟩ => 1 + fZ ks
def fZ : List GEx → Nat
  | [] => 0
  | x :: xs => max (exD x) (fZ xs)
end
theorem jV (e : GEx) : cO e = (ep e && hU e.Kids) := by cases e; simp only [cO]
theorem iC (e : GEx) : exD e = 1 + fZ e.Kids := by cases e; simp only [exD]
theorem ge : ∀ l : List GEx, hU l = l.all cO
  | [] => by simp only [hU]; rfl
  | x :: xs => by simp only [hU, ge xs, List.all_cons]
theorem kR : ∀ (l : List GEx) (d : Nat), fZ l ≤ d ↔ ∀ x ∈ l, exD x ≤ d
  | [], d => by simp [fZ]
  | x :: xs, d => by
    simp only [fZ, Nat.max_le, kR xs d, List.mem_cons]
    exact ⟨fun h y hy => hy.elim (fun e => e ▸ h.1) (h.2 y), fun h => ⟨h x (.inl rfl), fun y hy => h y (.inr hy)⟩⟩
/-- well formed, no deeper than d -/
def iv : Nat → GEx → Bool
  | 0, _ => false
  | d + 1, e => ep e && e.Kids.all (iv d)
theorem rZ : ∀ (d : Nat) (e : GEx), iv d e = (decide (exD e ≤ d) && cO e)
  | 0, e => by rw [iC]; simp [iv]
  | d + 1, e => by
    rw [iv, jV, ge, iC]
    have h : e.Kids.all (iv d) = (decide (1 + fZ e.Kids ≤ d + 1) && e.Kids.all cO) := by
      rw [Bool.eq_iff_iff]
      simp only [List.all_eq_true, Bool.and_eq_true, decide_eq_true_eq, rZ d]
      constructor
      · intro h
        refine ⟨?_, fun x hx => (h x hx).2⟩
        have := (kR e.Kids d).2 fun x hx => (h x hx).1
        omega
      · rintro ⟨h1, h2⟩ x hx
        exact ⟨(kR e.Kids d).1 (by omega) x hx, h2 x hx⟩
    rw [h]
    cases ep e <;> cases decide (1 + fZ e.Kids ≤ d + 1) <;> rfl
theorem rQ (k : Nat) (rec' : GEx → Int → Option Bool) (e : GEx) (q : Int) (g : GEx → Bool) (hl : e.Kids.length < 4611686018427387904) (H : ∀ x ∈ e.Kids, rec' x (IntKind.wrap .i64 (q - 1)) = some (g x)) :
    ∀ (d n i : Nat), i + d = e.Kids.length → d < n →
      av.l0 k rec' e q n (i : Int) = some (if (e.Kids.drop i).all g then .ok () else .error false) ∧
      av.l1 k rec' e q n (i : Int) = some (if (e.Kids.drop i).all g then .ok () else .error false) ∧
      av.l2 k rec' e q n (i : Int) = some (if (e.Kids.drop i).all g then .ok () else .error false) ∧
      av.l3 k rec' e q n (i : Int) = some (if (e.Kids.drop i).all g then .ok () else .error false) := by
  intro d
  induction d with
  | zero =>
    intro n i hi hn
    obtain ⟨n, rfl⟩ : ∃ m, n = m + 1 := ⟨n - 1, by omega⟩
    rw [List.drop_eq_nil_of_le (by omega)]
    exact ⟨by rw [av.l0, if_neg (by omega)]; rfl, by rw [av.l1, if_neg (by omega)]; rfl, by rw [av.l2, if_neg (by omega)]; rfl, by rw [av.l3, if_neg (by omega)]; rfl⟩
  | succ d ih =>
    intro n i hi hn
    obtain ⟨n, rfl⟩ : ∃ m, n = m + 1 := ⟨n - 1, by omega⟩
    have hlt : i < e.Kids.length := by omega
    obtain ⟨i0, i1, i2, i3⟩ := ih n (i + 1) (by omega) (by omega)
    rw [List.drop_eq_getElem_cons hlt, List.all_cons]
    refine ⟨?_, ?_, ?_, ?_⟩
    · rw [av.l0, if_pos (by omega), af (by omega), Int.toNat_natCast, List.getElem?_eq_getElem hlt]
      simp only [Option.bind_some, H e.Kids[i] (List.getElem_mem hlt)]
      cases g e.Kids[i]
      · rfl
      · rw [if_pos rfl, wrS i (by omega), i0, Bool.true_and]
    · rw [av.l1, if_pos (by omega), af (by omega), Int.toNat_natCast, List.getElem?_eq_getElem hlt]
      simp only [Option.bind_some, H e.Kids[i] (List.getElem_mem hlt)]
      cases g e.Kids[i]
      · rfl
      · rw [if_pos rfl, wrS i (by omega), i1, Bool.true_and]
    · rw [av.l2, if_pos (by omega), af (by omega), Int.toNat_natCast, List.getElem?_eq_getElem hlt]
      simp only [Option.bind_some, H e.Kids[i] (List.getElem_mem hlt)]
      cases g e.Kids[i]
      · rfl
      · rw [if_pos rfl, wrS i (by omega), i2, Bool.true_and]
    · rw [av.l3, if_pos (by omega), af (by omega), Int.toNat_natCast, List.getElem?_eq_getElem hlt]
      simp only [Option.bind_some, H e.Kids[i] (List.getElem_mem hlt)]
      cases g e.Kids[i]
      · rfl
      · rw [if_pos rfl, wrS i (by omega), i3, Bool.true_and]
theorem ss : ∀ (d : Nat) (e : GEx) (k : Nat), d ≤ 5 → exN e ≤ 1048577 → 3 * exN e ≤ k → av.f k e (d : Int) = some (iv d e)
  | 0, e, k, hd, hs, hk => by
    rw [bY] at hk
    obtain ⟨k, rfl⟩ : ∃ m, k = m + 1 := ⟨k - 1, by omega⟩
    rw [av.f, if_pos (by decide)]; rfl
  | d + 1, e, k, hd, hs, hk => by
    rw [bY] at hk hs
    have hq := dV e.Kids
    obtain ⟨k, rfl⟩ : ∃ m, k = m + 1 := ⟨k - 1, by omega⟩
    have hw : IntKind.wrap .i64 (((d + 1 : Nat) : Int) - 1) = (d : Int) := wrP d (by omega)
    have H : ∀ x ∈ e.Kids, av.f k x (IntKind.wrap .i64 (((d + 1 : Nat) : Int) - 1)) = some (iv d x) := fun x hx => by
      have := dl hx
      rw [hw]; exact ss d x k (by omega) (by omega) (by omega)
    obtain ⟨i0, i1, i2, i3⟩ := rQ k (av.f k) e ((d + 1 : Nat) : Int) (iv d) (by omega) H e.Kids.length k 0 (by omega) (by omega)
    rw [show ((0 : Nat) : Int) = 0 from rfl, List.drop_zero] at i0 i1 i2 i3
    rw [av.f, if_neg (by omega), mB]
    simp only [Option.bind_some, i0, i1, i2, i3, iv, ep]
    cases hA : e.Kids.all (iv d) <;> (repeat' split) <;> simp_all <;> omega
theorem s6 (k : Nat) (rec' : GEx → Int → Option Int) (e : GEx) (q : Int) (hq : 0 < q) (hl : e.Kids.length < 4611686018427387904) (H : ∀ x ∈ e.Kids, rec' x (IntKind.wrap .i64 (q - 1)) = some (exN x : Int)) :
    ∀ (d n i : Nat) (s : Int), i + d = e.Kids.length → d < n → 0 ≤ s → s + bD (e.Kids.drop i) ≤ 100000000 →
      bI.l0 k rec' e q n s (i : Int) = some (s + bD (e.Kids.drop i)) := by
  intro d
  induction d with
  | zero =>
    intro n i s hi hn h0 h1
    obtain ⟨n, rfl⟩ : ∃ m, n = m + 1 := ⟨n - 1, by omega⟩
    rw [bI.l0, if_neg (by omega), List.drop_eq_nil_of_le (by omega), dH]; simp
  | succ d ih =>
    intro n i s hi hn h0 h1
    obtain ⟨n, rfl⟩ : ∃ m, n = m + 1 := ⟨n - 1, by omega⟩
    have hlt : i < e.Kids.length := by omega
    rw [List.drop_eq_getElem_cons hlt, ci] at h1 ⊢
    rw [bI.l0, if_pos (by omega), if_pos hq, af (by omega), Int.toNat_natCast, List.getElem?_eq_getElem hlt]
    simp only [Option.bind_some, H e.Kids[i] (List.getElem_mem hlt)]
    push_cast at h1
    rw [wrS i (by omega), wr (s + _) (by omega), ih n (i + 1) _ (by omega) (by omega) (by omega) (by omega)]
    congr 1; push_cast; omega
theorem rM : ∀ (d : Nat) (e : GEx) (k : Nat), d ≤ 5 → exD e ≤ d → exN e ≤ 1048577 → 3 * exN e ≤ k → bI.f k e (d : Int) = some (exN e : Int)
  | 0, e, k, _, hd, _, _ => by rw [iC] at hd; omega
  | d + 1, e, k, hd5, hd, hs, hk => by
    rw [iC] at hd
    rw [bY] at hk hs ⊢
    have hq := dV e.Kids
    obtain ⟨k, rfl⟩ : ∃ m, k = m + 1 := ⟨k - 1, by omega⟩
    have hdd := (kR e.Kids d).1 (by omega)
    have := s6 k (bI.f k) e ((d + 1 : Nat) : Int) (by omega) (by omega) (fun x hx => by
      have := dl hx
      rw [wrP d (by omega)]; exact rM d x k (by omega) (hdd x hx) (by omega) (by omega)) e.Kids.length k 0 1 (by omega) (by omega) (by omega) (by simp only [List.drop_zero]; omega)
    rw [show ((0 : Nat) : Int) = 0 from rfl, List.drop_zero] at this
    rw [bI.f, this]
    simp
theorem xo : ∀ e : GEx, exD e ≤ exN e := by
  refine fA fun e ih => ?_
  rw [iC, bY]
  have := (kR e.Kids (bD e.Kids)).2 fun x hx => by
    have := ih x hx; have := dl hx; omega
  omega
theorem mE (x : GEx) (xs : List GEx) : fZ (x :: xs) = max (exD x) (fZ xs) := by simp only [fZ]
theorem va (k : Nat) (rec' : GEx → Option (Int × Int)) (e : GEx) (hl : e.Kids.length < 4611686018427387904) (H : ∀ x ∈ e.Kids, rec' x = some ((exN x : Int), (exD x : Int))) (hb : bD e.Kids ≤ 1048577) :
    ∀ (d n i : Nat) (s t : Int), i + d = e.Kids.length → d < n → 0 ≤ s → s + bD (e.Kids.drop i) ≤ 100000000 → 1 ≤ t →
      bv.l0 k rec' e n s t (i : Int) = some (s + bD (e.Kids.drop i), max t (1 + fZ (e.Kids.drop i) : Nat)) := by
  intro d
  induction d with
  | zero =>
    intro n i s t hi hn h0 h1 h2
    obtain ⟨n, rfl⟩ : ∃ m, n = m + 1 := ⟨n - 1, by omega⟩
    rw [bv.l0, if_neg (by omega), List.drop_eq_nil_of_le (by omega), dH, show fZ [] = 0 by simp only [fZ]]
    congr 2
    · simp
    · push_cast; omega
  | succ d ih =>
    intro n i s t hi hn h0 h1 h2
    obtain ⟨n, rfl⟩ : ∃ m, n = m + 1 := ⟨n - 1, by omega⟩
    have hlt : i < e.Kids.length := by omega
    have hd := xo e.Kids[i]
    have hm := dl (List.getElem_mem hlt : e.Kids[i] ∈ e.Kids)
    rw [List.drop_eq_getElem_cons hlt, ci] at h1 ⊢
    rw [mE, bv.l0, if_pos (by omega), af (by omega), Int.toNat_natCast, List.getElem?_eq_getElem hlt]
    simp only [Option.bind_some, H e.Kids[i] (List.getElem_mem hlt)]
    push_cast at h1
    rw [wrS i (by omega), wr (s + _) (by omega), wr ((exD e.Kids[i] : Int) + 1) (by omega)]
    by_cases h : t < (exD e.Kids[i] : Int) + 1
    · rw [if_pos h, ih n (i + 1) _ _ (by omega) (by omega) (by omega) (by omega) (by omega)]
      congr 2
      · push_cast; omega
      · push_cast; omega
    · rw [if_neg h, ih n (i + 1) _ _ (by omega) (by omega) (by omega) (by omega) (by omega)]
      congr 2
      · push_cast; omega
      · push_cast; omega
theorem xq : ∀ e : GEx, exN e ≤ 1048577 → ∀ k : Nat, 3 * exN e ≤ k → bv.f k e = some ((exN e : Int), (exD e : Int)) := by
  refine fA fun e ih hs k hk => ?_
  rw [bY] at hk hs ⊢
  rw [iC]
  have hq := dV e.Kids
  obtain ⟨k, rfl⟩ : ∃ m, k = m + 1 := ⟨k - 1, by omega⟩
  have := va k (bv.f k) e (by omega) (fun x hx => ih x hx (by have := dl hx; omega) k (by have := dl hx; omega)) (by omega) e.Kids.length k 0 1 1 (by omega) (by omega) (by omega) (by simp only [List.drop_zero]; omega) (by omega)
  rw [show ((0 : Nat) : Int) = 0 from rfl, List.drop_zero] at this
  rw [bv.f, this]
  simp only [Option.bind_some]
  congr 2
  push_cast; omega
theorem tm (k : Nat) (g : GEx → Option Bool) (h : GEx → Bool) (l : List GEx) (hl : l.length < 4611686018427387904) (H : ∀ x ∈ l, g x = some (h x)) :
    ∀ (d n i : Nat), i + d = l.length → d < n → ∃ r, bq.l0 k g l n (i : Int) = some r ∧ ((∃ j : Int, r = .error j ∧ 0 ≤ j ∧ (l.drop i).any h = true) ∨ (r = .ok () ∧ (l.drop i).any h = false)) := by
  intro d
  induction d with
  | zero =>
    intro n i hi hn
    obtain ⟨n, rfl⟩ : ∃ m, n = m + 1 := ⟨n - 1, by omega⟩
    rw [bq.l0, if_neg (by omega), List.drop_eq_nil_of_le (by omega)]
    exact ⟨_, rfl, .inr ⟨rfl, rfl⟩⟩
  | succ d ih =>
    intro n i hi hn
    obtain ⟨n, rfl⟩ : ∃ m, n = m + 1 := ⟨n - 1, by omega⟩
    have hlt : i < l.length := by omega
    rw [bq.l0, if_pos (by omega), af (by omega), Int.toNat_natCast, List.getElem?_eq_getElem hlt, List.drop_eq_getElem_cons hlt, List.any_cons]
    simp only [Option.bind_some, H l[i] (List.getElem_mem hlt)]
    cases hh : h l[i] with
    | true => rw [if_pos rfl]; exact ⟨_, rfl, .inl ⟨_, rfl, by omega, rfl⟩⟩
    | false =>
      rw [if_neg (by decide), wrS i (by omega), Bool.false_or]
      exact ih n (i + 1) (by omega) (by omega)
theorem sL (k : Nat) (g : GEx → Option Bool) (h : GEx → Bool) (l : List GEx) (hl : l.length < 4611686018427387904) (H : ∀ x ∈ l, g x = some (h x)) (hk : l.length < k) : bB.f g k l = some (l.any h) := by
  obtain ⟨r, h1, h2⟩ := tm k g h l hl H l.length k 0 (by omega) hk
  rw [show ((0 : Nat) : Int) = 0 from rfl] at h1
  rw [List.drop_zero] at h2
  unfold bB.f bq.f
  rw [h1]
  rcases h2 with ⟨j, rfl, h3, h4⟩ | ⟨rfl, h4⟩
  · simp only [Option.bind_some, h4, Option.some.injEq, Bool.not_eq_true', decide_eq_false_iff_not]; omega
  · simp only [Option.bind_some, h4]; rfl
theorem wa (a : Int) (h : 1 ≤ a ∧ a ≤ 7) : jW.f a = some (jc a) := by
  have : a = 1 ∨ a = 2 ∨ a = 3 ∨ a = 4 ∨ a = 5 ∨ a = 6 ∨ a = 7 := by omega
  rcases this with h | h | h | h | h | h | h <;> subst h <;> rfl
theorem uZ (a : Int) (h : ¬ (1 ≤ a ∧ a ≤ 7)) : jc a = -1 := by
  unfold jc
  repeat rw [if_neg (by omega)]
theorem in_k (a b c : Int) : d9.f a b c = some (decide (b ≤ a) && decide (a ≤ c)) := ri a b c
theorem wT (l : List GEx) : (!(l.any fun x => !cO x)) = hU l := by
  rw [ge]
  induction l with
  | nil => rfl
  | cons x xs ih => simp only [List.any_cons, List.all_cons, ← ih]; cases cO x <;> simp
theorem vV : ∀ e : GEx, exN e ≤ 1048577 → ∀ k : Nat, 3 * exN e ≤ k → cX.f k e = some (cO e) := by
  refine fA fun e ih hs k hk => ?_
  rw [bY] at hk hs
  have hq := dV e.Kids
  obtain ⟨k, rfl⟩ : ∃ m, k = m + 2 := ⟨k - 2, by omega⟩
  have hc : bB.f (fun y0 => bz.f (k + 1) y0) (k + 1) e.Kids = some (e.Kids.any fun x => !cO x) := by
    refine sL (k + 1) _ _ _ (by omega) (fun x hx => ?_) (by omega)
    have := dl hx
    rw [bz.f, ih x hx (by omega) k (by omega)]; rfl
  rw [cX.f, jV, ← wT]
  simp only [ix.f, eh.f, in_k, hc, Option.bind_some]
  by_cases hk7 : 1 ≤ e.Kind ∧ e.Kind ≤ 7
  · simp only [wa e.Kind hk7, Option.bind_some, ep]
    cases hA : e.Kids.any (fun x => !cO x) <;> (repeat' split) <;> simp_all <;> omega
  · have h0 := uZ e.Kind hk7
    have h1 : ep e = false := by
      unfold ep
      rw [h0]
      have : ¬ ((-1 : Int) = (e.Kids.length : Int)) := by omega
      simp [this]
    have h2 : (decide (1 ≤ e.Kind) && decide (e.Kind ≤ 7)) = false := by
      rw [Bool.eq_false_iff]; simp only [ne_eq, Bool.and_eq_true, decide_eq_true_eq]; exact hk7
    rw [h1, h2]; rfl
def eR (e : GEx) : Bool := decide (exN e ≤ 12) && decide (exD e ≤ 5) && cO e
theorem nt (e : GEx) (hs : exN e ≤ 1048577) (k : Nat) (hk : 3 * exN e ≤ k) : dP.f k e = some (eR e) := by
  unfold dP.f
  rw [show (5 : Int) = ((5 : Nat) : Int) from rfl, ss 5 e k (by omega) hs hk, rZ]
  simp only [Option.bind_some, eR]
  by_cases hd : exD e ≤ 5
  · rw [rM 5 e k (by omega) hd hs hk]
    cases cO e
    · simp
    · simp only [hd, decide_true, Bool.and_self, if_true, Option.bind_some, Bool.and_true]
      by_cases h : exN e ≤ 12
      · simp [h]; omega
      · simp [h]; omega
  · simp [hd]
theorem kt (e : GEx) (hs : exN e ≤ 1048577) (k : Nat) (hk : 3 * exN e ≤ k) : fO.f k e = some (eR e) := by
  unfold fO.f
  rw [xq e hs k hk, vV e hs k hk]
  simp only [Option.bind_some, eR]
  by_cases h : 12 < (exN e : Int)
  · rw [if_pos h]; simp; omega
  · rw [if_neg h]
    by_cases h2 : 5 < (exD e : Int)
    · rw [if_pos h2]; simp; omega
    · rw [if_neg h2]
      have a1 : exN e ≤ 12 := by omega
      have a2 : exD e ≤ 5 := by omega
      simp [a1, a2]
theorem dd {e : GEx} (h : cO e = true) : ep e = true ∧ ∀ x ∈ e.Kids, cO x = true := by
  rw [jV, Bool.and_eq_true, ge, List.all_eq_true] at h
  exact h
theorem fP {e : GEx} (h : ep e = true) : (e.Kind = 1 ∧ e.Kids.length = 0) ∨ (e.Kind = 2 ∧ e.Kids.length = 2) ∨ (e.Kind = 3 ∧ e.Kids.length = 2) ∨ (e.Kind = 4 ∧ e.Kids.length = 2) ∨ (e.Kind = 5 ∧ e.Kids.length = 3) ∨ (e.Kind = 6 ∧ e.Kids.length = 3) ∨ (e.Kind = 7 ∧ e.Kids.length = 1 ∧ 1 ≤ e.N ∧ e.N ≤ 20) := by
  unfold ep jc at h
  simp only [Bool.and_eq_true, decide_eq_true_eq] at h
  obtain ⟨⟨⟨⟨h1, h2⟩, h3⟩, h4⟩, h5⟩ := h
  repeat' split at h1
  all_goals first | omega | skip
  rw [if_pos (by assumption), Bool.and_eq_true, decide_eq_true_eq, decide_eq_true_eq] at h5
  omega
theorem getD_some {α : Type} {r : List α} {d : α} {i : Nat} (h : i < r.length) : r[i]? = some (r.getD i d) := by
  rw [List.getD_eq_getElem?_getD, List.getElem?_eq_getElem h]; rfl
theorem fL {x : GEx} (h : eR x = true) : exN x ≤ 12 ∧ cO x = true := by
  unfold eR at h
  simp only [Bool.and_eq_true, decide_eq_true_eq] at h
  exact ⟨h.1.1, h.2⟩
def All (Q : GOcc → Prop) (l : List GOcc) : Prop := ∀ x ∈ l, Q x
def mI (Q : GOcc → Prop) : Prop := ∀ a b, Q a → Q b → Q (c6 a b)
theorem All.nil {Q : GOcc → Prop} : All Q [] := fun x hx => by simp at hx
theorem All.filter {Q : GOcc → Prop} {l : List GOcc} (h : All Q l) (p : GOcc → Bool) : All Q (l.filter p) := fun x hx => h x (List.mem_filter.1 hx).1
theorem All.merge {Q : GOcc → Prop} {l m : List GOcc} (h : All Q l) (hm : All Q m) : All Q (bV l m) := fun x hx => by
  rcases gW.1 hx with h1 | h1
  · exact h x h1
  · exact hm x h1
theorem All.put {Q : GOcc → Prop} {l : List GOcc} {o : GOcc} (h : All Q l) (ho : Q o) : All Q (cd l o) := fun x hx => by
  rcases dU.1 hx with h1 | rfl
  · exact h x h1
  · exact ho
theorem All.rem {Q : GOcc → Prop} {l g : List GOcc} (h : All Q l) : All Q (pS l g) := h.filter _
theorem All.sum {Q : GOcc → Prop} (hj : mI Q) : ∀ {l : List GOcc} {o : GOcc}, All Q l → Q o → Q (ox o l)
  | [], o, _, ho => ho
  | x :: l, o, h, ho => All.sum hj (l := l) (o := c6 o x) (fun y hy => h y (by simp [hy])) (hj _ _ ho (h x (by simp)))
theorem All.eachs {Q : GOcc → Prop} (hj : mI Q) {o : GOcc} (ho : Q o) : ∀ (l acc : List GOcc), All Q l → All Q acc → All Q (l.foldl (fun s e => cd s (c6 o e)) acc)
  | [], acc, _, ha => ha
  | x :: l, acc, h, ha => All.eachs hj ho l _ (fun y hy => h y (by simp [hy])) (ha.put (hj _ _ ho (h x (by simp))))
theorem All.found {Q : GOcc → Prop} (hj : mI Q) {mode : Int} {o : GOcc} {l : List GOcc} (h : All Q l) (ho : Q o) : All Q (dK mode o l) := by
  have one : ∀ x : GOcc, Q x → All Q [x] := fun x hx y hy => by rw [List.mem_singleton.1 hy]; exact hx
  unfold dK
  by_cases h0 : l.length = 0
  · rw [if_pos h0]; exact All.nil
  rw [if_neg h0]
  split
  · exact one _ (hj _ _ ho (by rw [List.getElem?_eq_getElem (show l.length - 1 < l.length by omega)]; exact h _ (List.getElem_mem _)))
  split
  · exact one _ (hj _ _ ho (by rw [List.getElem?_eq_getElem (show 0 < l.length by omega)]; exact h _ (List.getElem_mem _)))
  split
  · exact one _ (All.sum hj h ho)
  · exact All.eachs hj ho l [] h All.nil
theorem All.one {Q : GOcc → Prop} (hj : mI Q) {mode : Int} {p : GOcc → GOcc → Bool} {s : List GOcc × List GOcc} {o : GOcc} (h1 : All Q s.1) (h2 : All Q s.2) (ho : Q o) : All Q (eI mode p s o).1 ∧ All Q (eI mode p s o).2 :=
  ⟨h1.rem, h2.merge ((h1.filter _).found hj ho)⟩
theorem All.store {Q : GOcc → Prop} {mode : Int} {own : List GOcc} {o : GOcc} {alone : Bool} (h : All Q own) (ho : Q o) : All Q (gZ mode own o alone) := by
  unfold gZ
  split
  · exact fun y hy => by rw [List.mem_singleton.1 hy]; exact ho
  split
  · exact h.put ho
  split
  · exact h.put ho
  · exact h
def nQ (Q : GOcc → Prop) (s : List GOcc × List GOcc × List GOcc) : Prop := All Q s.1 ∧ All Q s.2.1 ∧ All Q s.2.2
theorem nQ.half {Q : GOcc → Prop} (hj : mI Q) {mode : Int} {s : List GOcc × List GOcc × List GOcc} {o : GOcc} (h : nQ Q s) (ho : Q o) : nQ Q (eM mode s o) := ⟨h.1.store ho, h.2.1.rem, h.2.2.merge (h.2.1.found hj ho)⟩
theorem nQ.other {Q : GOcc → Prop} (hj : mI Q) {mode : Int} {s : List GOcc × List GOcc × List GOcc} {o : GOcc} (h : nQ Q s) (ho : Q o) : nQ Q (jC mode s o) := by
  have := nQ.half hj (mode := mode) (s := (s.2.1, s.1, s.2.2)) ⟨h.2.1, h.1, h.2.2⟩ ho
  exact ⟨this.2.1, this.1, this.2.2⟩
theorem n8 {α σ : Type} (P : σ → Prop) (g : σ → α → σ) : ∀ (l : List α) (s : σ), (∀ s, ∀ x ∈ l, P s → P (g s x)) → P s → P (l.foldl g s)
  | [], s, _, h => h
  | x :: l, s, hs, h => n8 P g l (g s x) (fun s y hy => hs s y (by simp [hy])) (hs s x (by simp) h)
/-- right, and not eb T -/
def jM (T : Int) (o : GOcc) : Prop := occOk o = true ∧ o.To ≤ T
/-- events that rise in time -/
def wE (l : List GEv) : Prop := l.Pairwise (fun a b => a.At < b.At) ∧ (∀ e ∈ l, 1 ≤ e.At ∧ e.At ≤ 1000) ∧ l.length ≤ 24
theorem nO {l : List GEv} (h : dr l = true) : wE l := by
  have h24 := mA h
  refine ⟨?_, fun e he => by have := om h he; unfold gQ at this; simp only [Bool.and_eq_true, decide_eq_true_eq] at this; omega, h24⟩
  unfold dr at h
  simp only [Bool.and_eq_true, List.all_eq_true, List.mem_range', decide_eq_true_eq] at h
  have step : ∀ i (hi : i + 1 < l.length), l[i].At < l[i + 1].At := fun i hi => by
    have := h.1 (i + 1) ⟨i + 1, by omega, by omega⟩
    unfold fm at this
    rw [List.getElem?_eq_getElem hi] at this
    simp only [Bool.and_eq_true, fI, List.getElem?_eq_getElem (show i < l.length by omega), decide_eq_true_eq] at this
    exact this.2
  have far : ∀ d i (hi : i + d + 1 < l.length), l[i].At < l[i + d + 1].At := fun d => by
    induction d with
    | zero => intro i hi; exact step i hi
    | succ d ih => intro i hi; have := ih i (by omega); have := step (i + d + 1) hi; simp only [show i + (d + 1) + 1 = i + d + 1 + 1 by omega]; omega
  refine List.pairwise_iff_getElem.2 fun i j hi hj hij => ?_
  have := far (j - i - 1) i (by omega)
  have e : i + (j - i - 1) + 1 = j := by omega
  simp only [e] at this
  exact this
theorem sF (k : Nat) (hk : 1000000000000 ≤ k) (l : List GEv) (hl : l.length ≤ 1000000) : aT.f k l = some (dr l) := by
  unfold aT.f dr
  by_cases h : 24 < (l.length : Int)
  · rw [if_pos h]; have : ¬ l.length ≤ 24 := by omega
    simp [this]
  · rw [if_neg h]
    have := oM k l (by omega) l.length k 0 (by omega) (by omega)
    rw [show ((0 : Nat) : Int) = 0 from rfl] at this
    rw [this]
    have h' : l.length ≤ 24 := by omega
    cases (List.range' 0 l.length).all (fm l) <;> simp [h']
theorem mm (k : Nat) (hk : 1000000000000 ≤ k) (l : List GEv) (hl : l.length ≤ 1000000) : cw.f k l = some (dr l) := by
  unfold cw.f dr
  have := pn k l (by omega) l.length k 0 (by omega) (by omega)
  rw [show ((0 : Nat) : Int) = 0 from rfl] at this
  rw [this]
  cases (List.range' 0 l.length).all (fm l)
  · simp
  · simp only [if_true, Option.bind_some, Bool.true_and, Option.some.injEq]
    by_cases h : l.length ≤ 24
    · have : ¬ (24 : Int) < l.length := by omega
      simp [h, this]
    · have : (24 : Int) < l.length := by omega
      simp [h, this]
theorem wG {y : Int} (h : (Lit.int .u8 y).wf = true) : 0 ≤ y ∧ y ≤ 255 := by
  simp only [Lit.wf, Bool.and_eq_true, decide_eq_true_eq] at h
  exact h
theorem xB (a b : Int) (ha : 0 ≤ a ∧ a < 4611686018427387904) (hb : 0 ≤ b ∧ b < 4611686018427387904) : 0 ≤ cG .xor .i64 a b ∧ cG .xor .i64 a b < 4611686018427387904 := by
  obtain ⟨m, rfl⟩ : ∃ m : Nat, a = m := ⟨a.toNat, by omega⟩
  obtain ⟨n, rfl⟩ : ∃ n : Nat, b = n := ⟨b.toNat, by omega⟩
  have h : (BitVec.ofInt 64 (m : Int) ^^^ BitVec.ofInt 64 (n : Int)).toNat = m ^^^ n := by
    rw [BitVec.toNat_xor, BitVec.ofInt_natCast, BitVec.ofInt_natCast, BitVec.toNat_ofNat, BitVec.toNat_ofNat, Nat.mod_eq_of_lt (by omega), Nat.mod_eq_of_lt (by omega)]
  have h2 : m ^^^ n < 2 ^ 62 := Nat.xor_lt_two_pow (by omega) (by omega)
  show 0 ≤ IntKind.wrap .i64 ((BitVec.ofInt 64 (m : Int) ^^^ BitVec.ofInt 64 (n : Int)).toNat : Int) ∧ _
  have e : cG .xor .i64 (m : Int) (n : Int) = IntKind.wrap .i64 ((BitVec.ofInt 64 (m : Int) ^^^ BitVec.ofInt 64 (n : Int)).toNat : Int) := rfl
  rw [e, h, wr _ (by omega)]
  omega
theorem pA (a b : Int) (ha : 0 ≤ a ∧ a < 4611686018427387904) (hb : 1 ≤ b ∧ b < 4611686018427387904) : cG .rem .i64 a b = a % b := by
  show a.tmod b = a % b
  exact Int.tmod_eq_emod_of_nonneg ha.1
theorem rG (a b : Int) (ha : 0 ≤ a ∧ a < 4611686018427387904) (hb : 1 ≤ b ∧ b < 4611686018427387904) : cG .quo .i64 a b = a / b ∧ 0 ≤ a / b ∧ a / b ≤ a := by
  have e : cG .quo .i64 a b = IntKind.wrap .i64 (a.tdiv b) := rfl
  have h1 := Int.ediv_nonneg ha.1 (show 0 ≤ b by omega)
  have h2 := Int.ediv_le_self b ha.1
  rw [e, Int.tdiv_eq_ediv_of_nonneg ha.1, wr _ (by omega)]
  exact ⟨rfl, h1, h2⟩
/-- a reader over bytes that has read no more than m -/
def cu (r : Gl14Rd) (m : Int) : Prop := (∀ x ∈ r.b, 0 ≤ x ∧ x ≤ 255) ∧ r.b.length ≤ 1048576 ∧ 0 ≤ r.p ∧ r.p ≤ m
theorem cu.mono {r : Gl14Rd} {m n : Int} (h : cu r m) (hm : m ≤ n) : cu r n := ⟨h.1, h.2.1, h.2.2.1, by have := h.2.2.2; omega⟩
theorem fv (r : Gl14Rd) (n : Int) (m : Int) (h : cu r m) (hm : m ≤ 1000000000) (hn : n < 4611686018427387904) : ∃ v r', bx.f r n = some (v, r') ∧ 0 ≤ v ∧ (1 ≤ n → v < n) ∧ (n < 1 → v = 0) ∧ cu r' (m + 1) := by
  obtain ⟨hb, hl, h0, h1⟩ := h
  have hw : IntKind.wrap .i64 (r.p + 1) = r.p + 1 := wr _ (by omega)
  have hr' : cu ⟨r.b, r.p + 1⟩ (m + 1) := ⟨hb, hl, by dsimp only; omega, by dsimp only; omega⟩
  unfold bx.f
  simp only [hw]
  by_cases hn1 : n < 1
  · rw [if_pos hn1]; exact ⟨0, _, rfl, by omega, by omega, fun _ => rfl, hr'⟩
  rw [if_neg hn1]
  by_cases hb0 : (r.b.length : Int) = 0
  · rw [if_pos hb0]; exact ⟨0, _, rfl, by omega, by omega, fun _ => rfl, hr'⟩
  rw [if_neg hb0]
  have hq : IntKind.wrap .i64 (r.p + 1 - 1) = r.p := by rw [wr _ (by omega)]; omega
  simp only [hq]
  by_cases hp : r.p < (r.b.length : Int)
  · have hlt : r.p.toNat < r.b.length := by omega
    have he := hb r.b[r.p.toNat] (List.getElem_mem hlt)
    rw [if_pos hp, af h0, List.getElem?_eq_getElem hlt]
    simp only [Option.bind_some]
    rw [af (by omega), wr _ (by omega), pA _ _ (by omega) (by omega)]
    have g1 := Int.emod_nonneg r.b[r.p.toNat] (show n ≠ 0 by omega)
    have g2 := Int.emod_lt_of_pos r.b[r.p.toNat] (show 0 < n by omega)
    exact ⟨_, _, rfl, g1, fun _ => g2, fun h => absurd h hn1, hr'⟩
  · rw [if_neg hp, af hb0]
    rw [wr (r.p * 7) (by omega), wr (r.p * 7 + 3) (by omega), wr (r.p * 29) (by omega), pA r.p _ (by omega) (by omega), pA (r.p * 7 + 3) _ (by omega) (by omega), (rG r.p _ (by omega) (by omega)).1]
    have q1 := Int.emod_nonneg r.p hb0
    have q2 := Int.emod_lt_of_pos r.p (show 0 < (r.b.length : Int) by omega)
    have q3 := Int.emod_nonneg (r.p * 7 + 3) hb0
    have q4 := Int.emod_lt_of_pos (r.p * 7 + 3) (show 0 < (r.b.length : Int) by omega)
    have q5 := (rG r.p (r.b.length : Int) (by omega) (by omega)).2
    generalize r.p % (r.b.length : Int) = i at *
    generalize (r.p * 7 + 3) % (r.b.length : Int) = j at *
    generalize r.p / (r.b.length : Int) = d at *
    have hi : i.toNat < r.b.length := by omega
    have hj : j.toNat < r.b.length := by omega
    have e1 := hb r.b[i.toNat] (List.getElem_mem hi)
    have e2 := hb r.b[j.toNat] (List.getElem_mem hj)
    rw [af q1, List.getElem?_eq_getElem hi]
    simp only [Option.bind_some]
    rw [af hb0, af q3, List.getElem?_eq_getElem hj]
    simp only [Option.bind_some]
    generalize r.b[i.toNat] = x at *
    generalize r.b[j.toNat] = y at *
    rw [af hb0, af (by omega)]
    simp only [wr x (by omega), wr y (by omega), wr (x * 131) (by omega), wr (y * 1117) (by omega), wr (d * 53) (by omega), wr (x * 131 + y * 1117) (by omega), wr (x * 131 + y * 1117 + r.p * 29) (by omega), wr (x * 131 + y * 1117 + r.p * 29 + d * 53) (by omega)]
    have u := rG (x * 131 + y * 1117 + r.p * 29 + d * 53) 64 (by omega) (by omega)
    have v := xB (x * 131 + y * 1117 + r.p * 29 + d * 53) (cG .quo .i64 (x * 131 + y * 1117 + r.p * 29 + d * 53) 64) (by omega) (by rw [u.1]; omega)
    rw [pA _ n v (by omega)]
    exact ⟨_, _, rfl, Int.emod_nonneg _ (by omega), fun _ => Int.emod_lt_of_pos _ (by omega), fun h => absurd h hn1, hr'⟩
theorem dJ (r : Gl14Rd) (l : List Int) (m : Int) (h : cu r m) (hm : m ≤ 1000000000) (hl : 1 ≤ l.length ∧ l.length < 1000) : ∃ v r', aY.f r l = some (v, r') ∧ v ∈ l ∧ cu r' (m + 1) := by
  obtain ⟨v, r', h1, h2, h3, h4, h5⟩ := fv r l.length m h hm (by omega)
  have hv := h3 (by omega)
  unfold aY.f
  rw [h1]
  simp only [Option.bind_some]
  rw [af h2, List.getElem?_eq_getElem (show v.toNat < l.length by omega)]
  exact ⟨_, _, rfl, List.getElem_mem _, h5⟩
theorem la (l : List Int) (hl : l.length ≤ 1048576) (hb : ∀ y ∈ l, 0 ≤ y ∧ y ≤ 255) : ∃ r, dX.f l = some r ∧ cu r 0 := by
  unfold dX.f
  by_cases h : 2000 < (l.length : Int)
  · rw [if_pos h, af (by omega), af (by omega), af (by omega)]
    exact ⟨_, rfl, fun x hx => hb x (List.mem_of_mem_take hx), by simp; omega, by dsimp only; omega, by dsimp only; omega⟩
  · rw [if_neg h]
    exact ⟨_, rfl, hb, hl, by dsimp only; omega, by dsimp only; omega⟩
theorem gl : ∀ l m : List GEx, bD (l ++ m) = bD l + bD m
  | [], m => by simp [dH]
  | x :: l, m => by rw [List.cons_append, ci, ci, gl l m]; omega
theorem ib (x : GEx) : bD [x] = exN x := by rw [ci, dH]; omega
theorem nV (a b c : Int) : exN ⟨a, b, c, []⟩ = 1 := by rw [bY, dH]
theorem uq (k : Nat) (rec' : Gl14Rd → Int → Option (GEx × Gl14Rd)) (p1 : Int) (B N : Nat) (M : Int)
    (H : ∀ (r : Gl14Rd) (m : Int), cu r m → m ≤ M → ∃ x r', rec' r (IntKind.wrap .i64 (p1 - 1)) = some (x, r') ∧ cu r' (m + B) ∧ exN x ≤ N) :
    ∀ (c n : Nat) (b : List Int) (p m : Int) (acc : List GEx), c < n → c ≤ 3 → cu ⟨b, p⟩ m → m + c * B ≤ M + B → bD acc + c * N ≤ 1000000 →
      ∃ acc' b' p', aW.l0 k rec' p1 n b p acc (c : Int) = some (acc', b', p') ∧ cu ⟨b', p'⟩ (m + c * B) ∧ bD acc' ≤ bD acc + c * N := by
  intro c
  induction c with
  | zero =>
    intro n b p m acc hn hc hr hm ha
    obtain ⟨n, rfl⟩ : ∃ m, n = m + 1 := ⟨n - 1, by omega⟩
    rw [aW.l0, if_neg (by omega)]
    exact ⟨_, _, _, rfl, by simpa using hr, by simp⟩
  | succ c ih =>
    intro n b p m acc hn hc hr hm ha
    obtain ⟨n, rfl⟩ : ∃ m, n = m + 1 := ⟨n - 1, by omega⟩
    have hcB : ((c + 1 : Nat) : Int) * B = c * B + B := by rw [Int.natCast_succ, Int.add_mul]; omega
    have hcN : (c + 1) * N = c * N + N := Nat.succ_mul c N
    have hcB0 : (0 : Int) ≤ c * B := Int.mul_nonneg (by omega) (by omega)
    obtain ⟨x, r', e1, e2, e3⟩ := H ⟨b, p⟩ m hr (by omega)
    have hla := dV acc
    rw [aW.l0, if_pos (by omega), e1]
    simp only [Option.bind_some]
    rw [af (by omega), wrP c (by omega)]
    obtain ⟨acc', b', p', q1, q2, q3⟩ := ih n r'.b r'.p (m + B) (acc ++ [x]) (by omega) (by omega) e2 (by omega) (by rw [gl, ib]; omega)
    refine ⟨acc', b', p', q1, q2.mono (by omega), ?_⟩
    rw [gl, ib] at q3
    omega
theorem tZ (k : Nat) (rec' : Gl14Rd → Int → Option (GEx × Gl14Rd)) (p1 : Int) (B N : Nat) (M : Int)
    (H : ∀ (r : Gl14Rd) (m : Int), cu r m → m ≤ M → ∃ x r', rec' r (IntKind.wrap .i64 (p1 - 1)) = some (x, r') ∧ cu r' (m + B) ∧ exN x ≤ N) :
    ∀ (c n : Nat) (b : List Int) (p m : Int) (acc : List GEx), c < n → c ≤ 3 → cu ⟨b, p⟩ m → m + c * B ≤ M + B → bD acc + c * N ≤ 1000000 →
      ∃ acc' b' p', aW.l1 k rec' p1 n b p acc (c : Int) = some (acc', b', p') ∧ cu ⟨b', p'⟩ (m + c * B) ∧ bD acc' ≤ bD acc + c * N := by
  intro c
  induction c with
  | zero =>
    intro n b p m acc hn hc hr hm ha
    obtain ⟨n, rfl⟩ : ∃ m, n = m + 1 := ⟨n - 1, by omega⟩
    rw [aW.l1, if_neg (by omega)]
    exact ⟨_, _, _, rfl, by simpa using hr, by simp⟩
  | succ c ih =>
    intro n b p m acc hn hc hr hm ha
    obtain ⟨n, rfl⟩ : ∃ m, n = m + 1 := ⟨n - 1, by omega⟩
    have hcB : ((c + 1 : Nat) : Int) * B = c * B + B := by rw [Int.natCast_succ, Int.add_mul]; omega
    have hcN : (c + 1) * N = c * N + N := Nat.succ_mul c N
    have hcB0 : (0 : Int) ≤ c * B := Int.mul_nonneg (by omega) (by omega)
    obtain ⟨x, r', e1, e2, e3⟩ := H ⟨b, p⟩ m hr (by omega)
    have hla := dV acc
    rw [aW.l1, if_pos (by omega), e1]
    simp only [Option.bind_some]
    rw [af (by omega), wrP c (by omega)]
    obtain ⟨acc', b', p', q1, q2, q3⟩ := ih n r'.b r'.p (m + B) (acc ++ [x]) (by omega) (by omega) e2 (by omega) (by rw [gl, ib]; omega)
    refine ⟨acc', b', p', q1, q2.mono (by omega), ?_⟩
    rw [gl, ib] at q3
    omega
theorem vO {v : Int} (h : v ∈ ([2, 3, 3, 4, 4, 4, 5, 6, 7] : List Int)) : ∃ c : Nat, jc v = (c : Int) ∧ c ≤ 3 := by
  simp only [List.mem_cons, List.not_mem_nil, or_false] at h
  rcases h with rfl | rfl | rfl | rfl | rfl | rfl | rfl | rfl | rfl
  all_goals first | exact ⟨2, rfl, by omega⟩ | exact ⟨3, rfl, by omega⟩ | exact ⟨1, rfl, by omega⟩
theorem uW : ∀ (d : Nat), d ≤ 4 → ∀ (k : Nat), 1000000000000 + d ≤ k → ∀ (r : Gl14Rd) (m : Int), cu r m → m ≤ 1000000 - 10 ^ (d + 1) → ∃ x r', aW.f k r (d : Int) = some (x, r') ∧ cu r' (m + (10 ^ (d + 1) : Nat)) ∧ exN x ≤ 4 ^ d := by
  intro d
  induction d with
  | zero =>
    intro hd k hk r m hr hm
    obtain ⟨k, rfl⟩ : ∃ m, k = m + 1 := ⟨k - 1, by omega⟩
    obtain ⟨v, r', h1, h2, h3⟩ := dJ r [0, 0, 1, 1, 2, 2, 3, 4] m hr (by omega) (by simp)
    rw [aW.f, if_neg (by omega), h1]
    exact ⟨_, _, rfl, h3.mono (by omega), by rw [nV]; simp⟩
  | succ d ih =>
    intro hd k hk r m hr hm
    obtain ⟨k, rfl⟩ : ∃ m, k = m + 1 := ⟨k - 1, by omega⟩
    have p10 : (10 : Nat) ^ (d + 1 + 1) = 10 ^ (d + 1) * 10 := Nat.pow_succ ..
    have p10i : (10 : Int) ^ (d + 1 + 1) = 10 ^ (d + 1) * 10 := Int.pow_succ ..
    have c10 : ((10 ^ (d + 1) : Nat) : Int) = (10 : Int) ^ (d + 1) := by push_cast; rfl
    have b10 : 10 ≤ (10 : Nat) ^ (d + 1) := by rw [Nat.pow_succ]; have := Nat.one_le_pow d 10 (by omega); omega
    have p4 : (4 : Nat) ^ (d + 1) = 4 ^ d * 4 := Nat.pow_succ ..
    have b4 : 1 ≤ (4 : Nat) ^ d := Nat.one_le_pow d 4 (by omega)
    have t4 : (4 : Nat) ^ d ≤ 4 ^ 3 := Nat.pow_le_pow_right (by omega) (by omega)
    have t10 : (10 : Nat) ^ (d + 1) ≤ 10 ^ 4 := Nat.pow_le_pow_right (by omega) (by omega)
    rw [aW.f]
    by_cases h1 : 1 < ((d + 1 : Nat) : Int)
    rotate_left
    · rw [if_neg h1]
      obtain ⟨v, r', e1, e2, e3⟩ := dJ r [0, 0, 1, 1, 2, 2, 3, 4] m hr (by omega) (by simp)
      rw [e1]
      exact ⟨_, _, rfl, e3.mono (by omega), by rw [nV]; omega⟩
    rw [if_pos h1]
    obtain ⟨v, r1, e1, e2, e3, e4, e5⟩ := fv r 4 m hr (by omega) (by omega)
    rw [e1]
    simp only [Option.bind_some]
    by_cases h2 : v = 0
    · rw [if_pos h2]
      obtain ⟨v, r', g1, g2, g3⟩ := dJ r1 [0, 0, 1, 1, 2, 2, 3, 4] (m + 1) e5 (by omega) (by simp)
      rw [g1]
      exact ⟨_, _, rfl, g3.mono (by omega), by rw [nV]; omega⟩
    rw [if_neg h2]
    obtain ⟨kd, r2, g1, g2, g3⟩ := dJ r1 [2, 3, 3, 4, 4, 4, 5, 6, 7] (m + 1) e5 (by omega) (by simp)
    rw [g1]
    simp only [Option.bind_some]
    obtain ⟨c, hc, hc3⟩ := vO g2
    have H : ∀ (r : Gl14Rd) (m : Int), cu r m → m ≤ 1000000 - 10 ^ (d + 1) → ∃ x r', aW.f k r (IntKind.wrap .i64 (((d + 1 : Nat) : Int) - 1)) = some (x, r') ∧ cu r' (m + (10 ^ (d + 1) : Nat)) ∧ exN x ≤ 4 ^ d := fun r m hr hm => by
      rw [wrP d (by omega)]
      exact ih (by omega) k (by omega) r m hr hm
    have fin : ∀ (acc : List GEx), bD acc ≤ bD [] + c * 4 ^ d → 1 + bD acc ≤ 4 ^ (d + 1) := fun acc h => by
      have : c * 4 ^ d ≤ 3 * 4 ^ d := Nat.mul_le_mul_right _ hc3
      rw [dH] at h
      omega
    have cB : (c : Int) * (10 ^ (d + 1) : Nat) ≤ 3 * (10 ^ (d + 1) : Nat) := Int.mul_le_mul_of_nonneg_right (by omega) (by omega)
    have cN : c * 4 ^ d ≤ 3 * 4 ^ d := Nat.mul_le_mul_right _ hc3
    by_cases h3 : kd = 7
    · rw [if_pos h3]
      obtain ⟨n, r3, f1, f2, f3⟩ := dJ r2 [1, 2, 3, 5, 20] (m + 1 + 1) g3 (by omega) (by simp)
      rw [f1, mB, hc]
      simp only [Option.bind_some]
      obtain ⟨acc, b', p', q1, q2, q3⟩ := uq k (aW.f k) ((d + 1 : Nat) : Int) (10 ^ (d + 1)) (4 ^ d) (1000000 - 10 ^ (d + 1)) H c k r3.b r3.p (m + 1 + 1 + 1) [] (by omega) hc3 f3 (by omega) (by rw [dH]; omega)
      rw [q1]
      exact ⟨_, _, rfl, q2.mono (by omega), by rw [bY]; exact fin acc q3⟩
    · rw [if_neg h3]
      rw [mB, hc]
      simp only [Option.bind_some]
      obtain ⟨acc, b', p', q1, q2, q3⟩ := tZ k (aW.f k) ((d + 1 : Nat) : Int) (10 ^ (d + 1)) (4 ^ d) (1000000 - 10 ^ (d + 1)) H c k r2.b r2.p (m + 1 + 1) [] (by omega) hc3 g3 (by omega) (by rw [dH]; omega)
      rw [q1]
      exact ⟨_, _, rfl, q2.mono (by omega), by rw [bY]; exact fin acc q3⟩
theorem rD (k : Nat) (hk : 2000000000000 ≤ k) (r : Gl14Rd) (m : Int) (hr : cu r m) (hm : m ≤ 500000) : ∃ x r', fq.f k r = some (x, r') ∧ cu r' (m + 200000) ∧ exN x ≤ 256 := by
  unfold fq.f
  obtain ⟨v, r1, e1, e2, e3, e4, e5⟩ := fv r 4 m hr (by omega) (by omega)
  have hv := e3 (by omega)
  rw [e1]
  simp only [Option.bind_some]
  rw [wr (1 + v) (by omega)]
  obtain ⟨d, hd⟩ : ∃ d : Nat, 1 + v = (d : Int) := ⟨(1 + v).toNat, by omega⟩
  have t4 : (4 : Nat) ^ d ≤ 4 ^ 4 := Nat.pow_le_pow_right (by omega) (by omega)
  have t10 : (10 : Nat) ^ (d + 1) ≤ 10 ^ 5 := Nat.pow_le_pow_right (by omega) (by omega)
  have t10i : ((10 ^ (d + 1) : Nat) : Int) = (10 : Int) ^ (d + 1) := by push_cast; rfl
  obtain ⟨x, r2, g1, g2, g3⟩ := uW d (by omega) k (by omega) r1 (m + 1) e5 (by omega)
  rw [hd, g1]
  simp only [Option.bind_some]
  rw [nt x (by omega) k (by omega)]
  simp only [Option.bind_some]
  split
  · exact ⟨_, _, rfl, g2.mono (by omega), by omega⟩
  · obtain ⟨y, r3, f1, f2, f3⟩ := uW 2 (by omega) k (by omega) r2 (m + 1 + (10 ^ (d + 1) : Nat)) g2 (by omega)
    rw [show (2 : Int) = ((2 : Nat) : Int) from rfl, f1]
    exact ⟨_, _, rfl, f2.mono (by omega), by show exN y ≤ 256; omega⟩
theorem tr (k : Nat) (rec' : GEx → Option GEx) (e : GEx) (hl : e.Kids.length ≤ 1000000) (H : ∀ y ∈ e.Kids, rec' y = some y) : ∀ (d i n : Nat) (acc : List GEx), i + d = e.Kids.length → d < n → acc = e.Kids.take i → bC.l0 k rec' e n acc (i : Int) = some e.Kids := by
  intro d
  induction d with
  | zero =>
    intro i n acc hi hn ha
    obtain ⟨n, rfl⟩ : ∃ m, n = m + 1 := ⟨n - 1, by omega⟩
    rw [bC.l0, if_neg (by omega), ha, List.take_of_length_le (by omega)]
  | succ d ih =>
    intro i n acc hi hn ha
    obtain ⟨n, rfl⟩ : ∃ m, n = m + 1 := ⟨n - 1, by omega⟩
    have h : i < e.Kids.length := by omega
    rw [bC.l0, if_pos (by omega), af (by omega), Int.toNat_natCast, List.getElem?_eq_getElem h]
    simp only [Option.bind_some, H _ (List.getElem_mem h)]
    have hal : acc.length ≤ e.Kids.length := by rw [ha, List.length_take]; omega
    rw [af (by omega), wrS i (by omega)]
    refine ih (i + 1) n _ (by omega) (by omega) ?_
    rw [ha, List.take_add_one, List.getElem?_eq_getElem h]; rfl
theorem wl : ∀ e : GEx, exN e ≤ 1000000 → ∀ k : Nat, 1000000000000 + exN e ≤ k → bC.f k e = some e := by
  refine fA fun e ih hn k hk => ?_
  rw [bY] at hn hk
  obtain ⟨k, rfl⟩ : ∃ m, k = m + 1 := ⟨k - 1, by omega⟩
  have hq := dV e.Kids
  have := tr k (bC.f k) e (by omega) (fun y hy => by have := dl hy; exact ih y hy (by omega) k (by omega)) e.Kids.length 0 k [] (by omega) (by omega) (by simp)
  rw [show ((0 : Nat) : Int) = 0 from rfl] at this
  rw [bC.f, this]; cases e; rfl
theorem uz (k : Nat) : ∀ (c n : Nat) (a b d : Int) (ks : List GEx), c ≤ 5 → c < n → bD ks + c ≤ 100000 → ∃ a' b' d' ks', bn.l0 k n a b d ks (5 - (c : Int)) = some (a', b', d', ks') ∧ bD ks' ≤ bD ks + c := by
  intro c
  induction c with
  | zero =>
    intro n a b d ks hc hn hk
    obtain ⟨n, rfl⟩ : ∃ m, n = m + 1 := ⟨n - 1, by omega⟩
    rw [bn.l0, if_neg (by omega)]
    exact ⟨_, _, _, _, rfl, by omega⟩
  | succ c ih =>
    intro n a b d ks hc hn hk
    obtain ⟨n, rfl⟩ : ∃ m, n = m + 1 := ⟨n - 1, by omega⟩
    rw [bn.l0, if_pos (by omega), wr _ (by omega), show 5 - ((c + 1 : Nat) : Int) + 1 = 5 - (c : Int) by omega]
    have e : bD [(⟨a, b, d, ks⟩ : GEx)] = 1 + bD ks := by rw [ib, bY]
    obtain ⟨a', b', d', ks', h1, h2⟩ := ih n 7 0 1 [⟨a, b, d, ks⟩] (by omega) (by omega) (by omega)
    exact ⟨_, _, _, _, h1, by omega⟩
theorem uv (k : Nat) (hk : 2000000000000 ≤ k) : ∀ (c n : Nat) (a b d : Int) (ks : List GEx), c ≤ 4 → c < n → (bD ks + 3) * 2 ^ c ≤ 100000 → ∃ a' b' d' ks', bn.l1 k n a b d ks (4 - (c : Int)) = some (a', b', d', ks') ∧ bD ks' ≤ 100000 := by
  intro c
  induction c with
  | zero =>
    intro n a b d ks hc hn hk
    obtain ⟨n, rfl⟩ : ∃ m, n = m + 1 := ⟨n - 1, by omega⟩
    rw [bn.l1, if_neg (by omega)]
    exact ⟨_, _, _, _, rfl, by omega⟩
  | succ c ih =>
    intro n a b d ks hc hn hks
    obtain ⟨n, rfl⟩ : ∃ m, n = m + 1 := ⟨n - 1, by omega⟩
    have p2 : (2 : Nat) ^ (c + 1) = 2 ^ c * 2 := Nat.pow_succ ..
    have b2 : 1 ≤ (2 : Nat) ^ c := Nat.one_le_pow c 2 (by omega)
    have e : exN (⟨a, b, d, ks⟩ : GEx) = 1 + bD ks := by rw [bY]
    have m2 : (bD ks + 3) * 2 ^ (c + 1) = (2 * (bD ks + 3)) * 2 ^ c := by rw [p2, Nat.mul_comm (2 ^ c) 2, ← Nat.mul_assoc, Nat.mul_comm (bD ks + 3) 2]
    have m3 : 2 * (bD ks + 3) ≤ 2 * (bD ks + 3) * 2 ^ c := Nat.le_mul_of_pos_right _ (by omega)
    rw [bn.l1, if_pos (by omega), wl _ (by omega) k (by omega), wr _ (by omega), show 4 - ((c + 1 : Nat) : Int) + 1 = 4 - (c : Int) by omega]
    simp only [Option.bind_some]
    have e2 : bD [(⟨a, b, d, ks⟩ : GEx), ⟨a, b, d, ks⟩] = 2 * (bD ks + 1) := by rw [ci, ib]; omega
    refine ih n 2 0 0 _ (by omega) (by omega) ?_
    rw [e2]
    exact Nat.le_trans (Nat.mul_le_mul_right (m := 2 * (bD ks + 3)) _ (by omega)) (by rw [← m2]; exact hks)
theorem rK (k : Nat) (hk : 2000000000000 ≤ k) (r : Gl14Rd) (m : Int) (hr : cu r m) (hm : m ≤ 400000) : ∃ x r', bn.f k r = some (x, r') ∧ cu r' (m + 300000) ∧ exN x ≤ 100001 := by
  unfold bn.f
  obtain ⟨x, r1, e1, e2, e3⟩ := rD k hk r m hr (by omega)
  rw [e1]
  simp only [Option.bind_some]
  obtain ⟨v, r2, g1, g2, g3, g4, g5⟩ := fv r1 60 (m + 200000) e2 (by omega) (by omega)
  rw [g1]
  simp only [Option.bind_some]
  have hx : bD x.Kids ≤ 256 := by rw [bY] at e3; omega
  have fin : ∀ a b c, exN (⟨a, b, c, x.Kids⟩ : GEx) ≤ 100001 := fun a b c => by rw [bY]; show 1 + bD x.Kids ≤ _; omega
  split
  · obtain ⟨w, r3, f1, f2, f3⟩ := dJ r2 [0, 8, 2, 5] (m + 200000 + 1) g5 (by omega) (by simp)
    rw [f1]
    exact ⟨_, _, rfl, f3.mono (by omega), fin _ _ _⟩
  split
  · obtain ⟨w, r3, f1, f2, f3⟩ := dJ r2 [(-1), 5, 1] (m + 200000 + 1) g5 (by omega) (by simp)
    rw [f1]
    exact ⟨_, _, rfl, f3.mono (by omega), fin _ _ _⟩
  split
  · obtain ⟨w, r3, f1, f2, f3⟩ := dJ r2 [(-1), 21, 1, 0] (m + 200000 + 1) g5 (by omega) (by simp)
    rw [f1]
    exact ⟨_, _, rfl, f3.mono (by omega), fin _ _ _⟩
  split
  · obtain ⟨a', b', d', ks', q1, q2⟩ := uz k 5 k x.Kind x.Sym x.N x.Kids (by omega) (by omega) (by omega)
    rw [show (5 : Int) - ((5 : Nat) : Int) = 0 from rfl] at q1
    rw [q1]
    exact ⟨_, _, rfl, g5.mono (by omega), by rw [bY]; show 1 + bD ks' ≤ _; omega⟩
  split
  · obtain ⟨a', b', d', ks', q1, q2⟩ := uv k hk 4 k x.Kind x.Sym x.N x.Kids (by omega) (by omega) (by omega)
    rw [show (4 : Int) - ((4 : Nat) : Int) = 0 from rfl] at q1
    rw [q1]
    exact ⟨_, _, rfl, g5.mono (by omega), by rw [bY]; show 1 + bD ks' ≤ _; omega⟩
  · exact ⟨_, _, rfl, g5.mono (by omega), by show exN x ≤ _; omega⟩
theorem ut (k : Nat) : ∀ (c n : Nat) (b : List Int) (p m at' : Int) (acc : List GEv), c < n → c ≤ 100 → cu ⟨b, p⟩ m → m + 3 * c ≤ 1000000000 → 0 ≤ at' → at' + 7 * c ≤ 1000000 → acc.length + c ≤ 1000 →
    ∃ acc' b' p', cm.l0 k n b p acc at' (c : Int) = some (acc', b', p') ∧ cu ⟨b', p'⟩ (m + 3 * c) ∧ acc'.length = acc.length + c := by
  intro c
  induction c with
  | zero =>
    intro n b p m at' acc hn hc hr hm h0 h1 ha
    obtain ⟨n, rfl⟩ : ∃ m, n = m + 1 := ⟨n - 1, by omega⟩
    rw [cm.l0, if_neg (by omega)]
    exact ⟨_, _, _, rfl, hr.mono (by omega), by omega⟩
  | succ c ih =>
    intro n b p m at' acc hn hc hr hm h0 h1 ha
    obtain ⟨n, rfl⟩ : ∃ m, n = m + 1 := ⟨n - 1, by omega⟩
    obtain ⟨v, r1, e1, e2, e3⟩ := dJ ⟨b, p⟩ [1, 1, 1, 2, 3, 7] m hr (by omega) (by simp)
    obtain ⟨w, r2, f1, f2, f3⟩ := dJ r1 [0, 0, 1, 1, 2, 2, 3, 4] (m + 1) e3 (by omega) (by simp)
    obtain ⟨u, r3, g1, g2, g3⟩ := dJ r2 [0, 0, 1, 5, 100] (m + 1 + 1) f3 (by omega) (by simp)
    have hv : 1 ≤ v ∧ v ≤ 7 := by
      simp only [List.mem_cons, List.not_mem_nil, or_false] at e2
      omega
    rw [cm.l0, if_pos (by omega), e1]
    simp only [Option.bind_some]
    rw [f1]
    simp only [Option.bind_some]
    rw [g1]
    simp only [Option.bind_some]
    rw [af (by omega), wr (at' + v) (by omega), wrP c (by omega)]
    obtain ⟨acc', b', p', q1, q2, q3⟩ := ih n r3.b r3.p (m + 1 + 1 + 1) (at' + v) (acc ++ [⟨w, at' + v, u⟩]) (by omega) (by omega) g3 (by omega) (by omega) (by omega) (by simp; omega)
    exact ⟨acc', b', p', q1, q2.mono (by omega), by rw [q3]; simp; omega⟩
theorem mR (k : Nat) (hk : 1000 ≤ k) (r : Gl14Rd) (m : Int) (hr : cu r m) (hm : m ≤ 1000000) (q : Nat) (hq : q ≤ 50) : ∃ l r', cm.f k r (q : Int) = some (l, r') ∧ cu r' (m + 200) ∧ l.length ≤ q := by
  unfold cm.f
  rw [wrS q (by omega)]
  obtain ⟨v, r1, e1, e2, e3, e4, e5⟩ := fv r ((q + 1 : Nat) : Int) m hr (by omega) (by omega)
  have hv := e3 (by omega)
  rw [e1]
  simp only [Option.bind_some]
  obtain ⟨c, rfl⟩ : ∃ c : Nat, v = (c : Int) := ⟨v.toNat, by omega⟩
  obtain ⟨acc', b', p', q1, q2, q3⟩ := ut k c k r1.b r1.p (m + 1) 0 [] (by omega) (by omega) e5 (by omega) (by omega) (by omega) (by simp; omega)
  rw [q1]
  exact ⟨_, _, rfl, q2.mono (by omega), by rw [q3]; simp; omega⟩
theorem s4 (k : Nat) : ∀ (d n : Nat) (l : List GEv), l.length + d = 25 → d < n → 1 ≤ l.length → ∃ l', cA.l0 k n l = some l' ∧ l'.length = 25 := by
  intro d
  induction d with
  | zero =>
    intro n l hl hn h1
    obtain ⟨n, rfl⟩ : ∃ m, n = m + 1 := ⟨n - 1, by omega⟩
    rw [cA.l0, if_pos (by omega)]
    exact ⟨l, rfl, by omega⟩
  | succ d ih =>
    intro n l hl hn h1
    obtain ⟨n, rfl⟩ : ∃ m, n = m + 1 := ⟨n - 1, by omega⟩
    obtain ⟨j, hj⟩ : ∃ j, l.length = j + 1 := ⟨l.length - 1, by omega⟩
    have ej : IntKind.wrap .i64 (((l.length : Nat) : Int) - 1) = (j : Int) := by rw [hj]; exact wrP j (by omega)
    rw [cA.l0, if_neg (by omega), ej, af (by omega), af (by omega), Int.toNat_natCast, List.getElem?_eq_getElem (show j < l.length by omega)]
    simp only [Option.bind_some]
    rw [af (by omega)]
    exact ih n _ (by simp; omega) (by omega) (by simp)
theorem wi (k : Nat) (hk : 1000 ≤ k) (r : Gl14Rd) (m : Int) (hr : cu r m) (hm : m ≤ 1000000) : ∃ l r', cA.f k r = some (l, r') ∧ cu r' (m + 300) ∧ l.length ≤ 25 := by
  unfold cA.f
  obtain ⟨l, r1, e1, e2, e3⟩ := mR k hk r m hr hm 12 (by omega)
  rw [show (12 : Int) = ((12 : Nat) : Int) from rfl, e1]
  simp only [Option.bind_some]
  by_cases h0 : ((l.length : Nat) : Int) = 0
  · rw [if_pos h0]; exact ⟨_, _, rfl, e2.mono (by omega), by show l.length ≤ 25; omega⟩
  rw [if_neg h0]
  obtain ⟨v, r2, f1, f2, f3, f4, f5⟩ := fv r1 ((l.length : Nat) : Int) (m + 200) e2 (by omega) (by omega)
  have hv := f3 (by omega)
  rw [f1]
  simp only [Option.bind_some]
  obtain ⟨i, rfl⟩ : ∃ i : Nat, v = (i : Int) := ⟨v.toNat, by omega⟩
  have hi : i < l.length := by omega
  obtain ⟨w, r3, g1, g2, g3, g4, g5⟩ := fv r2 40 (m + 200 + 1) f5 (by omega) (by omega)
  rw [g1]
  simp only [Option.bind_some]
  split
  · obtain ⟨u, r4, q1, q2, q3⟩ := dJ r3 [(-1), 5] (m + 200 + 1 + 1) g5 (by omega) (by simp)
    rw [q1]
    simp only [Option.bind_some]
    rw [af (by omega), af (by omega), Int.toNat_natCast, List.getElem?_eq_getElem hi]
    exact ⟨_, _, rfl, q3.mono (by omega), by simp; omega⟩
  split
  · rw [af (by omega), af (by omega), List.getElem?_eq_getElem (show 0 < l.length by omega)]
    simp only [Option.bind_some]
    obtain ⟨u, r4, q1, q2, q3⟩ := dJ r3 [0, 1001, l[0].At] (m + 200 + 1 + 1) g5 (by omega) (by simp)
    rw [q1]
    simp only [Option.bind_some]
    rw [af (by omega), af (by omega), Int.toNat_natCast, List.getElem?_eq_getElem hi]
    exact ⟨_, _, rfl, q3.mono (by omega), by simp; omega⟩
  split
  · obtain ⟨u, r4, q1, q2, q3⟩ := dJ r3 [(-1), 101] (m + 200 + 1 + 1) g5 (by omega) (by simp)
    rw [q1]
    simp only [Option.bind_some]
    rw [af (by omega), af (by omega), Int.toNat_natCast, List.getElem?_eq_getElem hi]
    exact ⟨_, _, rfl, q3.mono (by omega), by simp; omega⟩
  split
  · obtain ⟨l', q1, q2⟩ := s4 k (25 - l.length) k l (by omega) (by omega) (by omega)
    rw [q1]
    exact ⟨_, _, rfl, g5.mono (by omega), by show l'.length ≤ 25; omega⟩
  · exact ⟨_, _, rfl, g5.mono (by omega), by show l.length ≤ 25; omega⟩
theorem vN (r : Gl14Rd) (m : Int) (hr : cu r m) (hm : m ≤ 1000000) : ∃ v r', gf.f r = some (v, r') ∧ cu r' (m + 1) ∧ -1 ≤ v ∧ v ≤ 5 := by
  unfold gf.f
  obtain ⟨v, r1, e1, e2, e3⟩ := dJ r [0, 1, 2, 3, 4, 0, 1, 2, 3, 4, 0, 1, 2, 3, 4, (-1), 5] m hr (by omega) (by simp)
  rw [e1]
  refine ⟨v, r1, rfl, e3, ?_⟩
  simp only [List.mem_cons, List.not_mem_nil, or_false] at e2
  omega
theorem wk (k : Nat) (hk : 2000000000000 ≤ k) (r : Gl14Rd) (m : Int) (hr : cu r m) (hm : m ≤ 100000) : ∃ x mode l r', gh.f k r = some (x, mode, l, r') ∧ cu r' (m + 900000) ∧ exN x ≤ 100001 ∧ l.length ≤ 25 ∧ -1 ≤ mode ∧ mode ≤ 5 := by
  unfold gh.f
  obtain ⟨x, r1, e1, e2, e3⟩ := rD k hk r m hr (by omega)
  rw [e1]
  simp only [Option.bind_some]
  obtain ⟨mode, r2, f1, f2, f3⟩ := vN r1 (m + 200000) e2 (by omega)
  rw [f1]
  simp only [Option.bind_some]
  obtain ⟨v, r3, g1, g2, g3, g4, g5⟩ := fv r2 30 (m + 200000 + 1) f2 (by omega) (by omega)
  rw [g1]
  simp only [Option.bind_some]
  split
  · obtain ⟨y, r4, q1, q2, q3⟩ := rK k hk r3 (m + 200000 + 1 + 1) g5 (by omega)
    rw [q1]
    simp only [Option.bind_some]
    obtain ⟨l, r5, s1, s2, s3⟩ := mR k (by omega) r4 (m + 200000 + 1 + 1 + 300000) q2 (by omega) 10 (by omega)
    rw [show (10 : Int) = ((10 : Nat) : Int) from rfl, s1]
    exact ⟨_, _, _, _, rfl, s2.mono (by omega), q3, by show l.length ≤ 25; omega, f3⟩
  split
  · obtain ⟨l, r5, s1, s2, s3⟩ := wi k (by omega) r3 (m + 200000 + 1 + 1) g5 (by omega)
    rw [s1]
    exact ⟨_, _, _, _, rfl, s2.mono (by omega), by show exN x ≤ _; omega, s3, f3⟩
  split
  · obtain ⟨l, r5, s1, s2, s3⟩ := mR k (by omega) r3 (m + 200000 + 1 + 1) g5 (by omega) 24 (by omega)
    rw [show (24 : Int) = ((24 : Nat) : Int) from rfl, s1]
    exact ⟨_, _, _, _, rfl, s2.mono (by omega), by show exN x ≤ _; omega, by show l.length ≤ 25; omega, f3⟩
  · obtain ⟨l, r5, s1, s2, s3⟩ := mR k (by omega) r3 (m + 200000 + 1 + 1) g5 (by omega) 11 (by omega)
    rw [show (11 : Int) = ((11 : Nat) : Int) from rfl, s1]
    exact ⟨_, _, _, _, rfl, s2.mono (by omega), by show exN x ≤ _; omega, by show l.length ≤ 25; omega, f3⟩
theorem sr (k : Nat) (hk : 2000000000000 ≤ k) (l : List Int) (hl : l.length ≤ 1048576) (hb : ∀ y ∈ l, 0 ≤ y ∧ y ≤ 255) : ∃ x mode ev, cR.f k l = some (x, mode, ev) ∧ exN x ≤ 100001 ∧ ev.length ≤ 25 ∧ -1 ≤ mode ∧ mode ≤ 5 := by
  unfold cR.f
  obtain ⟨r, e1, e2⟩ := la l hl hb
  rw [e1]
  simp only [Option.bind_some]
  obtain ⟨x, mode, ev, r', f1, f2, f3⟩ := wk k hk r 0 e2 (by omega)
  rw [f1]
  exact ⟨_, _, _, rfl, f3⟩
theorem rg (k : Nat) (l : List GOcc) (hl : l.length ≤ 40000000000) (hm : wC l 1000) (hk : 1000000000000 ≤ k) : ∀ (d n i : Nat), i + d = l.length → d < n →
    bg.l0 k (fun y0 y1 => dC.f k y0 y1) l l n (i : Int) = some (.ok ()) := by
  intro d
  induction d with
  | zero =>
    intro n i hi hn
    obtain ⟨n, rfl⟩ : ∃ m, n = m + 1 := ⟨n - 1, by omega⟩
    rw [bg.l0, if_neg (by omega)]
  | succ d ih =>
    intro n i hi hn
    obtain ⟨n, rfl⟩ : ∃ m, n = m + 1 := ⟨n - 1, by omega⟩
    have hlt : i < l.length := by omega
    have hb := hm l[i] (List.getElem_mem hlt)
    rw [bg.l0, if_pos (by omega), af (by omega), Int.toNat_natCast, List.getElem?_eq_getElem hlt]
    simp only [Option.bind_some]
    rw [af (by omega)]
    simp only [dC.f, jY l[i] l[i] (by omega) k (by omega), iy, Option.bind_some, BEq.rfl, if_true]
    rw [wrS i (by omega)]
    exact ih n (i + 1) (by omega) (by omega)
theorem qT (k : Nat) (l : List GOcc) (hl : l.length ≤ 40000000000) (hm : wC l 1000) (hk : 1000000000000 ≤ k) : aI.f k l l = some true := by
  unfold aI.f bg.f
  have := rg k l hl hm hk l.length k 0 (by omega) (by omega)
  rw [show ((0 : Nat) : Int) = 0 from rfl] at this
  rw [if_pos rfl, this]; rfl
/- found at the time of the one that came -/
theorem All.imp {P Q : GOcc → Prop} {l : List GOcc} (h : All P l) (hi : ∀ o, P o → Q o) : All Q l := fun x hx => hi x (h x hx)
/-- which of the first i elements stand again among those before them, or are no pj -/
def fK (l : List Int) (i : Nat) : Bool := match l[i]? with
  | some x => decide (0 ≤ x) && decide (x ≤ 4) && !((l.take i).contains x)
  | none => false
def bf (l : List Int) : Bool := (List.range' 0 l.length).all (fK l) && decide (l.length = 5)
theorem m5 (k : Nat) (l : List Int) (x : Int) (hl : l.length < 4611686018427387904) : ∀ (d n i : Nat), i + d = l.length → d < n →
    cz.l0 k l x n (i : Int) = some (match (l.drop i).idxOf? x with
      | some j => .error ((i + j : Nat) : Int)
      | none => .ok ()) := by
  intro d
  induction d with
  | zero =>
    intro n i hi hn
    obtain ⟨n, rfl⟩ : ∃ m, n = m + 1 := ⟨n - 1, by omega⟩
    rw [cz.l0, if_neg (by omega), List.drop_eq_nil_of_le (by omega)]; rfl
  | succ d ih =>
    intro n i hi hn
    obtain ⟨n, rfl⟩ : ∃ m, n = m + 1 := ⟨n - 1, by omega⟩
    have hlt : i < l.length := by omega
    rw [cz.l0, if_pos (by omega), af (by omega), Int.toNat_natCast, List.getElem?_eq_getElem hlt]
    simp only [Option.bind_some]
    rw [List.drop_eq_getElem_cons hlt, List.idxOf?_cons]
    by_cases h : x = l[i]
    · rw [if_pos h]; simp [h]
    · rw [if_neg h, wrS i (by omega), ih n (i + 1) (by omega) (by omega)]
      have : (l[i] == x) = false := by simpa using fun e => h e.symm
      rw [this]
      cases (l.drop (i + 1)).idxOf? x with
      | none => rfl
      | some j => simp only [Bool.false_eq_true, if_false, Option.map_some, Option.some.injEq, Except.error.injEq]; push_cast; omega
theorem mq (l : List Int) (x : Int) (hl : l.length < 4611686018427387904) : ∀ k, l.length + 1 ≤ k → ed.f k l x = some (l.contains x) := by
  intro k hk
  unfold ed.f cz.f
  have := m5 k l x hl l.length k 0 (by omega) (by omega)
  rw [show ((0 : Nat) : Int) = 0 from rfl] at this
  rw [this]
  simp only [List.drop_zero]
  cases h : l.idxOf? x with
  | none =>
    have : x ∉ l := by simpa using h
    simp [this]
  | some j =>
    have : x ∈ l := by
      rcases Classical.em (x ∈ l) with h1 | h1
      · exact h1
      · rw [← List.idxOf?_eq_none_iff] at h1; rw [h1] at h; cases h
    simp [this]
theorem n5 (k : Nat) (l : List Int) (hl : l.length < 4611686018427387904) (hk : l.length + 1 ≤ k) : ∀ (d n i : Nat), i + d = l.length → d < n →
    bO.l0 k l n (i : Int) = some (if (List.range' i d).all (fK l) then .ok () else .error false) := by
  intro d
  induction d with
  | zero =>
    intro n i hi hn
    obtain ⟨n, rfl⟩ : ∃ m, n = m + 1 := ⟨n - 1, by omega⟩
    rw [bO.l0, if_neg (by omega)]; simp
  | succ d ih =>
    intro n i hi hn
    obtain ⟨n, rfl⟩ : ∃ m, n = m + 1 := ⟨n - 1, by omega⟩
    have hlt : i < l.length := by omega
    have hnext := ih n (i + 1) (by omega) (by omega)
    rw [bO.l0, if_pos (by omega), af (by omega), Int.toNat_natCast, List.getElem?_eq_getElem hlt]
    simp only [Option.bind_some, eh.f, ri, List.range'_succ, List.all_cons]
    have hg : fK l i = (decide (0 ≤ l[i]) && decide (l[i] ≤ 4) && !((l.take i).contains l[i])) := by unfold fK; rw [List.getElem?_eq_getElem hlt]
    rw [hg]
    cases h : (decide (0 ≤ l[i]) && decide (l[i] ≤ 4))
    · simp
    · simp only [if_true]
      rw [af (by omega), af (by omega), af (by omega), mq _ _ (by simp; omega) k (by simp; omega)]
      simp only [Option.bind_some]
      cases h2 : (l.take i).contains l[i]
      · simp only [Bool.false_eq_true, if_false]
        rw [wrS i (by omega), hnext]; simp only [Bool.not_false, Bool.true_and]
      · simp
theorem m6 (k : Nat) (l : List Int) (i : Nat) (hlt : i < l.length) (hl : l.length < 4611686018427387904) : ∀ (d n j : Nat), j + d = i → d < n →
    aU.l3 k l (i : Int) n (j : Int) = some (if ((l.take i).drop j).contains l[i] then .error false else .ok ()) := by
  intro d
  induction d with
  | zero =>
    intro n j hj hn
    obtain ⟨n, rfl⟩ : ∃ m, n = m + 1 := ⟨n - 1, by omega⟩
    rw [aU.l3, if_neg (by omega), List.drop_eq_nil_of_le (by simp; omega)]; rfl
  | succ d ih =>
    intro n j hj hn
    obtain ⟨n, rfl⟩ : ∃ m, n = m + 1 := ⟨n - 1, by omega⟩
    have hjl : j < l.length := by omega
    rw [aU.l3, if_pos (by omega), af (by omega), Int.toNat_natCast, List.getElem?_eq_getElem hjl]
    simp only [Option.bind_some]
    rw [af (by omega), Int.toNat_natCast, List.getElem?_eq_getElem hlt]
    simp only [Option.bind_some]
    rw [List.drop_eq_getElem_cons (by simp; omega), List.contains_cons]
    simp only [List.getElem_take]
    by_cases h : l[j] = l[i]
    · rw [if_pos h]; simp [h]
    · rw [if_neg h, wrS j (by omega), ih n (j + 1) (by omega) (by omega)]
      have : (l[i] == l[j]) = false := by simpa using fun e => h e.symm
      rw [this, Bool.false_or]
theorem n7 (k : Nat) (l : List Int) (hl : l.length < 4611686018427387904) (hk : l.length + 1 ≤ k) : ∀ (d n i : Nat), i + d = l.length → d < n →
    aU.l2 k l n (i : Int) = some (if (List.range' i d).all (fK l) then .ok () else .error false) := by
  intro d
  induction d with
  | zero =>
    intro n i hi hn
    obtain ⟨n, rfl⟩ : ∃ m, n = m + 1 := ⟨n - 1, by omega⟩
    rw [aU.l2, if_neg (by omega)]; simp
  | succ d ih =>
    intro n i hi hn
    obtain ⟨n, rfl⟩ : ∃ m, n = m + 1 := ⟨n - 1, by omega⟩
    have hlt : i < l.length := by omega
    have hnext := ih n (i + 1) (by omega) (by omega)
    rw [aU.l2, if_pos (by omega), af (by omega), Int.toNat_natCast, List.getElem?_eq_getElem hlt]
    simp only [Option.bind_some, List.range'_succ, List.all_cons]
    have hg : fK l i = (decide (0 ≤ l[i]) && decide (l[i] ≤ 4) && !((l.take i).contains l[i])) := by unfold fK; rw [List.getElem?_eq_getElem hlt]
    rw [hg]
    by_cases h1 : l[i] < 0
    · rw [if_pos h1]
      have : ¬ 0 ≤ l[i] := by omega
      simp [this]
    rw [if_neg h1, af (by omega)]
    by_cases h2 : l[i] < 5
    · rw [if_pos h2]
      have hin := m6 k l i hlt hl i k 0 (by omega) (by omega)
      rw [show ((0 : Nat) : Int) = 0 from rfl, List.drop_zero] at hin
      rw [hin]
      have e1 : 0 ≤ l[i] := by omega
      have e2 : l[i] ≤ 4 := by omega
      simp only [e1, e2, decide_true, Bool.true_and]
      cases (l.take i).contains l[i]
      · simp only [Bool.false_eq_true, if_false, Option.bind_some, Bool.not_false, Bool.true_and]
        rw [wrS i (by omega), hnext]
      · simp
    · rw [if_neg h2]
      have : ¬ l[i] ≤ 4 := by omega
      simp [this]
theorem fU {l : List Int} (h : bf l = true) : l.length = 5 := by
  unfold bf at h; simp at h; exact h.2
theorem fQ {l : List Int} (h : bf l = true) {i : Nat} (hi : i < 5) : ∃ x, l[i]? = some x ∧ 0 ≤ x ∧ x ≤ 4 := by
  have hlen := fU h
  unfold bf at h
  simp only [Bool.and_eq_true, List.all_eq_true, List.mem_range'] at h
  have := h.1 i ⟨i, by omega, by omega⟩
  unfold fK at this
  rw [List.getElem?_eq_getElem (show i < l.length by omega)] at this ⊢
  simp at this
  exact ⟨_, rfl, this.1.1, this.1.2⟩
def fG (by' : List Int) (e : GEv) : GEv := ⟨by'.getD e.Sym.toNat 0, e.At, e.Val⟩
theorem ni (k : Nat) (l : List GEv) (b : List Int) (hl : l.length < 100) (hb : bf b = true) (hev : ∀ e ∈ l, 0 ≤ e.Sym ∧ e.Sym < 5) : ∀ (d n i : Nat) (acc : List GEv), i + d = l.length → d < n → acc = (l.take i).map (fG b) ++ l.drop i →
    aR.l0 k b l n acc (i : Int) = some (l.map (fG b)) := by
  intro d
  induction d with
  | zero =>
    intro n i acc hi hn ha
    obtain ⟨n, rfl⟩ : ∃ m, n = m + 1 := ⟨n - 1, by omega⟩
    rw [aR.l0, if_neg (by omega), ha, show i = l.length by omega, List.take_length]; simp
  | succ d ih =>
    intro n i acc hi hn ha
    obtain ⟨n, rfl⟩ : ∃ m, n = m + 1 := ⟨n - 1, by omega⟩
    have hlt : i < l.length := by omega
    have hal : acc.length = l.length := by rw [ha]; simp; omega
    have hget : acc[i]? = some l[i] := by
      rw [ha, List.getElem?_append_right (by simp; omega)]
      simp [hlt, Nat.min_eq_left (Nat.le_of_lt hlt)]
    obtain ⟨g1, g2⟩ := hev l[i] (List.getElem_mem hlt)
    obtain ⟨x, hx, _⟩ := fQ hb (i := l[i].Sym.toNat) (by omega)
    rw [aR.l0, if_pos (by omega), af (by omega), af (by omega), Int.toNat_natCast, hget]
    simp only [Option.bind_some]
    rw [af g1, hx]
    simp only [Option.bind_some]
    rw [af (by omega), af (by omega), wrS i (by omega)]
    refine ih n (i + 1) _ (by omega) (by omega) ?_
    rw [ha, List.set_append_right _ _ (by simp; omega)]
    simp only [List.length_map, List.length_take, Nat.min_eq_left (Nat.le_of_lt hlt), Nat.sub_self]
    rw [List.drop_eq_getElem_cons hlt, List.set_cons_zero, show l.take (i + 1) = l.take i ++ [l[i]] from by rw [List.take_add_one, List.getElem?_eq_getElem hlt]; rfl, List.map_append, List.append_assoc]
    simp [fG, List.getD, hx]
def dk (l : List GEv) (b : List Int) : List GEv := if dr l = true ∧ bf b = true then l.map (fG b) else []
theorem mP {l : List GEv} (h : dr l = true) : ∀ e ∈ l, 0 ≤ e.Sym ∧ e.Sym < 5 := fun e he => by
  have := om h he
  unfold gQ at this
  simp at this
  omega
mutual
def cU (b : List Int) : GEx → GEx
  | ⟨a, s, n, ks⟩ => ⟨a, if a = 1 then b.getD s.toNat 0 else s, n, oH b ks⟩
def oH (b : List Int) : List GEx → List GEx
  | [] => []
  | x :: xs => cU b x :: oH b xs
end
theorem qB (b : List Int) : ∀ l : List GEx, oH b l = l.map (cU b)
  | [] => by simp only [oH]; rfl
  | x :: xs => by simp only [oH, qB b xs, List.map_cons]
theorem gH (b : List Int) (e : GEx) : cU b e = ⟨e.Kind, if e.Kind = 1 then b.getD e.Sym.toNat 0 else e.Sym, e.N, e.Kids.map (cU b)⟩ := by cases e; simp only [cU, qB]
theorem sn (f : GEx → GEx) : ∀ (l : List GEx), (∀ x ∈ l, exN (f x) = exN x) → bD (l.map f) = bD l
  | [], _ => rfl
  | x :: xs, h => by rw [List.map_cons, ci, ci, h x (List.mem_cons_self ..), sn f xs fun y hy => h y (List.mem_cons_of_mem _ hy)]
theorem vh (b : List Int) : ∀ e : GEx, exN (cU b e) = exN e := by
  refine fA fun e ih => ?_
  rw [gH, bY, bY e]
  dsimp only
  rw [sn (cU b) e.Kids ih]
theorem jB {e : GEx} (h : ep e = true) : 0 ≤ e.Sym ∧ e.Sym < 5 ∧ (e.Kind = 1 → e.Kids = [] ∧ e.N = 0) := by
  unfold ep at h
  simp only [Bool.and_eq_true, decide_eq_true_eq] at h
  refine ⟨h.1.1.1.2, h.1.1.2, fun h1 => ?_⟩
  have hk := h.1.1.1.1
  have hn := h.2
  rw [if_neg (by omega)] at hn
  rw [h1] at hk
  have : e.Kids.length = 0 := by have : jc 1 = 0 := rfl; omega
  exact ⟨List.length_eq_zero_iff.1 this, by simpa using hn⟩
/- shifts -/
theorem rO (k : Nat) (l : List GEv) (hl : l.length ≤ 1000) : ∀ (d n i : Nat), i + d = l.length → d < n → bF.l0 k l l n (i : Int) = some (.ok ()) := by
  intro d
  induction d with
  | zero =>
    intro n i hi hn
    obtain ⟨n, rfl⟩ : ∃ m, n = m + 1 := ⟨n - 1, by omega⟩
    rw [bF.l0, if_neg (by omega)]
  | succ d ih =>
    intro n i hi hn
    obtain ⟨n, rfl⟩ : ∃ m, n = m + 1 := ⟨n - 1, by omega⟩
    have hlt : i < l.length := by omega
    rw [bF.l0, if_pos (by omega), af (by omega), Int.toNat_natCast, List.getElem?_eq_getElem hlt]
    simp only [Option.bind_some]
    rw [af (by omega)]
    simp only [if_true]
    rw [wrS i (by omega)]
    exact ih n (i + 1) (by omega) (by omega)
theorem sf (k : Nat) (l : List GEv) (hl : l.length ≤ 1000) (hk : 1001 ≤ k) : cJ.f k l l = some true := by
  unfold cJ.f bF.f
  have := rO k l hl l.length k 0 (by omega) (by omega)
  rw [show ((0 : Nat) : Int) = 0 from rfl] at this
  rw [if_pos rfl, this]; rfl
theorem gw (k : Nat) (hk : 1000000000000 ≤ k) (l : List Int) (hl : l.length ≤ 1000000) : bO.f k l = some (bf l) := by
  unfold bO.f bf
  have := n5 k l (by omega) (by omega) l.length k 0 (by omega) (by omega)
  rw [show ((0 : Nat) : Int) = 0 from rfl] at this
  rw [this]
  cases (List.range' 0 l.length).all (fK l)
  · simp
  · simp only [if_true, Option.bind_some, Bool.true_and, Option.some.injEq]
    rw [Bool.eq_iff_iff]; simp; omega
theorem lE (k : Nat) (hk : 1000000000000 ≤ k) (l : List Int) (hl : l.length ≤ 1000000) : aU.f k l = some (bf l) := by
  unfold aU.f bf
  by_cases h : (l.length : Int) = 5
  · rw [if_pos h]
    have := n7 k l (by omega) (by omega) l.length k 0 (by omega) (by omega)
    rw [show ((0 : Nat) : Int) = 0 from rfl] at this
    rw [this]
    have h5 : l.length = 5 := by omega
    cases (List.range' 0 l.length).all (fK l) <;> simp [h5]
  · rw [if_neg h]
    have : ¬ l.length = 5 := by omega
    simp [this]
theorem kM (k : Nat) (hk : 1000000000000 ≤ k) (l : List GEv) (b : List Int) (hl : l.length ≤ 1000000) (hb : b.length ≤ 1000000) : aR.f k l b = some (dk l b) := by
  unfold aR.f dk
  rw [mm k hk l hl]
  simp only [Option.bind_some]
  by_cases h : dr l = true
  · rw [if_pos h, gw k hk b hb]
    simp only [Option.bind_some]
    by_cases h1 : bf b = true
    · have h24 := mA h
      have c : fj.f l = some l := by unfold fj.f; exact af (by omega)
      have := ni k l b (by omega) h1 (mP h) l.length k 0 l (by omega) (by omega) (by simp)
      rw [show ((0 : Nat) : Int) = 0 from rfl] at this
      rw [if_pos h1, if_pos ⟨h, h1⟩, c]
      simp only [Option.bind_some]
      rw [this]; rfl
    · rw [if_neg h1, if_neg (fun x => h1 x.2)]
  · rw [if_neg h, if_neg (fun x => h x.1)]
def kN (e : GEx) (b : List Int) : GEx := if eR e = true ∧ bf b = true then cU b e else ⟨0, 0, 0, []⟩
theorem sR (k : Nat) (rec' : GEx → GEx → Option Bool) (l : List GEx) (hl : l.length ≤ 1000000) (H : ∀ x ∈ l, rec' x x = some true) : ∀ (d i n : Nat), i + d = l.length → d < n → bp.l0 k rec' l l n (i : Int) = some (.ok ()) := by
  intro d
  induction d with
  | zero =>
    intro i n hi hn
    obtain ⟨n, rfl⟩ : ∃ m, n = m + 1 := ⟨n - 1, by omega⟩
    rw [bp.l0, if_neg (by omega)]
  | succ d ih =>
    intro i n hi hn
    obtain ⟨n, rfl⟩ : ∃ m, n = m + 1 := ⟨n - 1, by omega⟩
    have h : i < l.length := by omega
    rw [bp.l0, if_pos (by omega), af (by omega), Int.toNat_natCast, List.getElem?_eq_getElem h]
    simp only [Option.bind_some]
    rw [af (by omega)]
    simp only [H _ (List.getElem_mem h), Option.bind_some]
    rw [if_pos trivial, wrS i (by omega)]
    exact ih (i + 1) n (by omega) (by omega)
theorem wx : ∀ e : GEx, exN e ≤ 1000000 → ∀ k : Nat, 1000000000000 + exN e ≤ k → ct.f k e e = some true := by
  refine fA fun e ih hn k hk => ?_
  rw [bY] at hn hk
  obtain ⟨k, rfl⟩ : ∃ m, k = m + 1 := ⟨k - 1, by omega⟩
  have hq := dV e.Kids
  have L := sR k (fun y0 y1 => ct.f k y0 y1) e.Kids (by omega) (fun y hy => by have := dl hy; exact ih y hy (by omega) k (by omega)) e.Kids.length 0 k (by omega) (by omega)
  rw [show ((0 : Nat) : Int) = 0 from rfl] at L
  rw [ct.f, if_pos rfl, if_pos rfl, if_pos rfl]
  unfold bp.f
  rw [if_pos rfl, L]; rfl
/- a way to rename, drawn -/
theorem ur (k : Nat) : ∀ (c n : Nat) (b : List Int) (p m : Int) (l : List Int), c < n → c ≤ 4 → cu ⟨b, p⟩ m → m + c ≤ 900000000 → l.length = 5 → ∃ b' p' l', cv.l0 k n b p l (c : Int) = some (b', p', l') ∧ cu ⟨b', p'⟩ (m + c) ∧ l'.length = 5 := by
  intro c
  induction c with
  | zero =>
    intro n b p m l hn hc hr hm hl
    obtain ⟨n, rfl⟩ : ∃ m, n = m + 1 := ⟨n - 1, by omega⟩
    rw [cv.l0, if_neg (by omega)]
    exact ⟨_, _, _, rfl, hr.mono (by omega), hl⟩
  | succ c ih =>
    intro n b p m l hn hc hr hm hl
    obtain ⟨n, rfl⟩ : ∃ m, n = m + 1 := ⟨n - 1, by omega⟩
    rw [cv.l0, if_pos (by omega), wrS (c + 1) (by omega)]
    obtain ⟨v, r, e1, e2, e3, e4, e5⟩ := fv ⟨b, p⟩ ((c + 1 + 1 : Nat) : Int) m hr (by omega) (by omega)
    have hv := e3 (by omega)
    obtain ⟨q, rfl⟩ : ∃ q : Nat, v = (q : Int) := ⟨v.toNat, by omega⟩
    rw [e1]
    simp only [Option.bind_some]
    rw [af (by omega), af (by omega), Int.toNat_natCast, List.getElem?_eq_getElem (show c + 1 < l.length by omega)]
    simp only [Option.bind_some]
    rw [af (by omega), af (by omega), Int.toNat_natCast, List.getElem?_eq_getElem (show q < l.length by omega)]
    simp only [Option.bind_some]
    rw [af (by omega), af (by omega), af (by omega), af (by omega), List.getElem?_eq_getElem (show q < (l.set (c + 1) l[q]).length by rw [List.length_set]; omega)]
    simp only [Option.bind_some]
    rw [wrP c (by omega)]
    obtain ⟨b', p', l', g1, g2, g3⟩ := ih n r.b r.p (m + 1) ((l.set (c + 1) l[q]).set q l[c + 1]) (by omega) (by omega) e5 (by omega) (by simp [hl])
    exact ⟨b', p', l', g1, g2.mono (by omega), g3⟩
theorem tD (k : Nat) (hk : 1000 ≤ k) (r : Gl14Rd) (m : Int) (hr : cu r m) (hm : m ≤ 1000000) : ∃ l r', cv.f k r = some (l, r') ∧ cu r' (m + 100) ∧ l.length ≤ 5 := by
  unfold cv.f
  obtain ⟨b', p', l', e1, e2, e3⟩ := ur k 4 k r.b r.p m [0, 1, 2, 3, 4] (by omega) (by omega) hr (by omega) (by simp)
  have e1' : cv.l0 k k r.b r.p [0, 1, 2, 3, 4] 4 = some (b', p', l') := e1
  rw [e1']
  simp only [Option.bind_some]
  obtain ⟨v, r1, g1, g2, g3, g4, g5⟩ := fv ⟨b', p'⟩ 20 (m + (4 : Nat)) e2 (by omega) (by omega)
  rw [g1]
  simp only [Option.bind_some]
  split
  · rw [af (by omega), af (by omega), List.getElem?_eq_getElem (show 1 < l'.length by omega)]
    simp only [Option.bind_some]
    obtain ⟨u, r2, q1, q2, q3⟩ := dJ r1 [(-1), 5, l'[1]] (m + (4 : Nat) + 1) g5 (by omega) (by simp)
    rw [q1]
    simp only [Option.bind_some]
    rw [af (by omega), af (by omega), List.getElem?_eq_getElem (show 0 < l'.length by omega)]
    exact ⟨_, _, rfl, q3.mono (by omega), by simp; omega⟩
  split
  · rw [af (by omega), af (by omega), af (by omega)]
    exact ⟨_, _, rfl, g5.mono (by omega), by simp; omega⟩
  · exact ⟨_, _, rfl, g5.mono (by omega), by show l'.length ≤ 5; omega⟩
theorem sd (k : Nat) (hk : 2000000000000 ≤ k) (l : List Int) (hl : l.length ≤ 1048576) (hb : ∀ y ∈ l, 0 ≤ y ∧ y ≤ 255) : ∃ x by', eB.f k l = some (x, by') ∧ exN x ≤ 100001 ∧ by'.length ≤ 5 := by
  unfold eB.f
  obtain ⟨r, e1, e2⟩ := la l hl hb
  rw [e1]
  simp only [Option.bind_some]
  obtain ⟨x, r1, f1, f2, f3⟩ := rK k hk r 0 e2 (by omega)
  rw [f1]
  simp only [Option.bind_some]
  obtain ⟨b, r2, g1, g2, g3⟩ := tD k (by omega) r1 (0 + 300000) f2 (by omega)
  rw [g1]
  exact ⟨_, _, rfl, f3, g3⟩
end Go.Proofs.YtlbnmldopjadoaaGreat
