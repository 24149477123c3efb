/- Plain lemmas about the functions over data; first part. -/
import Derived.Test.YtlbnmldopjadoaaGreatL
namespace Go.Proofs.YtlbnmldopjadoaaGreat
open Go Go.Vm
set_option linter.unusedVariables false
set_option linter.unusedSimpArgs false
theorem wr (x : Int) (h : -9223372036854775808 ≤ x ∧ x < 9223372036854775808) : IntKind.wrap .i64 x = x := BP h
theorem wrS (i : Nat) (h : i < 4611686018427387904) : IntKind.wrap .i64 ((i : Int) + 1) = ((i + 1 : Nat) : Int) := by rw [wr _ (by omega)]; simp
theorem wrP (i : Nat) (h : i < 4611686018427387904) : IntKind.wrap .i64 (((i + 1 : Nat) : Int) - 1) = (i : Int) := by rw [wr _ (by omega)]; simp
/-- from some number of rounds on -/
def Evn {α : Type} (g : Nat → Option α) (r : α) : Prop := ∃ K, ∀ k, K ≤ k → g k = some r
theorem Evn.const {α : Type} {g : Option α} {r : α} (h : g = some r) : Evn (fun _ => g) r := ⟨0, fun _ _ => h⟩
theorem Evn.bind {α β : Type} {g : Nat → Option α} {f : Nat → α → Option β} {r : α} {s : β} (h1 : Evn g r) (h2 : Evn (fun k => f k r) s) : Evn (fun k => (g k).bind (f k)) s := by
 obtain ⟨K1, h1⟩ := h1
 obtain ⟨K2, h2⟩ := h2
 exact ⟨K1 + K2, fun k hk => by simp only; rw [h1 k (by omega)]; exact h2 k (by omega)⟩
theorem Evn.get {α : Type} {g : Nat → Option α} {r : α} (h : Evn g r) : ∃ k, g k = some r := h.elim fun K h => ⟨K, h K (Nat.le_refl _)⟩
theorem Evn.req {α : Type} {c : Prop} [Decidable c] {g : Nat → Option α} {r : α} (hc : c) (h : Evn g r) : Evn (fun k => Vm.req c (g k)) r := by
 obtain ⟨K, h⟩ := h
 exact ⟨K, fun k hk => by simp only; rw [ae hc]; exact h k hk⟩
theorem Evn.neg {α : Type} {c : Prop} [Decidable c] {g g' : Nat → Option α} {r : α} (hc : ¬ c) (h : Evn g' r) : Evn (fun k => if c then g k else g' k) r := by
 obtain ⟨K, h⟩ := h
 exact ⟨K, fun k hk => by simp only; rw [if_neg hc]; exact h k hk⟩
/- events -/
def lO (e : GEv) : Bool := decide (0 ≤ e.Sym) && decide (e.Sym < 5) && decide (1 ≤ e.At) && decide (e.At ≤ 1000) && decide (0 ≤ e.Val) && decide (e.Val ≤ 100)
theorem dQ (a b c : Int) : bc.f a b c = some (decide (b ≤ a) && decide (a ≤ c)) := by
 unfold bc.f
 split
 all_goals (rw [Option.some.injEq, Bool.eq_iff_iff]; simp; omega)
theorem wa (e : GEv) : kD.f e = some (lO e) := by
 unfold kD.f dl.f lO
 simp only [dQ, Option.bind_some]
 repeat' split
 all_goals (rw [Option.some.injEq, Bool.eq_iff_iff]; simp_all; try omega)
def lZ (l : List GEv) (a : Int) : Nat → Bool
 | 0 => true
 | j + 1 => match l[j]? with
  | some d => decide (d.At < a)
  | none => false
def kL (l : List GEv) (i : Nat) : Bool := match l[i]? with
 | some e => lO e && lZ l e.At i
 | none => false
def gR (l : List GEv) : Bool := (List.range' 0 l.length).all (kL l) && decide (l.length ≤ 24)
theorem sr (k : Nat) (l : List GEv) (hl : l.length < 4611686018427387904) : ∀ (d n i : Nat), i + d = l.length → d < n →
  cO.l0 k l n (i : Int) = some (if (List.range' i d).all (kL l) then .ok () else .error false) := by
 intro d
 induction d with
 | zero =>
  intro n i hi hn
  obtain ⟨n, rfl⟩ : ∃ m, n = m + 1 := ⟨n - 1, by omega⟩
  rw [cO.l0, if_neg (by omega)]; simp
 | succ d ih =>
  intro n i hi hn
  obtain ⟨n, rfl⟩ : ∃ m, n = m + 1 := ⟨n - 1, by omega⟩
  have hlt : i < l.length := by omega
  have hnext := ih n (i + 1) (by omega) (by omega)
  rw [cO.l0, if_pos (by omega), ae (by omega), Int.toNat_natCast, List.getElem?_eq_getElem hlt]
  simp only [Option.bind_some, wa, List.range'_succ, List.all_cons]
  have hg : kL l i = (lO l[i] && lZ l l[i].At i) := by unfold kL; rw [List.getElem?_eq_getElem hlt]
  rw [hg]
  cases hok : lO l[i]
  ·simp
  ·cases i with
   | zero => simp only [if_true]; rw [if_neg (by omega), wrS 0 (by omega), hnext]; simp only [lZ, Bool.true_and]
   | succ j =>
    simp only [if_true]
    rw [if_pos (by omega)]
    simp only [wrP j (by omega)]
    rw [ae (by omega), Int.toNat_natCast, List.getElem?_eq_getElem (show j < l.length by omega)]
    simp only [Option.bind_some]
    have hp : lZ l l[j + 1].At (j + 1) = decide (l[j].At < l[j + 1].At) := by simp only [lZ, List.getElem?_eq_getElem (show j < l.length by omega)]
    rw [hp]
    by_cases h : l[j].At < l[j + 1].At
    ·rw [if_pos h, wrS (j + 1) (by omega), hnext]; simp only [h, decide_true, Bool.true_and]
    ·rw [if_neg h]; simp only [h, decide_false, Bool.true_and, Bool.false_and]; rfl
theorem ia {l : List GEv} (h : gR l = true) : l.length ≤ 24 := by
 unfold gR at h; simp at h; exact h.2
theorem ry {l : List GEv} (h : gR l = true) {e : GEv} (he : e ∈ l) : lO e = true := by
 unfold gR at h
 simp only [Bool.and_eq_true, List.all_eq_true, List.mem_range', decide_eq_true_eq] at h
 obtain ⟨i, hi⟩ := List.mem_iff_getElem?.1 he
 have hlt : i < l.length := by
  rcases Nat.lt_or_ge i l.length with h1 | h1
  ·exact h1
  ·rw [List.getElem?_eq_none h1] at hi; cases hi
 have := h.1 i ⟨i, hlt, by omega⟩
 unfold kL at this
 rw [hi] at this
 simp only [Bool.and_eq_true] at this
 exact this.1
def cG : List Int → List Int → Int
 | [], [] => 0
 | [], _ :: _ => -1
 | _ :: _, [] => 1
 | x :: xs, y :: ys => if x < y then -1 else if y < x then 1 else cG xs ys
theorem qP : ∀ l, cG l l = 0
 | [] => rfl
 | x :: xs => by simp [cG, qP xs]
theorem Cb (a b : Int) : iP.f a b = some (if a < b then -1 else if b < a then 1 else 0) := by
 unfold iP.f kG.f
 by_cases h : a < b
 ·simp [h]
 ·by_cases h2 : b < a <;> simp [h, h2]
theorem uX (k : Nat) (a b : List Int) (ha : a.length < 4611686018427387904) : ∀ (d n i : Nat), i + d = a.length → i ≤ b.length → d < n →
  ((bX.l0 k a b n (i : Int)).bind fun o => match o with
   | .ok _ => (if (a.length : Int) < (b.length : Int) then some (-1) else some 0)
   | .error r => some r) = some (cG (a.drop i) (b.drop i)) := by
 intro d
 induction d with
 | zero =>
  intro n i hi hb hn
  obtain ⟨n, rfl⟩ : ∃ m, n = m + 1 := ⟨n - 1, by omega⟩
  rw [bX.l0, if_neg (by omega), List.drop_eq_nil_of_le (by omega)]
  simp only [Option.bind_some]
  cases h : b.drop i with
  | nil =>
   have : b.length ≤ i := List.drop_eq_nil_iff.1 h
   rw [if_neg (by omega)]; rfl
  | cons y ys =>
   have : i < b.length := by
    rcases Nat.lt_or_ge i b.length with h1 | h1
    ·exact h1
    ·rw [List.drop_eq_nil_of_le h1] at h; cases h
   rw [if_pos (by omega)]; rfl
 | succ d ih =>
  intro n i hi hb hn
  obtain ⟨n, rfl⟩ : ∃ m, n = m + 1 := ⟨n - 1, by omega⟩
  have hlt : i < a.length := by omega
  rw [bX.l0, if_pos (by omega), List.drop_eq_getElem_cons hlt, ae (by omega), Int.toNat_natCast, List.getElem?_eq_getElem hlt]
  simp only [Option.bind_some]
  by_cases h : i < b.length
  ·rw [if_pos (by omega), ae (by omega), List.getElem?_eq_getElem h, List.drop_eq_getElem_cons h]
   simp only [Option.bind_some, cG, Cb]
   by_cases h1 : a[i] < b[i]
   ·rw [if_pos h1, if_pos h1, if_neg (by decide)]; rfl
   ·rw [if_neg h1, if_neg h1]
    by_cases h2 : b[i] < a[i]
    ·rw [if_pos h2, if_pos h2, if_neg (by decide)]; rfl
    ·rw [if_neg h2, if_neg h2, if_pos rfl, wrS i (by omega)]
     exact ih n (i + 1) (by omega) (by omega) (by omega)
  ·rw [if_neg (by omega), List.drop_eq_nil_of_le (show b.length ≤ i by omega)]
   simp only [Option.bind_some, cG]
theorem wU (a b : List Int) (ha : a.length < 4611686018427387904) (k : Nat) (hk : a.length + 1 ≤ k) : bX.f k a b = some (cG a b) := by
 unfold bX.f
 have := uX k a b ha a.length k 0 (by omega) (by omega) (by omega)
 rw [show ((0 : Nat) : Int) = 0 from rfl] at this
 exact this
def sgn (b : Bool) : Int := if b then -1 else 1
def cy (a b : GOcc) : Int := if a.To = b.To then (if a.From = b.From then cG a.Ids b.Ids else sgn (decide (a.From < b.From))) else sgn (decide (a.To < b.To))
def bL (a b : GOcc) : Bool := decide (cy a b < 0)
theorem ka (a : GOcc) : cy a a = 0 := by simp [cy, qP]
theorem jz (a b : GOcc) (ha : a.Ids.length < 4611686018427387904) (k : Nat) (hk : a.Ids.length + 1 ≤ k) : ci.f k a b = some (cy a b) := by
 unfold ci.f cy kF.f sgn
 rw [wU _ _ ha k hk]
 split
 ·split
  ·rfl
  ·by_cases h : a.From < b.From <;> simp [h]
 ·by_cases h : a.To < b.To <;> simp [h]
theorem rX (a b : GOcc) (ha : a.Ids.length < 4611686018427387904) (k : Nat) (hk : a.Ids.length + 1 ≤ k) : gY.f k a b = some (bL a b) := by
 unfold gY.f
 rw [jz a b ha k hk]; rfl
/-- numbers that rise from above p, dR 24 -/
def gk : Int → List Int → Bool
 | _, [] => true
 | p, x :: xs => decide (p < x) && decide (x ≤ 23) && gk x xs
theorem uN : ∀ (l : List Int) (p : Int), -1 ≤ p → p ≤ 23 → gk p l = true → (l.length : Int) ≤ 23 - p
 | [], p, _, h, _ => by simp; omega
 | x :: xs, p, h0, h1, h => by
  simp only [gk, Bool.and_eq_true, decide_eq_true_eq] at h
  have := uN xs x (by omega) (by omega) h.2
  simp only [List.length_cons]; push_cast; omega
def eR (o : GOcc) : Bool := decide (1 ≤ o.From) && decide (o.From ≤ o.To) && decide (o.To ≤ 2000) && decide (1 ≤ o.Ids.length) && gk (-1) o.Ids
theorem sF (k : Nat) (o : GOcc) (hl : o.Ids.length < 4611686018427387904) : ∀ (d n i : Nat) (p : Int), i + d = o.Ids.length → d < n → -1 ≤ p → p ≤ 23 →
  cP.l0 k o n p (i : Int) = some (if gk p (o.Ids.drop i) then .ok () else .error false) := by
 intro d
 induction d with
 | zero =>
  intro n i p hi hn _ _
  obtain ⟨n, rfl⟩ : ∃ m, n = m + 1 := ⟨n - 1, by omega⟩
  rw [cP.l0, if_neg (by omega), List.drop_eq_nil_of_le (by omega)]; rfl
 | succ d ih =>
  intro n i p hi hn h0 h1
  obtain ⟨n, rfl⟩ : ∃ m, n = m + 1 := ⟨n - 1, by omega⟩
  have hlt : i < o.Ids.length := by omega
  rw [cP.l0, if_pos (by omega), ae (by omega), Int.toNat_natCast, List.getElem?_eq_getElem hlt, List.drop_eq_getElem_cons hlt]
  simp only [Option.bind_some, dQ]
  rw [wr (p + 1) (by omega)]
  by_cases h : p < o.Ids[i] ∧ o.Ids[i] ≤ 23
  ·have e : (decide (p + 1 ≤ o.Ids[i]) && decide (o.Ids[i] ≤ 23)) = true := by simp; omega
   have e2 : gk p (o.Ids[i] :: o.Ids.drop (i + 1)) = gk o.Ids[i] (o.Ids.drop (i + 1)) := by simp [gk, h.1, h.2]
   rw [if_pos e, wrS i (by omega), ih n (i + 1) _ (by omega) (by omega) (by omega) (by omega), e2]
  ·have e : ¬ (decide (p + 1 ≤ o.Ids[i]) && decide (o.Ids[i] ≤ 23)) = true := by simp; omega
   rw [if_neg e]
   have e2 : gk p (o.Ids[i] :: o.Ids.drop (i + 1)) = false := by
    have : (decide (p < o.Ids[i]) && decide (o.Ids[i] ≤ 23)) = false := by
     rw [Bool.eq_false_iff]; simpa using h
    show (decide (p < o.Ids[i]) && decide (o.Ids[i] ≤ 23) && _) = false
    rw [this]; rfl
   rw [e2]; rfl
theorem oE (o : GOcc) (hl : o.Ids.length < 4611686018427387904) (k : Nat) (hk : o.Ids.length + 1 ≤ k) : cP.f k o = some (eR o) := by
 unfold cP.f eR
 have := sF k o hl o.Ids.length k 0 (-1) (by omega) (by omega) (by omega) (by omega)
 rw [show ((0 : Nat) : Int) = 0 from rfl, List.drop_zero] at this
 rw [this]
 cases gk (-1) o.Ids
 ·simp
 ·simp only [if_true, Option.bind_some, Bool.and_true, dQ]
  by_cases h1 : o.From < 1
  ·rw [if_pos h1]; have : ¬ 1 ≤ o.From := by omega
   simp [this]
  ·rw [if_neg h1]
   have e1 : 1 ≤ o.From := by omega
   by_cases h2 : o.From ≤ o.To ∧ o.To ≤ 2000
   ·simp only [h2.1, h2.2, e1, decide_true, Bool.and_true, if_true, Bool.true_and, Option.some.injEq]
    rw [Bool.eq_iff_iff]; simp; omega
   ·have : (decide (o.From ≤ o.To) && decide (o.To ≤ 2000)) = false := by rw [Bool.eq_false_iff]; simpa using h2
    rw [Bool.and_assoc (decide (1 ≤ o.From)), this]
    simp
def jX (l : List GOcc) (a : GOcc) : Nat → Bool
 | 0 => true
 | j + 1 => match l[j]? with
  | some d => bL d a
  | none => false
def jQ (l : List GOcc) (i : Nat) : Bool := match l[i]? with
 | some e => eR e && jX l e i
 | none => false
def di (l : List GOcc) : Bool := (List.range' 0 l.length).all (jQ l) && decide (l.length ≤ 40)
def vz (l : List GOcc) (m : Nat) : Prop := ∀ o ∈ l, o.Ids.length ≤ m
theorem rj (k : Nat) (l : List GOcc) (hl : l.length < 4611686018427387904) (m : Nat) (hm : vz l m) (hm2 : m < 4611686018427387904) (hk : m + 1 ≤ k) : ∀ (d n i : Nat), i + d = l.length → d < n →
  bw.l0 k l n (i : Int) = some (if (List.range' i d).all (jQ l) then .ok () else .error false) := by
 intro d
 induction d with
 | zero =>
  intro n i hi hn
  obtain ⟨n, rfl⟩ : ∃ m, n = m + 1 := ⟨n - 1, by omega⟩
  rw [bw.l0, if_neg (by omega)]; simp
 | succ d ih =>
  intro n i hi hn
  obtain ⟨n, rfl⟩ : ∃ m, n = m + 1 := ⟨n - 1, by omega⟩
  have hlt : i < l.length := by omega
  have hnext := ih n (i + 1) (by omega) (by omega)
  have hb := hm l[i] (List.getElem_mem hlt)
  rw [bw.l0, if_pos (by omega), ae (by omega), Int.toNat_natCast, List.getElem?_eq_getElem hlt]
  simp only [Option.bind_some, oE l[i] (by omega) k (by omega), List.range'_succ, List.all_cons]
  have hg : jQ l i = (eR l[i] && jX l l[i] i) := by unfold jQ; rw [List.getElem?_eq_getElem hlt]
  rw [hg]
  cases hok : eR l[i]
  ·simp
  ·cases i with
   | zero => simp only [if_true]; rw [if_neg (by omega), wrS 0 (by omega), hnext]; simp only [jX, Bool.true_and]
   | succ j =>
    simp only [if_true]
    have hb2 := hm l[j] (List.getElem_mem (by omega))
    rw [if_pos (by omega)]
    simp only [wrP j (by omega)]
    rw [ae (by omega), Int.toNat_natCast, List.getElem?_eq_getElem (show j < l.length by omega)]
    simp only [Option.bind_some, rX l[j] l[j + 1] (by omega) k (by omega)]
    have hp : jX l l[j + 1] (j + 1) = bL l[j] l[j + 1] := by simp only [jX, List.getElem?_eq_getElem (show j < l.length by omega)]
    rw [hp]
    cases bL l[j] l[j + 1]
    ·simp
    ·simp only [if_true]; rw [wrS (j + 1) (by omega), hnext]; simp only [Bool.true_and]
theorem ue (l : List GOcc) (hl : l.length < 4611686018427387904) (m : Nat) (hm : vz l m) (hm2 : m < 4611686018427387904) (k : Nat) (hk : m + l.length + 1 ≤ k) : bw.f k l = some (di l) := by
 unfold bw.f di
 have := rj k l hl m hm hm2 (by omega) l.length k 0 (by omega) (by omega)
 rw [show ((0 : Nat) : Int) = 0 from rfl] at this
 rw [this]
 cases (List.range' 0 l.length).all (jQ l)
 ·simp
 ·simp only [if_true, Option.bind_some, Bool.true_and, Option.some.injEq]
  rw [Bool.eq_iff_iff]; simp; omega
theorem lq {l : List GOcc} (h : di l = true) : l.length ≤ 40 := by unfold di at h; simp at h; exact h.2
theorem uK {l : List GOcc} (h : di l = true) {i : Nat} (hi : i < l.length) : eR l[i] = true ∧ jX l l[i] i = true := by
 unfold di at h
 simp only [Bool.and_eq_true, List.all_eq_true, List.mem_range'] at h
 have := h.1 i ⟨i, by omega, by omega⟩
 unfold jQ at this
 rw [List.getElem?_eq_getElem hi] at this
 simpa using this
theorem y8 {o : GOcc} (h : eR o = true) : o.Ids.length ≤ 24 ∧ 1 ≤ o.From ∧ o.From ≤ o.To ∧ o.To ≤ 2000 := by
 unfold eR at h
 simp only [Bool.and_eq_true, decide_eq_true_eq] at h
 have := uN o.Ids (-1) (by omega) (by omega) h.2
 omega
theorem yh {l : List GOcc} (h : di l = true) : ∀ o ∈ l, o.Ids.length ≤ 24 ∧ 1 ≤ o.From ∧ o.From ≤ o.To ∧ o.To ≤ 2000 := fun o ho => by
 obtain ⟨i, hi, rfl⟩ := List.mem_iff_getElem.1 ho
 exact y8 (uK h hi).1
theorem qJ : ∀ a b, cG a b = 0 → a = b
 | [], [], _ => rfl
 | [], _ :: _, h => by simp [cG] at h
 | _ :: _, [], h => by simp [cG] at h
 | x :: xs, y :: ys, h => by
  unfold cG at h
  split at h
  ·cases h
  split at h
  ·cases h
  rw [qJ xs ys h, show x = y by omega]
theorem qD : ∀ a b, cG a b = - cG b a
 | [], [] => rfl
 | [], _ :: _ => rfl
 | _ :: _, [] => rfl
 | x :: xs, y :: ys => by
  unfold cG
  by_cases h1 : x < y
  ·rw [if_pos h1, if_neg (by omega), if_pos h1]
  by_cases h2 : y < x
  ·rw [if_neg h1, if_pos h2, if_pos h2]; rfl
  rw [if_neg h1, if_neg h2, if_neg h2, if_neg h1]; exact qD xs ys
theorem po : ∀ a b c, cG a b < 0 → cG b c < 0 → cG a c < 0
 | [], [], _, h, _ => by simp [cG] at h
 | _ :: _, [], _, h, _ => by simp [cG] at h
 | _, _ :: _, [], _, h => by simp [cG] at h
 | [], _ :: _, _ :: _, _, _ => by simp [cG]
 | x :: xs, y :: ys, z :: zs, h, k => by
  unfold cG at h k ⊢
  by_cases h1 : x < y
  ·by_cases k1 : y < z
   ·rw [if_pos (by omega)]; omega
   ·rw [if_neg k1] at k
    split at k
    ·omega
    ·rw [if_pos (by omega)]; omega
  ·rw [if_neg h1] at h
   split at h
   ·omega
   ·by_cases k1 : y < z
    ·rw [if_pos (by omega)]; omega
    ·rw [if_neg k1] at k
     split at k
     ·omega
     ·rw [if_neg (by omega), if_neg (by omega)]; exact po xs ys zs h k
theorem mC {a b : GOcc} (h : cy a b = 0) : a = b := by
 unfold cy at h
 split at h
 ·split at h
  ·obtain ⟨a1, a2, a3⟩ := a; obtain ⟨b1, b2, b3⟩ := b
   have := qJ _ _ h
   simp_all
  ·unfold sgn at h; split at h <;> cases h
 ·unfold sgn at h; split at h <;> cases h
theorem w9 (a b : GOcc) : cy a b = - cy b a := by
 unfold cy sgn
 by_cases h1 : a.To = b.To
 ·rw [if_pos h1, if_pos h1.symm]
  by_cases h2 : a.From = b.From
  ·rw [if_pos h2, if_pos h2.symm]; exact qD _ _
  ·rw [if_neg h2, if_neg (show ¬ b.From = a.From from fun e => h2 e.symm)]
   by_cases h3 : a.From < b.From
   ·have : ¬ b.From < a.From := by omega
    simp [h3, this]
   ·have : b.From < a.From := by omega
    simp [h3, this]
 ·rw [if_neg h1, if_neg (show ¬ b.To = a.To from fun e => h1 e.symm)]
  by_cases h3 : a.To < b.To
  ·have : ¬ b.To < a.To := by omega
   simp [h3, this]
  ·have : b.To < a.To := by omega
   simp [h3, this]
theorem uV (a b : GOcc) : cy a b < 0 ↔ a.To < b.To ∨ (a.To = b.To ∧ (a.From < b.From ∨ (a.From = b.From ∧ cG a.Ids b.Ids < 0))) := by
 unfold cy sgn
 by_cases h1 : a.To = b.To
 ·rw [if_pos h1]
  by_cases h2 : a.From = b.From
  ·rw [if_pos h2]; simp [h1, h2]
  ·rw [if_neg h2]
   by_cases h3 : a.From < b.From
   ·simp [h1, h3]
   ·simp [h1, h2, h3]
 ·rw [if_neg h1]
  by_cases h3 : a.To < b.To
  ·simp [h3]
  ·simp [h1, h3]
theorem ot {a b c : GOcc} (h : bL a b = true) (k : bL b c = true) : bL a c = true := by
 unfold bL at *
 simp only [decide_eq_true_eq] at *
 rw [uV] at *
 rcases h with h | ⟨h1, h⟩
 ·rcases k with k | ⟨k1, k⟩
  ·exact .inl (by omega)
  ·exact .inl (by omega)
 ·rcases k with k | ⟨k1, k⟩
  ·exact .inl (by omega)
  ·refine .inr ⟨by omega, ?_⟩
   rcases h with h | ⟨h2, h⟩
   ·rcases k with k | ⟨k2, k⟩
    ·exact .inl (by omega)
    ·exact .inl (by omega)
   ·rcases k with k | ⟨k2, k⟩
    ·exact .inl (by omega)
    ·exact .inr ⟨by omega, po _ _ _ h k⟩
theorem ut (a : GOcc) : bL a a = false := by unfold bL; rw [ka]; rfl
theorem u6 {a b : GOcc} (h : bL a b = false) (hne : a ≠ b) : bL b a = true := by
 unfold bL at *
 simp only [decide_eq_true_eq, decide_eq_false_iff_not] at *
 have := w9 a b
 have : cy a b ≠ 0 := fun e => hne (mC e)
 omega
/-- an ordered list -/
def Asc (l : List GOcc) : Prop := l.Pairwise fun a b => bL a b = true
def cd : List GOcc → GOcc → List GOcc
 | [], o => [o]
 | x :: l, o => if bL x o then x :: cd l o else if cy x o = 0 then x :: l else o :: x :: l
def cm (l m : List GOcc) : List GOcc := m.foldl cd l
theorem eF {x o : GOcc} : ∀ {l : List GOcc}, x ∈ cd l o ↔ x ∈ l ∨ x = o
 | [] => by simp [cd]
 | y :: l => by
  unfold cd
  split
  ·simp only [List.mem_cons, eF (l := l), or_assoc]
  ·split
   ·rename_i h
    have := mC h
    subst this
    simp only [List.mem_cons]
    constructor
    ·exact fun h => .inl h
    ·rintro (h | rfl)
     ·exact h
     ·exact .inl rfl
   ·simp only [List.mem_cons]
    constructor
    ·rintro (h | h)
     ·exact .inr h
     ·exact .inl h
    ·rintro (h | h)
     ·exact .inr h
     ·exact .inl h
theorem j9 {o : GOcc} : ∀ {l : List GOcc}, Asc l → Asc (cd l o)
 | [], _ => by simp [cd, Asc]
 | y :: l, h => by
  have h' := List.pairwise_cons.1 h
  unfold cd
  split
  ·rename_i h1
   refine List.pairwise_cons.2 ⟨fun z hz => ?_, j9 h'.2⟩
   rcases eF.1 hz with h2 | rfl
   ·exact h'.1 z h2
   ·exact h1
  ·split
   ·exact h
   ·rename_i h1 h2
    have h3 : bL o y = true := u6 (by simpa using h1) (fun e => h2 (by rw [e]; exact ka _))
    refine List.pairwise_cons.2 ⟨fun z hz => ?_, h⟩
    rcases List.mem_cons.1 hz with rfl | h4
    ·exact h3
    ·exact ot h3 (h'.1 z h4)
theorem gD (o : GOcc) : ∀ l : List GOcc, (cd l o).length ≤ l.length + 1
 | [] => by simp [cd]
 | y :: l => by
  have := gD o l
  unfold cd
  split
  ·simp; omega
  ·split <;> simp
theorem mO (l : List GOcc) (x : GOcc) (m : List GOcc) : cm l (x :: m) = cm (cd l x) m := rfl
theorem fb : ∀ {m l : List GOcc}, Asc l → Asc (cm l m)
 | [], _, h => h
 | x :: m, l, h => by rw [mO]; exact fb (j9 h)
theorem cv : ∀ (m l : List GOcc), (cm l m).length ≤ l.length + m.length
 | [], _ => by simp [cm]
 | x :: m, l => by rw [mO]; have := cv m (cd l x); have := gD x l; simp; omega
theorem jG {x : GOcc} : ∀ {m l : List GOcc}, x ∈ cm l m ↔ x ∈ l ∨ x ∈ m
 | [], l => by simp [cm]
 | y :: m, l => by rw [mO, jG, eF, List.mem_cons, or_assoc]
/-- where one stands or would stand -/
def cf (l : List GOcc) (o : GOcc) : Nat := (l.takeWhile fun x => bL x o).length
theorem uu (l : List GOcc) (o : GOcc) : cf l o ≤ l.length := by unfold cf; exact (List.takeWhile_prefix _).length_le
theorem oP (o : GOcc) : ∀ l : List GOcc, cd l o = if ∃ x, l[cf l o]? = some x ∧ cy x o = 0 then l else l.take (cf l o) ++ [o] ++ l.drop (cf l o)
 | [] => by simp [cd, cf]
 | y :: l => by
  unfold cd
  by_cases h : bL y o = true
  ·have e : cf (y :: l) o = cf l o + 1 := by unfold cf; rw [List.takeWhile_cons, if_pos h]; rfl
   rw [if_pos h, e, oP o l]
   simp only [List.getElem?_cons_succ, List.take_succ_cons, List.drop_succ_cons]
   split <;> rfl
  ·have e : cf (y :: l) o = 0 := by unfold cf; rw [List.takeWhile_cons, if_neg h]; rfl
   rw [if_neg h, e]
   simp only [List.getElem?_cons_zero, List.take_zero, List.drop_zero, Option.some.injEq, exists_eq_left']
   rfl
theorem pu {o : GOcc} : ∀ {l : List GOcc} {i : Nat}, i < cf l o → ∃ x, l[i]? = some x ∧ bL x o = true
 | [], i, h => by simp [cf] at h
 | y :: l, i, h => by
  by_cases hy : bL y o = true
  ·have e : cf (y :: l) o = cf l o + 1 := by unfold cf; rw [List.takeWhile_cons, if_pos hy]; rfl
   cases i with
   | zero => exact ⟨y, rfl, hy⟩
   | succ i => rw [e] at h; exact pu (l := l) (i := i) (by omega)
  ·have e : cf (y :: l) o = 0 := by unfold cf; rw [List.takeWhile_cons, if_neg hy]; rfl
   rw [e] at h; omega
theorem wk {l : List GOcc} {o : GOcc} (h : cf l o < l.length) : bL l[cf l o] o = false := by
 induction l with
 | nil => simp at h
 | cons y l ih =>
  by_cases hy : bL y o = true
  ·have e : cf (y :: l) o = cf l o + 1 := by unfold cf; rw [List.takeWhile_cons, if_pos hy]; rfl
   have := ih (by rw [e] at h; simpa using h)
   simp only [e, List.getElem_cons_succ]
   exact this
  ·have e : cf (y :: l) o = 0 := by unfold cf; rw [List.takeWhile_cons, if_neg hy]; rfl
   simp only [e, List.getElem_cons_zero]
   simpa using hy
theorem CD {l : List GOcc} {o : GOcc} (hs : Asc l) {i : Nat} (h1 : cf l o ≤ i) (h2 : i < l.length) : bL l[i] o = false := by
 have h3 := wk (l := l) (o := o) (by omega)
 rcases Nat.lt_or_ge (cf l o) i with h4 | h4
 ·have h5 : bL l[cf l o] l[i] = true := List.pairwise_iff_getElem.1 hs _ _ _ _ h4
  cases h6 : bL l[i] o
  ·rfl
  ·rw [ot h5 h6] at h3; cases h3
 ·have : i = cf l o := by omega
  subst this; exact h3
/-- a loop over a list -/
theorem zX {α σ : Type} (l : List α) (body : σ → α → Option σ) (L : Nat → σ → Int → Option σ) (g : σ → α → σ) (Inv : Nat → σ → Prop)
  (hend : ∀ n s, L (n + 1) s (l.length : Int) = some s)
  (hstep : ∀ n s (i : Nat) (h : i < l.length), L (n + 1) s (i : Int) = (body s l[i]).bind fun s' => L n s' ((i + 1 : Nat) : Int))
  (hbody : ∀ i s (h : i < l.length), Inv i s → body s l[i] = some (g s l[i]) ∧ Inv (i + 1) (g s l[i])) :
  ∀ (d i n : Nat) (s : σ), i + d = l.length → d < n → Inv i s → L n s (i : Int) = some ((l.drop i).foldl g s) ∧ Inv l.length ((l.drop i).foldl g s) := by
 intro d
 induction d with
 | zero =>
  intro i n s hi hn hI
  obtain ⟨n, rfl⟩ : ∃ m, n = m + 1 := ⟨n - 1, by omega⟩
  have e : i = l.length := by omega
  subst e
  rw [hend, List.drop_length]
  exact ⟨rfl, hI⟩
 | succ d ih =>
  intro i n s hi hn hI
  obtain ⟨n, rfl⟩ : ∃ m, n = m + 1 := ⟨n - 1, by omega⟩
  have hlt : i < l.length := by omega
  obtain ⟨h1, h2⟩ := hbody i s hlt hI
  rw [hstep n s i hlt, h1, List.drop_eq_getElem_cons hlt]
  exact ih (i + 1) n _ (by omega) (by omega) h2
theorem fa {α σ : Type} (l : List α) (body : σ → α → Option σ) (L : Nat → σ → Int → Option σ) (g : σ → α → σ) (Inv : Nat → σ → Prop)
  (hend : ∀ n s, L (n + 1) s (l.length : Int) = some s)
  (hstep : ∀ n s (i : Nat) (h : i < l.length), L (n + 1) s (i : Int) = (body s l[i]).bind fun s' => L n s' ((i + 1 : Nat) : Int))
  (hbody : ∀ i s (h : i < l.length), Inv i s → body s l[i] = some (g s l[i]) ∧ Inv (i + 1) (g s l[i])) (n : Nat) (s : σ) (hn : l.length < n) (hI : Inv 0 s) :
  L n s 0 = some (l.foldl g s) ∧ Inv l.length (l.foldl g s) := by
 have := zX l body L g Inv hend hstep hbody l.length 0 n s (by omega) hn hI
 simpa using this
/-- the numbers of one are few -/
abbrev Few (o : GOcc) : Prop := o.Ids.length ≤ 1000
abbrev ji (l : List GOcc) : Prop := ∀ o ∈ l, Few o
theorem Bu (a b : GOcc) (ha : Few a) (k : Nat) (hk : 1000000000000 ≤ k) : ci.f k a b = some (cy a b) := jz a b (by omega) k (by omega)
theorem Cl (a b : Nat) (h : a + b < 1000000000000000) : IntKind.wrap .i64 (cl .shr .u64 (IntKind.wrap .u64 (IntKind.wrap .i64 ((a : Int) + (b : Int)))) 1) = (((a + b) / 2 : Nat) : Int) := by
 rw [show IntKind.wrap .i64 ((a : Int) + (b : Int)) = (a : Int) + (b : Int) from wr _ (by omega)]
 have e : IntKind.wrap .u64 ((a : Int) + (b : Int)) = (a : Int) + (b : Int) := by
  show ((a : Int) + (b : Int)) % 18446744073709551616 = _
  exact Int.emod_eq_of_lt (by omega) (by omega)
 rw [e]
 have e2 : cl .shr .u64 ((a : Int) + (b : Int)) 1 = ((a : Int) + (b : Int)).fdiv 2 := rfl
 rw [e2, Int.fdiv_eq_ediv_of_nonneg _ (by omega), wr _ (by omega)]
 omega
theorem BJ (k : Nat) (hk : 1000000000000 ≤ k) (l : List GOcc) (o : GOcc) (hl : l.length ≤ 1000000000000) (hf : ji l) (hs : Asc l) : ∀ (d a b n : Nat), b - a ≤ d → a ≤ cf l o → cf l o ≤ b → b ≤ l.length → d < n →
  aI.l0 k (fun y0 y1 => ci.f k y0 y1) l o n (a : Int) (b : Int) = some ((cf l o : Nat) : Int) := by
 intro d
 induction d with
 | zero =>
  intro a b n h1 h2 h3 h4 hn
  obtain ⟨n, rfl⟩ : ∃ m, n = m + 1 := ⟨n - 1, by omega⟩
  rw [aI.l0, if_neg (by omega), show a = cf l o by omega]
 | succ d ih =>
  intro a b n h1 h2 h3 h4 hn
  obtain ⟨n, rfl⟩ : ∃ m, n = m + 1 := ⟨n - 1, by omega⟩
  by_cases h : a < b
  ·have hm : (a + b) / 2 < l.length := by omega
   rw [aI.l0, if_pos (by omega), Cl a b (by omega), ae (by omega), ae (by omega), Int.toNat_natCast, List.getElem?_eq_getElem hm]
   simp only [Option.bind_some, Bu _ o (hf _ (List.getElem_mem hm)) k hk]
   by_cases hc : cy l[(a + b) / 2] o < 0
   ·rw [if_pos hc, wrS _ (by omega)]
    refine ih _ b n (by omega) ?_ h3 h4 (by omega)
    rcases Nat.lt_or_ge ((a + b) / 2) (cf l o) with h5 | h5
    ·omega
    ·have := CD hs h5 hm
     unfold bL at this
     simp at this
     omega
   ·rw [if_neg hc]
    refine ih a _ n (by omega) h2 ?_ (by omega) (by omega)
    rcases Nat.lt_or_ge ((a + b) / 2) (cf l o) with h5 | h5
    ·obtain ⟨x, e1, e2⟩ := pu h5
     rw [List.getElem?_eq_getElem hm, Option.some.injEq] at e1
     subst e1
     unfold bL at e2
     simp at e2
     omega
    ·exact h5
  ·rw [aI.l0, if_neg (by omega), show a = cf l o by omega]
theorem yc (k : Nat) (hk : 1000000000000 ≤ k) (l : List GOcc) (o : GOcc) (hl : l.length ≤ 100000000000) (hf : ji l) (hs : Asc l) :
  aI.f (fun y0 y1 => ci.f k y0 y1) k l o = some (((cf l o : Nat) : Int), decide (∃ x, l[cf l o]? = some x ∧ cy x o = 0)) := by
 unfold aI.f
 have hr := uu l o
 have := BJ k hk l o (by omega) hf hs l.length 0 l.length k (by omega) (by omega) hr (Nat.le_refl _) (by omega)
 rw [show ((0 : Nat) : Int) = 0 from rfl] at this
 rw [this]
 simp only [Option.bind_some]
 by_cases h : cf l o < l.length
 ·rw [if_pos (by omega), ae (by omega), Int.toNat_natCast, List.getElem?_eq_getElem h]
  simp only [Option.bind_some, Bu _ o (hf _ (List.getElem_mem h)) k hk, Option.some.injEq, Prod.mk.injEq, true_and]
  rw [Bool.eq_iff_iff]
  simp
 ·rw [if_neg (by omega), List.getElem?_eq_none (by omega)]
  simp
theorem iS (k : Nat) (hk : 1000000000000 ≤ k) (l : List GOcc) (o : GOcc) (hl : l.length ≤ 100000000000) (hf : ji l) (hs : Asc l) : dJ.f k l o = some (cd l o) := by
 unfold dJ.f
 rw [yc k hk l o hl hf hs]
 simp only [Option.bind_some]
 have hr := uu l o
 by_cases h : ∃ x, l[cf l o]? = some x ∧ cy x o = 0
 ·rw [if_pos (by simpa using h), oP, if_pos h]
 ·rw [if_neg (by simpa using h), oP, if_neg h]
  unfold jJ.f gx.f
  rw [ae (by omega)]
  simp only [Option.bind_some]
  rw [ae (by omega), ae (by omega), ae (show [o].length = 1 from rfl), ae (by omega)]
  rfl
theorem qc (o : GOcc) (h : Few o) : dB.f o = some o := by
 unfold dB.f; exact ae (by omega)
theorem zx {l : List GOcc} {o : GOcc} (h : ji l) (ho : Few o) : ji (cd l o) := fun x hx => by
 rcases eF.1 hx with h1 | rfl
 ·exact h x h1
 ·exact ho
theorem cA (k : Nat) (hk : 1000000000000 ≤ k) (l m : List GOcc) (hl : l.length + m.length ≤ 90000000000) (hf : ji l) (hm : ji m) (hs : Asc l) : aS.f k l m = some (cm l m) := by
 unfold aS.f
 have := fa m (fun s e => dJ.f k s e) (aS.l0 k m) cd (fun i s => s.length ≤ l.length + i ∧ ji s ∧ Asc s)
  (fun n s => by rw [aS.l0, if_neg (by omega)])
  (fun n s i h => by rw [aS.l0, if_pos (by omega), ae (by omega), Int.toNat_natCast, List.getElem?_eq_getElem h]; simp only [Option.bind_some]; rw [wrS i (by omega)])
  (fun i s h hI => ⟨iS k hk s _ (by omega) hI.2.1 hI.2.2, by have := gD m[i] s; omega, zx hI.2.1 (hm _ (List.getElem_mem h)), j9 hI.2.2⟩)
  k l (by omega) ⟨by omega, hf, hs⟩
 rw [this.1]; rfl
theorem zR {α : Type} (l acc : List α) : l.foldl (fun s e => s ++ [e]) acc = acc ++ l := by
 induction l generalizing acc with
 | nil => simp
 | cons x l ih => rw [List.foldl_cons, ih]; simp
theorem wY (k : Nat) (hk : 1000000000000 ≤ k) (l : List GOcc) (hl : l.length ≤ 90000000000) (hf : ji l) : bo.f k l = some l := by
 unfold bo.f
 have := fa l (fun s e => (dB.f e).bind fun x28 => (req ((s.length + 1) * 40 ≤ 140737488355328) (some (s ++ [x28])))) (bo.l0 k l) (fun s e => s ++ [e]) (fun i s => s.length = i)
  (fun n s => by rw [bo.l0, if_neg (by omega)])
  (fun n s i h => by
   rw [bo.l0, if_pos (by omega), ae (by omega), Int.toNat_natCast, List.getElem?_eq_getElem h]; simp only [Option.bind_some]; rw [wrS i (by omega), qc _ (hf _ (List.getElem_mem h))]; simp only [Option.bind_some]
   unfold req; split <;> rfl)
  (fun i s h hI => ⟨by rw [qc _ (hf _ (List.getElem_mem h))]; simp only [Option.bind_some]; rw [ae (by omega)], by simp [hI]⟩)
  k [] (by omega) rfl
 rw [this.1, zR]; rfl
theorem sD {l : List GOcc} (h : di l = true) : ji l := fun o ho => by have := yh h o ho; omega
/-- what stands in both programs for a list that was handed on -/
def Small (l : List GOcc) : Prop := l.length ≤ 40000000000 ∧ ji l
theorem zC (k : Nat) (hk : 1000000000000 ≤ k) (l : List GOcc) (h : Small l) : bw.f k l = some (di l) := ue l (by have := h.1; omega) 1000 h.2 (by omega) k (by have := h.1; omega)
/-- numbers that rise -/
abbrev Up (l : List Int) : Prop := l.Pairwise fun a b => a < b
theorem zo : ∀ {a b : List Int}, Up a → Up b → (∀ x, x ∈ a ↔ x ∈ b) → a = b
 | [], [], _, _, _ => rfl
 | [], y :: b, _, _, h => by have := (h y).2 (by simp); simp at this
 | x :: a, [], _, _, h => by have := (h x).1 (by simp); simp at this
 | x :: a, y :: b, ha, hb, h => by
  obtain ⟨a1, a2⟩ := List.pairwise_cons.1 ha
  obtain ⟨b1, b2⟩ := List.pairwise_cons.1 hb
  have e : x = y := by
   have h1 := (h x).1 (by simp)
   have h2 := (h y).2 (by simp)
   rcases List.mem_cons.1 h1 with h1 | h1
   ·exact h1
   ·rcases List.mem_cons.1 h2 with h2 | h2
    ·exact h2.symm
    ·have := b1 x h1; have := a1 y h2; omega
  subst e
  rw [zo a2 b2 fun z => ?_]
  have hz := h z
  simp only [List.mem_cons] at hz
  constructor
  ·intro h1
   rcases hz.1 (.inr h1) with h2 | h2
   ·have := a1 z h1; omega
   ·exact h2
  ·intro h1
   rcases hz.2 (.inr h1) with h2 | h2
   ·have := b1 z h1; omega
   ·exact h2
def eb : List Int → List Int → List Int
 | [], b => b
 | x :: a, [] => x :: a
 | x :: a, y :: b => if x < y then x :: eb a (y :: b) else if x = y then y :: eb a b else y :: eb (x :: a) b
termination_by a b => a.length + b.length
theorem dZ {z : Int} : ∀ {a b : List Int}, z ∈ eb a b ↔ z ∈ a ∨ z ∈ b
 | [], b => by simp [eb]
 | x :: a, [] => by simp [eb]
 | x :: a, y :: b => by
  unfold eb
  split
  ·simp only [List.mem_cons, dZ (a := a) (b := y :: b), or_assoc]
  ·split
   ·rename_i h
    subst h
    simp only [List.mem_cons, dZ (a := a) (b := b)]
    constructor
    ·rintro (h | h | h)
     ·exact .inl (.inl h)
     ·exact .inl (.inr h)
     ·exact .inr (.inr h)
    ·rintro ((h | h) | (h | h))
     ·exact .inl h
     ·exact .inr (.inl h)
     ·exact .inl h
     ·exact .inr (.inr h)
   ·simp only [List.mem_cons, dZ (a := x :: a) (b := b)]
    constructor
    ·rintro (h | h | h)
     ·exact .inr (.inl h)
     ·exact .inl h
     ·exact .inr (.inr h)
    ·rintro (h | h | h)
     ·exact .inr (.inl h)
     ·exact .inl h
     ·exact .inr (.inr h)
termination_by a b => a.length + b.length
theorem kM : ∀ {a b : List Int}, Up a → Up b → Up (eb a b)
 | [], b, _, h => by simpa [eb] using h
 | x :: a, [], h, _ => by simpa [eb] using h
 | x :: a, y :: b, ha, hb => by
  obtain ⟨a1, a2⟩ := List.pairwise_cons.1 ha
  obtain ⟨b1, b2⟩ := List.pairwise_cons.1 hb
  unfold eb
  split
  ·refine List.pairwise_cons.2 ⟨fun z hz => ?_, kM a2 hb⟩
   rcases dZ.1 hz with h | h
   ·exact a1 z h
   ·rcases List.mem_cons.1 h with rfl | h
    ·assumption
    ·have := b1 z h; omega
  ·split
   ·rename_i h1 h2
    refine List.pairwise_cons.2 ⟨fun z hz => ?_, kM a2 b2⟩
    rcases dZ.1 hz with h | h
    ·have := a1 z h; omega
    ·exact b1 z h
   ·refine List.pairwise_cons.2 ⟨fun z hz => ?_, kM ha b2⟩
    rcases dZ.1 hz with h | h
    ·rcases List.mem_cons.1 h with rfl | h
     ·omega
     ·have := a1 z h; omega
    ·exact b1 z h
termination_by a b => a.length + b.length
theorem qV {z : Int} : ∀ {l : List Int}, z ∈ uniq l ↔ z ∈ l
 | [] => by simp [uniq]
 | [x] => by simp [uniq]
 | x :: y :: l => by
  have ih := qV (z := z) (l := y :: l)
  unfold uniq
  split
  ·rename_i h
   subst h
   rw [ih]; simp
  ·rw [List.mem_cons, ih, List.mem_cons (a := z) (b := x)]
theorem tV : ∀ {l : List Int}, l.Pairwise (fun a b => a ≤ b) → Up (uniq l)
 | [], _ => by simp [uniq]
 | [x], _ => by simp [uniq]
 | x :: y :: l, h => by
  obtain ⟨h1, h2⟩ := List.pairwise_cons.1 h
  unfold uniq
  split
  ·exact tV h2
  ·rename_i hne
   refine List.pairwise_cons.2 ⟨fun z hz => ?_, tV h2⟩
   have hz' := qV.1 hz
   have a1 := h1 y (by simp)
   rcases List.mem_cons.1 hz' with rfl | h3
   ·omega
   ·have := (List.pairwise_cons.1 h2).1 z h3; omega
def qb (l : List Int) : List Int := l.mergeSort fun x y => decide (x ≤ y)
theorem Bf (l : List Int) : (qb l).Pairwise fun a b => a ≤ b := by
 have := List.pairwise_mergeSort (le := fun x y : Int => decide (x ≤ y)) (fun a b c h1 h2 => by simp at *; omega) (fun a b => by simp; omega) l
 exact this.imp fun h => by simpa using h
theorem zS {z : Int} {l : List Int} : z ∈ qb l ↔ z ∈ l := (List.mergeSort_perm l _).mem_iff
theorem wM (l : List Int) : (qb l).length = l.length := List.length_mergeSort l
theorem sd {a b : List Int} (ha : Up a) (hb : Up b) : uniq (qb (a ++ b)) = eb a b := zo (tV (Bf _)) (kM ha hb) fun x => by rw [qV, zS, dZ, List.mem_append]
/-- the numbers of an occurrence: rising, dR 24 -/
def cr (l : List Int) : Prop := Up l ∧ ∀ x ∈ l, 0 ≤ x ∧ x ≤ 23
theorem uz : ∀ {l : List Int} {p : Int}, gk p l = true → Up l ∧ ∀ x ∈ l, p < x ∧ x ≤ 23
 | [], _, _ => by simp
 | x :: l, p, h => by
  unfold gk at h
  simp only [Bool.and_eq_true, decide_eq_true_eq] at h
  obtain ⟨a, b⟩ := uz (l := l) (p := x) h.2
  refine ⟨List.pairwise_cons.2 ⟨fun y hy => (b y hy).1, a⟩, fun y hy => ?_⟩
  rcases List.mem_cons.1 hy with rfl | hy
  ·omega
  ·have := b y hy; omega
theorem vM {l : List Int} (h : gk (-1) l = true) : cr l := by
 obtain ⟨a, b⟩ := uz h
 exact ⟨a, fun x hx => by have := b x hx; omega⟩
theorem Ap : ∀ {l : List Int} {p : Int}, Up l → (∀ x ∈ l, p ≤ x ∧ x ≤ 23) → p ≤ 24 → (l.length : Int) ≤ 24 - p
 | [], p, _, _, h => by simp; omega
 | x :: l, p, h, k, _ => by
  obtain ⟨h1, h2⟩ := List.pairwise_cons.1 h
  have hx := k x (by simp)
  have := Ap (l := l) (p := x + 1) h2 (fun y hy => by have := h1 y hy; have := k y (by simp [hy]); omega) (by omega)
  simp; omega
theorem dP {l : List Int} (h : cr l) : l.length ≤ 24 := by have := Ap (p := 0) h.1 h.2 (by omega); omega
theorem qp {a b : List Int} (ha : cr a) (hb : cr b) : cr (eb a b) := ⟨kM ha.1 hb.1, fun x hx => by
 rcases dZ.1 hx with h | h
 ·exact ha.2 x h
 ·exact hb.2 x h⟩
def dG (a b : GOcc) : GOcc := ⟨min a.From b.From, max a.To b.To, eb a.Ids b.Ids⟩
theorem zw (k : Nat) (hk : 1000000000000 ≤ k) (a b : List Int) (ha : a.length ≤ 1000) (hb : b.length ≤ 1000) : aV.f k [a, b] = some (a ++ b) := by
 obtain ⟨k', rfl⟩ : ∃ m, k = m + 3 := ⟨k - 3, by omega⟩
 unfold aV.f iT.f
 have e0 : aV.l0 (k' + 3) [a, b] (k' + 3) 0 0 = some ((a.length : Int) + b.length) := by
  rw [aV.l0, if_pos (by simp), ae (by omega)]
  simp only [Int.toNat_zero, List.getElem?_cons_zero, Option.bind_some]
  rw [wr (0 + (a.length : Int)) (by omega), if_neg (by omega), show IntKind.wrap .i64 (0 + 1) = 1 from rfl, aV.l0, if_pos (by simp), ae (by omega)]
  simp only [Int.toNat_one, List.getElem?_cons_succ, List.getElem?_cons_zero, Option.bind_some]
  rw [wr _ (by omega), if_neg (by omega), show IntKind.wrap .i64 (1 + 1) = 2 from rfl, aV.l0, if_neg (by simp)]
  congr 1; omega
 have e1 : aV.l1 (k' + 3) [a, b] (k' + 3) [] 0 = some (a ++ b) := by
  rw [aV.l1, if_pos (by simp), ae (by omega)]
  simp only [Int.toNat_zero, List.getElem?_cons_zero, Option.bind_some]
  rw [ae (by simp; omega), show IntKind.wrap .i64 (0 + 1) = 1 from rfl, aV.l1, if_pos (by simp), ae (by omega)]
  simp only [Int.toNat_one, List.getElem?_cons_succ, List.getElem?_cons_zero, Option.bind_some]
  rw [ae (by simp; omega), show IntKind.wrap .i64 (1 + 1) = 2 from rfl, aV.l1, if_neg (by simp)]
  rfl
 rw [e0]
 simp only [Option.bind_some]
 rw [ae trivial, ae (by omega), ae (by omega)]
 simp only [Option.bind_some]
 rw [e1]; rfl
theorem jK (k : Nat) (hk : 1000000000000 ≤ k) (a b : GOcc) (ha : cr a.Ids) (hb : cr b.Ids) : eB.f k a b = some (dG a b) := by
 have l1 := dP ha
 have l2 := dP hb
 unfold eB.f iV.f dz.f
 rw [zw k hk _ _ (by omega) (by omega)]
 simp only [Option.bind_some]
 have e : (a.Ids ++ b.Ids).mergeSort (fun x y => decide (x ≤ y)) = qb (a.Ids ++ b.Ids) := rfl
 rw [ae (by simp; omega), e]
 simp only [Option.bind_some]
 have l3 := wM (a.Ids ++ b.Ids)
 rw [ae l3, ae (by rw [l3]; simp; omega)]
 have l4 : (uniq (qb (a.Ids ++ b.Ids))).length ≤ 24 := by rw [sd ha.1 hb.1]; exact dP (qp ha hb)
 simp only [Option.bind_some]
 rw [ae (by omega), ae (by omega), ae (by omega), ae (by omega), sd ha.1 hb.1]
 unfold dG
 by_cases c1 : b.From < a.From
 ·rw [if_pos c1]
  by_cases c2 : a.To < b.To
  ·rw [if_pos c2]; congr 2 <;> omega
  ·rw [if_neg c2]; congr 2 <;> omega
 ·rw [if_neg c1]
  by_cases c2 : a.To < b.To
  ·rw [if_pos c2]; congr 2 <;> omega
  ·rw [if_neg c2]; congr 2 <;> omega
/-- a loop over a list, its state told in another way -/
theorem AA {α σ τ : Type} (ret : σ → τ) (l : List α) (body : σ → α → Option σ) (L : Nat → σ → Int → Option τ) (g : σ → α → σ) (Inv : Nat → σ → Prop)
  (hend : ∀ n s, L (n + 1) s (l.length : Int) = some (ret s))
  (hstep : ∀ n s (i : Nat) (h : i < l.length), L (n + 1) s (i : Int) = (body s l[i]).bind fun s' => L n s' ((i + 1 : Nat) : Int))
  (hbody : ∀ i s (h : i < l.length), Inv i s → body s l[i] = some (g s l[i]) ∧ Inv (i + 1) (g s l[i])) :
  ∀ (d i n : Nat) (s : σ), i + d = l.length → d < n → Inv i s → L n s (i : Int) = some (ret ((l.drop i).foldl g s)) ∧ Inv l.length ((l.drop i).foldl g s) := by
 intro d
 induction d with
 | zero =>
  intro i n s hi hn hI
  obtain ⟨n, rfl⟩ : ∃ m, n = m + 1 := ⟨n - 1, by omega⟩
  have e : i = l.length := by omega
  subst e
  rw [hend, List.drop_length]
  exact ⟨rfl, hI⟩
 | succ d ih =>
  intro i n s hi hn hI
  obtain ⟨n, rfl⟩ : ∃ m, n = m + 1 := ⟨n - 1, by omega⟩
  have hlt : i < l.length := by omega
  obtain ⟨h1, h2⟩ := hbody i s hlt hI
  rw [hstep n s i hlt, h1, List.drop_eq_getElem_cons hlt]
  exact ih (i + 1) n _ (by omega) (by omega) h2
theorem ic {α σ τ : Type} (ret : σ → τ) (l : List α) (body : σ → α → Option σ) (L : Nat → σ → Int → Option τ) (g : σ → α → σ) (Inv : Nat → σ → Prop)
  (hend : ∀ n s, L (n + 1) s (l.length : Int) = some (ret s))
  (hstep : ∀ n s (i : Nat) (h : i < l.length), L (n + 1) s (i : Int) = (body s l[i]).bind fun s' => L n s' ((i + 1 : Nat) : Int))
  (hbody : ∀ i s (h : i < l.length), Inv i s → body s l[i] = some (g s l[i]) ∧ Inv (i + 1) (g s l[i])) (n : Nat) (s : σ) (hn : l.length < n) (hI : Inv 0 s) :
  L n s 0 = some (ret (l.foldl g s)) ∧ Inv l.length (l.foldl g s) := by
 have := AA ret l body L g Inv hend hstep hbody l.length 0 n s (by omega) hn hI
 simpa using this
/-- those of a list that hold, kept in order -/
theorem mQ {α : Type} (p : α → Bool) : ∀ (l acc : List α), l.foldl (fun s e => if p e = true then s ++ [e] else s) acc = acc ++ l.filter p
 | [], acc => by simp
 | x :: l, acc => by
  rw [List.foldl_cons, mQ p l]
  by_cases h : p x = true
  ·rw [if_pos h, List.filter_cons_of_pos h]; simp
  ·rw [if_neg h, List.filter_cons_of_neg h]
/-- all numbers of a list of occurrences are right -/
def Ids (l : List GOcc) : Prop := ∀ o ∈ l, cr o.Ids
theorem Ids.few {l : List GOcc} (h : Ids l) : ji l := fun o ho => by have := dP (h o ho); omega
theorem ud {l : List GOcc} {o : GOcc} (h : Ids l) (ho : cr o.Ids) : Ids (cd l o) := fun x hx => by
 rcases eF.1 hx with h1 | rfl
 ·exact h x h1
 ·exact ho
theorem hO {l m : List GOcc} (h : Ids l) (hm : Ids m) : Ids (cm l m) := fun x hx => by
 rcases jG.1 hx with h1 | h1
 ·exact h x h1
 ·exact hm x h1
theorem j3 {a b : GOcc} (ha : cr a.Ids) (hb : cr b.Ids) : cr (dG a b).Ids := qp ha hb
theorem zV {l : List GOcc} (h : di l = true) : Ids l := fun o ho => by
 obtain ⟨i, hi, rfl⟩ := List.mem_iff_getElem.1 ho
 have := (uK h hi).1
 unfold eR at this
 simp only [Bool.and_eq_true, decide_eq_true_eq] at this
 exact vM this.2
/-- what is found of one and of those that wait -/
def rv (o : GOcc) (l : List GOcc) : GOcc := l.foldl dG o
def vy (o : GOcc) (l : List GOcc) : List GOcc := l.foldl (fun s e => cd s (dG o e)) []
def eo (mode : Int) (o : GOcc) (l : List GOcc) : List GOcc :=
 if l.length = 0 then [] else if mode = 1 then [dG o (l[l.length - 1]?.getD o)] else if mode = 2 then [dG o (l[0]?.getD o)] else if mode = 4 then [rv o l] else vy o l
def pO (mode : Int) (l : List GOcc) : List GOcc := if mode = 1 then [] else if mode = 2 then l.take 1 else if mode = 4 then l else if mode = 3 then l else []
theorem xR : ∀ {l : List GOcc} {o : GOcc}, Ids l → cr o.Ids → cr (rv o l).Ids
 | [], _, _, h => h
 | x :: l, o, hl, h => xR (l := l) (o := dG o x) (fun y hy => hl y (by simp [hy])) (j3 h (hl x (by simp)))
theorem su (o : GOcc) (ho : cr o.Ids) : ∀ (l acc : List GOcc), Ids l → Ids acc → Asc acc → Ids (l.foldl (fun s e => cd s (dG o e)) acc) ∧ Asc (l.foldl (fun s e => cd s (dG o e)) acc) ∧ (l.foldl (fun s e => cd s (dG o e)) acc).length ≤ acc.length + l.length
 | [], acc, _, h, h2 => ⟨h, h2, by simp⟩
 | x :: l, acc, hl, h, h2 => by
  obtain ⟨a, b, c⟩ := su o ho l (cd acc (dG o x)) (fun y hy => hl y (by simp [hy])) (ud h (j3 ho (hl x (by simp)))) (j9 h2)
  have := gD (dG o x) acc
  exact ⟨a, b, by simp only [List.foldl_cons, List.length_cons]; omega⟩
theorem xo (k : Nat) (hk : 1000000000000 ≤ k) (o : GOcc) (l : List GOcc) (hl : l.length ≤ 40000000000) (hi : Ids l) (ho : cr o.Ids) :
  aJ.l0 k l k o.From o.To o.Ids 0 = some ((rv o l).From, (rv o l).To, (rv o l).Ids) := by
 have := ic (fun s : GOcc => (s.From, s.To, s.Ids)) l (fun s e => eB.f k s e) (fun n s i => aJ.l0 k l n s.From s.To s.Ids i) dG (fun i s => cr s.Ids)
  (fun n s => by rw [aJ.l0, if_neg (by omega)])
  (fun n s i h => by
   rw [aJ.l0, if_pos (by omega), ae (by omega), Int.toNat_natCast, List.getElem?_eq_getElem h]
   simp only [Option.bind_some]
   rw [wrS i (by omega)])
  (fun i s h hI => ⟨jK k hk s _ hI (hi _ (List.getElem_mem h)), j3 hI (hi _ (List.getElem_mem h))⟩) k o (by omega) ho
 exact this.1
theorem wh (k : Nat) (hk : 1000000000000 ≤ k) (o : GOcc) (l : List GOcc) (hl : l.length ≤ 40000000000) (hi : Ids l) (ho : cr o.Ids) : aJ.l1 k o l k [] 0 = some (vy o l) := by
 have := fa l (fun s e => (eB.f k o e).bind fun x => dJ.f k s x) (aJ.l1 k o l) (fun s e => cd s (dG o e)) (fun i s => s.length ≤ i ∧ Ids s ∧ Asc s)
  (fun n s => by rw [aJ.l1, if_neg (by omega)])
  (fun n s i h => by
   rw [aJ.l1, if_pos (by omega), ae (by omega), Int.toNat_natCast, List.getElem?_eq_getElem h]
   simp only [Option.bind_some]
   rw [wrS i (by omega), Option.bind_assoc])
  (fun i s h hI => by
   have hx := hi _ (List.getElem_mem h)
   refine ⟨by rw [jK k hk o _ ho hx]; exact iS k hk s _ (by omega) hI.2.1.few hI.2.2, ?_, ud hI.2.1 (j3 ho hx), j9 hI.2.2⟩
   have := gD (dG o l[i]) s; omega)
  k [] (by omega) ⟨by simp, fun x hx => by simp at hx, by simp [Asc]⟩
 exact this.1
theorem lc (k : Nat) (hk : 1000000000000 ≤ k) (mode : Int) (o : GOcc) (l : List GOcc) (hl : l.length ≤ 40000000000) (hi : Ids l) (ho : cr o.Ids) :
  aJ.f k mode o l = some (eo mode o l, if l.length = 0 then [] else pO mode l) := by
 unfold aJ.f eo pO
 by_cases h0 : l.length = 0
 ·rw [if_pos (by omega), if_pos h0, if_pos h0]
 rw [if_neg (by omega), if_neg h0, if_neg h0]
 by_cases h1 : mode = 1
 ·obtain ⟨j, hj⟩ : ∃ j, l.length = j + 1 := ⟨l.length - 1, by omega⟩
  have hlt : j < l.length := by omega
  have e : IntKind.wrap .i64 ((l.length : Int) - 1) = (j : Int) := by rw [hj]; exact wrP j (by omega)
  rw [if_pos h1, if_pos h1, if_pos h1, e, ae (by omega), Int.toNat_natCast, List.getElem?_eq_getElem hlt]
  simp only [Option.bind_some]
  rw [jK k hk o _ ho (hi _ (List.getElem_mem hlt)), show l.length - 1 = j by omega, List.getElem?_eq_getElem hlt]
  rfl
 rw [if_neg h1, if_neg h1, if_neg h1]
 by_cases h2 : mode = 2
 ·have hlt : 0 < l.length := by omega
  rw [if_pos h2, if_pos h2, if_pos h2, ae (by omega), List.getElem?_eq_getElem hlt]
  simp only [Option.bind_some]
  rw [jK k hk o _ ho (hi _ (List.getElem_mem hlt))]
  simp only [Option.bind_some]
  rw [ae (by omega), ae (by omega), ae (by omega)]
  rfl
 rw [if_neg h2, if_neg h2, if_neg h2]
 by_cases h4 : mode = 4
 ·rw [if_pos h4, if_pos h4, if_pos h4, xo k hk o l hl hi ho]
  rfl
 rw [if_neg h4, if_neg h4, if_neg h4, wh k hk o l hl hi ho]
 simp only [Option.bind_some]
 by_cases h3 : mode = 3
 ·rw [if_pos h3, if_pos h3]
 ·rw [if_neg h3, if_neg h3]
/-- a list without some -/
def tS (l gone : List GOcc) : List GOcc := l.filter fun x => !(gone.any fun g => decide (cy g x = 0))
theorem uI {l : List GOcc} {o : GOcc} (hs : Asc l) : (∃ x, l[cf l o]? = some x ∧ cy x o = 0) ↔ (l.any fun g => decide (cy g o = 0)) = true := by
 rw [List.any_eq_true]
 constructor
 ·rintro ⟨x, h1, h2⟩
  exact ⟨x, List.mem_of_getElem? h1, by simpa using h2⟩
 ·rintro ⟨x, h1, h2⟩
  have h2 : cy x o = 0 := by simpa using h2
  have e := mC h2
  subst e
  obtain ⟨i, hi, rfl⟩ := List.mem_iff_getElem.1 h1
  refine ⟨l[i], ?_, ka _⟩
  have hr := uu l l[i]
  rcases Nat.lt_trichotomy i (cf l l[i]) with h | h | h
  ·obtain ⟨y, e1, e2⟩ := pu h
   rw [List.getElem?_eq_getElem hi, Option.some.injEq] at e1
   subst e1
   rw [ut] at e2; cases e2
  ·rw [← h]; exact List.getElem?_eq_getElem hi
  ·have h3 := wk (l := l) (o := l[i]) (by omega)
   have h4 : bL l[cf l l[i]] l[i] = true := List.pairwise_iff_getElem.1 hs _ _ _ _ h
   rw [h4] at h3; cases h3
theorem oc (k : Nat) (hk : 1000000000000 ≤ k) (l gone : List GOcc) (hl : l.length ≤ 40000000000) (hg : gone.length ≤ 40000000000) (hf : ji gone) (hs : Asc gone) : bd.f k l gone = some (tS l gone) := by
 unfold bd.f
 have := fa l (fun s e => (aI.f (fun y0 y1 => ci.f k y0 y1) k gone e).bind fun x => if x.2 = true then some s else (req ((s.length + 1) * 40 ≤ 140737488355328) (some (s ++ [e])))) (bd.l0 k l gone)
  (fun s e => if (!(gone.any fun g => decide (cy g e = 0))) = true then s ++ [e] else s) (fun i s => s.length ≤ i)
  (fun n s => by rw [bd.l0, if_neg (by omega)])
  (fun n s i h => by
   rw [bd.l0, if_pos (by omega), ae (by omega), Int.toNat_natCast, List.getElem?_eq_getElem h]
   simp only [Option.bind_some]
   rw [wrS i (by omega), yc k hk gone _ (by omega) hf hs]
   simp only [Option.bind_some]
   split
   ·rfl
   ·unfold req; split <;> rfl)
  (fun i s h hI => by
   rw [yc k hk gone _ (by omega) hf hs]
   simp only [Option.bind_some]
   by_cases c : ∃ x, gone[cf gone l[i]]? = some x ∧ cy x l[i] = 0
   ·have c2 := (uI hs).1 c
    rw [if_pos (by simpa using c), c2]
    exact ⟨rfl, by simp; omega⟩
   ·have c2 : (gone.any fun g => decide (cy g l[i] = 0)) = false := by
     cases h' : (gone.any fun g => decide (cy g l[i] = 0))
     ·rfl
     ·exact absurd ((uI hs).2 h') c
    rw [if_neg (by simpa using c), c2, ae (by omega)]
    exact ⟨rfl, by simp; omega⟩)
  k [] (by omega) (by simp)
 rw [this.1, mQ]; rfl
theorem lD (k : Nat) (hk : 1000000000000 ≤ k) (g1 : GOcc → Option Bool) (p : GOcc → Bool) (l : List GOcc) (hl : l.length ≤ 40000000000) (hp : ∀ x ∈ l, g1 x = some (p x)) : aP.f g1 k l = some (l.filter p) := by
 unfold aP.f
 have := fa l (fun s e => (g1 e).bind fun x => if x = true then (req ((s.length + 1) * 40 ≤ 140737488355328) (some (s ++ [e]))) else some s) (aP.l0 k g1 l)
  (fun s e => if p e = true then s ++ [e] else s) (fun i s => s.length ≤ i)
  (fun n s => by rw [aP.l0, if_neg (by omega)])
  (fun n s i h => by
   rw [aP.l0, if_pos (by omega), ae (by omega), Int.toNat_natCast, List.getElem?_eq_getElem h]
   simp only [Option.bind_some]
   rw [wrS i (by omega), hp _ (List.getElem_mem h)]
   simp only [Option.bind_some]
   split
   ·unfold req; split <;> rfl
   ·rfl)
  (fun i s h hI => by
   rw [hp _ (List.getElem_mem h)]
   simp only [Option.bind_some]
   by_cases c : p l[i] = true
   ·rw [if_pos c, if_pos c, ae (by omega)]
    exact ⟨rfl, by simp; omega⟩
   ·rw [if_neg c, if_neg c]
    exact ⟨rfl, by omega⟩)
  k [] (by omega) (by simp)
 rw [this.1, mQ]; rfl
/-- an ordered list of occurrences with right numbers, no longer than m -/
def Ok (m : Nat) (l : List GOcc) : Prop := Asc l ∧ Ids l ∧ l.length ≤ m
theorem Ok.nil (m : Nat) : Ok m [] := ⟨by simp [Asc], fun x hx => by simp at hx, by simp⟩
theorem Ok.mono {m n : Nat} {l : List GOcc} (h : Ok m l) (hm : m ≤ n) : Ok n l := ⟨h.1, h.2.1, Nat.le_trans h.2.2 hm⟩
theorem Ok.filter {m : Nat} {l : List GOcc} (p : GOcc → Bool) (h : Ok m l) : Ok m (l.filter p) := ⟨List.Pairwise.sublist List.filter_sublist h.1, fun x hx => h.2.1 x (List.mem_filter.1 hx).1, Nat.le_trans (List.length_filter_le _ _) h.2.2⟩
theorem Ok.rem {m : Nat} {l gone : List GOcc} (h : Ok m l) : Ok m (tS l gone) := h.filter _
theorem Ok.merge {m n : Nat} {l r : List GOcc} (h : Ok m l) (hr : Ok n r) : Ok (m + n) (cm l r) := ⟨fb h.1, hO h.2.1 hr.2.1, by have := cv r l; have := h.2.2; have := hr.2.2; omega⟩
theorem Ok.put {m : Nat} {l : List GOcc} {o : GOcc} (h : Ok m l) (ho : cr o.Ids) : Ok (m + 1) (cd l o) := ⟨j9 h.1, ud h.2.1 ho, by have := gD o l; have := h.2.2; omega⟩
theorem Ok.found {m : Nat} {mode : Int} {o : GOcc} {l : List GOcc} (h : Ok m l) (ho : cr o.Ids) : Ok m (eo mode o l) := by
 have one : ∀ x : GOcc, cr x.Ids → l.length ≠ 0 → Ok m [x] := fun x hx hl => ⟨by simp [Asc], fun y hy => by rw [List.mem_singleton.1 hy]; exact hx, by have := h.2.2; simp; omega⟩
 unfold eo
 by_cases h0 : l.length = 0
 ·rw [if_pos h0]; exact Ok.nil m
 rw [if_neg h0]
 split
 ·exact one _ (j3 ho (by rw [List.getElem?_eq_getElem (show l.length - 1 < l.length by omega)]; exact h.2.1 _ (List.getElem_mem _))) h0
 split
 ·exact one _ (j3 ho (by rw [List.getElem?_eq_getElem (show 0 < l.length by omega)]; exact h.2.1 _ (List.getElem_mem _))) h0
 split
 ·exact one _ (xR h.2.1 ho) h0
 ·obtain ⟨a, b, c⟩ := su o ho l [] h.2.1 (Ok.nil 0).2.1 (Ok.nil 0).1
  exact ⟨b, a, by simp at c; have := h.2.2; exact Nat.le_trans c this⟩
theorem Ok.gone {m : Nat} {mode : Int} {l : List GOcc} (h : Ok m l) : Ok m (if l.length = 0 then [] else pO mode l) := by
 split
 ·exact Ok.nil m
 unfold pO
 split
 ·exact Ok.nil m
 split
 ·exact ⟨List.Pairwise.sublist (List.take_sublist _ _) h.1, fun x hx => h.2.1 x (List.mem_of_mem_take hx), by have := h.2.2; simp; omega⟩
 split
 ·exact h
 split
 ·exact h
 ·exact Ok.nil m
/-- one on the right of a sequence or an absence: what is left waiting, and what was found -/
def eu (mode : Int) (p : GOcc → GOcc → Bool) (s : List GOcc × List GOcc) (o : GOcc) : List GOcc × List GOcc :=
 (tS s.1 (if (s.1.filter (p o)).length = 0 then [] else pO mode (s.1.filter (p o))), cm s.2 (eo mode o (s.1.filter (p o))))
theorem xG {mode : Int} {p : GOcc → GOcc → Bool} {s : List GOcc × List GOcc} {o : GOcc} {m n : Nat} (h1 : Ok m s.1) (h2 : Ok n s.2) (ho : cr o.Ids) : Ok m (eu mode p s o).1 ∧ Ok (n + m) (eu mode p s o).2 :=
 ⟨h1.rem, h2.merge ((h1.filter _).found ho)⟩
def before (o s : GOcc) : Bool := decide (s.To < o.From)
theorem AF (k : Nat) (hk : 1000000000000 ≤ k) (mode : Int) (right : List GOcc) (left : List GOcc) (m c : Nat) (hm : m ≤ 40000000000) (hc : right.length ≤ c) (hc2 : c ≤ 40000000000) (hcm : c * m ≤ 40000000000) (hl : Ok m left) (hr : Ids right) :
  bT.l0 k mode right k left [] 0 = some (right.foldl (eu mode before) (left, [])) ∧ Ok m (right.foldl (eu mode before) (left, [])).1 ∧ Ok (c * m) (right.foldl (eu mode before) (left, [])).2 := by
 have := ic (fun s : List GOcc × List GOcc => s) right (fun s e => (aP.f (fun y0 => eh.f y0 e) k s.1).bind fun x46 => ((aJ.f k mode e x46).bind fun x49 => ((aS.f k s.2 x49.1).bind fun x52 => ((bd.f k s.1 x49.2).bind fun x55 => some (x55, x52))))) (fun n s i => bT.l0 k mode right n s.1 s.2 i) (eu mode before) (fun i s => Ok m s.1 ∧ Ok (i * m) s.2)
  (fun n s => by rw [bT.l0, if_neg (by omega)])
  (fun n s i h => by
   rw [bT.l0, if_pos (by omega), ae (by omega), Int.toNat_natCast, List.getElem?_eq_getElem h]
   simp only [Option.bind_some, Option.bind_assoc]
   rw [wrS i (by omega)])
  (fun i s h hI => by
   obtain ⟨h1, h2⟩ := hI
   have ho := hr _ (List.getElem_mem h)
   have hb : i * m ≤ 40000000000 := Nat.le_trans (Nat.mul_le_mul_right _ (by omega)) hcm
   have hf := h1.filter (before right[i])
   have hfo := hf.found (mode := mode) ho
   have hg := hf.gone (mode := mode)
   have e1 : aP.f (fun y0 => eh.f y0 right[i]) k s.1 = some (s.1.filter (before right[i])) := lD k hk _ _ _ (by have := h1.2.2; omega) (fun x hx => rfl)
   have := h1.2.2; have := h2.2.2; have := hf.2.2; have := hfo.2.2; have := hg.2.2
   refine ⟨?_, ?_⟩
   ·rw [e1]
    simp only [Option.bind_some]
    rw [lc k hk mode _ _ (by omega) hf.2.1 ho]
    simp only [Option.bind_some]
    rw [cA k hk _ _ (by omega) h2.2.1.few hfo.2.1.few h2.1]
    simp only [Option.bind_some]
    rw [oc k hk _ _ (by omega) (by omega) hg.2.1.few hg.1]
    rfl
   ·have := xG (mode := mode) (p := before) h1 h2 ho
    refine ⟨this.1, ?_⟩
    rw [Nat.succ_mul]
    exact this.2)
  k (left, []) (by omega) ⟨hl, by simpa using Ok.nil 0⟩
 exact ⟨this.1, this.2.1, this.2.2.mono (Nat.mul_le_mul_right _ hc)⟩
theorem o7 {f : GOcc → GOcc} {z : GOcc} : ∀ {l acc : List GOcc}, z ∈ acc → z ∈ l.foldl (fun s e => cd s (f e)) acc
 | [], _, h => h
 | x :: l, acc, h => o7 (l := l) (eF.2 (.inl h))
theorem za (mode : Int) (o : GOcc) (l : List GOcc) : (eo mode o l).length = 0 ↔ l.length = 0 := by
 unfold eo
 by_cases h0 : l.length = 0
 ·simp [h0]
 ·rw [if_neg h0]
  split
  ·simp [h0]
  split
  ·simp [h0]
  split
  ·simp [h0]
  ·cases l with
   | nil => simp at h0
   | cons x l =>
    have : dG o x ∈ vy o (x :: l) := by
     unfold vy
     rw [List.foldl_cons]
     exact o7 (eF.2 (.inr rfl))
    have := List.length_pos_of_mem this
    simp at h0 ⊢
    intro e
    rw [e] at this
    simp at this
def jB (mode : Int) (own : List GOcc) (o : GOcc) (alone : Bool) : List GOcc := if mode = 1 then [o] else if mode = 0 then cd own o else if alone = true then cd own o else own
theorem Bh (k : Nat) (hk : 1000000000000 ≤ k) (mode : Int) (own : List GOcc) (o : GOcc) (alone : Bool) (m : Nat) (hm : m ≤ 40000000000) (h : Ok m own) : ep.f k mode own o alone = some (jB mode own o alone) := by
 unfold ep.f jB
 have := h.2.2
 rw [iS k hk own o (by omega) h.2.1.few h.1]
 simp only [Option.bind_some]
 split
 ·rfl
 split
 ·rfl
 split <;> rfl
theorem Ok.store {m : Nat} {mode : Int} {own : List GOcc} {o : GOcc} {alone : Bool} (h : Ok m own) (ho : cr o.Ids) : Ok (m + 1) (jB mode own o alone) := by
 unfold jB
 split
 ·exact ⟨by simp [Asc], fun y hy => by rw [List.mem_singleton.1 hy]; exact ho, by simp⟩
 split
 ·exact h.put ho
 split
 ·exact h.put ho
 ·exact h.mono (by omega)
/-- one met with those of the other side: its own side, the other side, what was found -/
def fi (mode : Int) (s : List GOcc × List GOcc × List GOcc) (o : GOcc) : List GOcc × List GOcc × List GOcc :=
 (jB mode s.1 o (decide (s.2.1.length = 0)), tS s.2.1 (if s.2.1.length = 0 then [] else pO mode s.2.1), cm s.2.2 (eo mode o s.2.1))
theorem nV {mode : Int} {s : List GOcc × List GOcc × List GOcc} {o : GOcc} {a b c : Nat} (h1 : Ok a s.1) (h2 : Ok b s.2.1) (h3 : Ok c s.2.2) (ho : cr o.Ids) : Ok (a + 1) (fi mode s o).1 ∧ Ok b (fi mode s o).2.1 ∧ Ok (c + b) (fi mode s o).2.2 :=
 ⟨h1.store ho, h2.rem, h3.merge (h2.found ho)⟩
/-- the program's half -/
theorem uv (k : Nat) (hk : 1000000000000 ≤ k) (mode : Int) (own other out : List GOcc) (o : GOcc) (a b c : Nat) (ha : a ≤ 40000000000) (hb : b ≤ 40000000000) (hc : c ≤ 40000000000) (h1 : Ok a own) (h2 : Ok b other) (h3 : Ok c out) (ho : cr o.Ids) :
  ((aJ.f k mode o other).bind fun x48 => ((aS.f k out x48.1).bind fun x51 => ((bd.f k other x48.2).bind fun x54 => ((ep.f k mode own o ((x48.1.length : Int) == 0)).bind fun x57 => some (x57, x54, x51))))) = some (fi mode (own, other, out) o) := by
 have hfo := h2.found (mode := mode) ho
 have hg := h2.gone (mode := mode)
 have := h1.2.2; have := h2.2.2; have := h3.2.2; have := hfo.2.2; have := hg.2.2
 rw [lc k hk mode o other (by omega) h2.2.1 ho]
 simp only [Option.bind_some]
 rw [cA k hk _ _ (by omega) h3.2.1.few hfo.2.1.few h3.1]
 simp only [Option.bind_some]
 rw [oc k hk _ _ (by omega) (by omega) hg.2.1.few hg.1]
 simp only [Option.bind_some]
 have e : (((eo mode o other).length : Int) == 0) = decide (other.length = 0) := by
  rw [Bool.eq_iff_iff]
  simp only [beq_iff_eq, decide_eq_true_eq]
  rw [← za mode o other]
  omega
 rw [e, Bh k hk mode own o _ a (by omega) h1]
 rfl
/-- one on the right of a conjunction: left, right, found -/
def kp (mode : Int) (s : List GOcc × List GOcc × List GOcc) (o : GOcc) : List GOcc × List GOcc × List GOcc :=
 ((fi mode (s.2.1, s.1, s.2.2) o).2.1, (fi mode (s.2.1, s.1, s.2.2) o).1, (fi mode (s.2.1, s.1, s.2.2) o).2.2)
/-- left and right have grown by no more than i, found by no more than i times both -/
def nq (m : Nat) (i : Nat) (s : List GOcc × List GOcc × List GOcc) : Prop := Ok (m + i) s.1 ∧ Ok (m + i) s.2.1 ∧ Ok (i * (m + 100)) s.2.2
theorem nq.half {m i : Nat} {mode : Int} {s : List GOcc × List GOcc × List GOcc} {o : GOcc} (h : nq m i s) (hi : i < 100) (ho : cr o.Ids) : nq m (i + 1) (fi mode s o) := by
 obtain ⟨a, b, c⟩ := nV (mode := mode) h.1 h.2.1 h.2.2 ho
 refine ⟨a, b.mono (by omega), c.mono ?_⟩
 rw [Nat.succ_mul]; omega
theorem nq.other {m i : Nat} {mode : Int} {s : List GOcc × List GOcc × List GOcc} {o : GOcc} (h : nq m i s) (hi : i < 100) (ho : cr o.Ids) : nq m (i + 1) (kp mode s o) := by
 obtain ⟨a, b, c⟩ := nV (mode := mode) (s := (s.2.1, s.1, s.2.2)) h.2.1 h.1 h.2.2 ho
 refine ⟨b.mono (by omega), a, c.mono ?_⟩
 rw [Nat.succ_mul]; omega
def gN (mode : Int) (l r left right : List GOcc) : List GOcc × List GOcc × List GOcc := right.foldl (kp mode) (left.foldl (fi mode) (l, r, []))
def kR (mode : Int) (l left right : List GOcc) : List GOcc × List GOcc := (cm (right.foldl (eu mode before) (l, [])).1 left, (right.foldl (eu mode before) (l, [])).2)
theorem tm (k : Nat) (hk : 1000000000000 ≤ k) (mode : Int) (p : GPair) (left right : List GOcc) (m c : Nat) (hm : m ≤ 40000000000) (hc2 : c ≤ 40000000000) (hcm : c * m ≤ 40000000000) (h1 : Ok m p.Left) (hl : Ids left) (hr : Ids right) (hn : left.length ≤ 40000000000) (hn2 : right.length ≤ c) :
  bT.f k p mode left right = some (⟨(kR mode p.Left left right).1, p.Right⟩, (kR mode p.Left left right).2) ∧ Ok (m + left.length) (kR mode p.Left left right).1 ∧ Ok (c * m) (kR mode p.Left left right).2 := by
 obtain ⟨a, b, c⟩ := AF k hk mode right p.Left m c hm hn2 hc2 hcm h1 hr
 have := b.2.2
 refine ⟨?_, ⟨fb b.1, hO b.2.1 hl, by have := cv left (right.foldl (eu mode before) (p.Left, [])).1; show (cm _ _).length ≤ _; omega⟩, c⟩
 unfold bT.f
 rw [a]
 simp only [Option.bind_some]
 rw [cA k hk _ _ (by omega) b.2.1.few hl.few b.1]
 rfl
def Ci (mid : List GOcc) (a b : Int) : Bool := mid.any fun x => decide (a < x.From) && decide (x.To < b)
def eQ (mid : List GOcc) (o s : GOcc) : Bool := decide (s.To < o.From) && !Ci mid s.To o.From
theorem yY (k : Nat) (g1 : GOcc → Option Bool) (p : GOcc → Bool) (l : List GOcc) (hl : l.length ≤ 40000000000) (hp : ∀ x ∈ l, g1 x = some (p x)) : ∀ (d i n : Nat), i + d = l.length → d < n →
  ∃ r, aB.l0 k g1 l n (i : Int) = some r ∧ (((l.drop i).any p = false ∧ r = .ok ()) ∨ ((l.drop i).any p = true ∧ ∃ j : Nat, r = .error (j : Int))) := by
 intro d
 induction d with
 | zero =>
  intro i n hi hn
  obtain ⟨n, rfl⟩ : ∃ m, n = m + 1 := ⟨n - 1, by omega⟩
  rw [aB.l0, if_neg (by omega), List.drop_eq_nil_of_le (by omega)]
  exact ⟨_, rfl, .inl ⟨rfl, rfl⟩⟩
 | succ d ih =>
  intro i n hi hn
  obtain ⟨n, rfl⟩ : ∃ m, n = m + 1 := ⟨n - 1, by omega⟩
  have h : i < l.length := by omega
  rw [aB.l0, if_pos (by omega), ae (by omega), Int.toNat_natCast, List.getElem?_eq_getElem h, List.drop_eq_getElem_cons h]
  simp only [Option.bind_some, hp _ (List.getElem_mem h), List.any_cons]
  by_cases c : p l[i] = true
  ·rw [if_pos c]
   exact ⟨_, rfl, .inr ⟨by simp [c], i, rfl⟩⟩
  ·rw [if_neg c, wrS i (by omega)]
   have c' : p l[i] = false := by simpa using c
   rw [c', Bool.false_or]
   exact ih (i + 1) n (by omega) (by omega)
theorem xn (k : Nat) (hk : 1000000000000 ≤ k) (g1 : GOcc → Option Bool) (p : GOcc → Bool) (l : List GOcc) (hl : l.length ≤ 40000000000) (hp : ∀ x ∈ l, g1 x = some (p x)) : aR.f g1 k l = some (l.any p) := by
 unfold aR.f aB.f
 obtain ⟨r, h1, h2⟩ := yY k g1 p l hl hp l.length 0 k (by omega) (by omega)
 rw [show ((0 : Nat) : Int) = 0 from rfl] at h1
 rw [List.drop_zero] at h2
 rw [h1]
 rcases h2 with ⟨h2, rfl⟩ | ⟨h2, j, rfl⟩
 ·rw [h2]; rfl
 ·rw [h2]
  simp only [Option.bind_some]
  congr 1
theorem xP (k : Nat) (hk : 1000000000000 ≤ k) (s : GSpan) (o : GOcc) (hl : s.Left.length ≤ 40000000000) (hm : s.Mid.length ≤ 40000000000) : dC.f k s o = some (s.Left.filter (eQ s.Mid o)) := by
 unfold dC.f
 rw [lD k hk _ (eQ s.Mid o) s.Left hl (fun x hx => by
  unfold eE.f eQ
  by_cases c : x.To < o.From
  ·rw [if_pos c, xn k hk _ (fun y => decide (x.To < y.From) && decide (y.To < o.From)) s.Mid hm (fun y hy => by
    unfold ea.f
    by_cases c2 : x.To < y.From
    ·rw [if_pos c2]; simp [c2]
    ·rw [if_neg c2]; simp [c2])]
   simp only [Option.bind_some, Ci]
   simp [c]
  ·rw [if_neg c]; simp [c])]
 rfl
theorem AC (k : Nat) (hk : 1000000000000 ≤ k) (mode : Int) (sp : GSpan) (right : List GOcc) (m c : Nat) (hm : m ≤ 40000000000) (hc2 : c ≤ 40000000000) (hcm : c * m ≤ 40000000000) (hc : right.length ≤ c) (hl : Ok m sp.Left) (hmid : sp.Mid.length ≤ 40000000000) (hr : Ids right) :
  bS.l0 k sp mode right k sp.Left [] 0 = some (right.foldl (eu mode (eQ sp.Mid)) (sp.Left, [])) ∧ Ok m (right.foldl (eu mode (eQ sp.Mid)) (sp.Left, [])).1 ∧ Ok (c * m) (right.foldl (eu mode (eQ sp.Mid)) (sp.Left, [])).2 := by
 have := ic (fun s : List GOcc × List GOcc => s) right (fun s e => (dC.f k ⟨s.1, sp.Mid⟩ e).bind fun x46 => ((aJ.f k mode e x46).bind fun x49 => ((aS.f k s.2 x49.1).bind fun x52 => ((bd.f k s.1 x49.2).bind fun x55 => some (x55, x52))))) (fun n s i => bS.l0 k sp mode right n s.1 s.2 i) (eu mode (eQ sp.Mid)) (fun i s => Ok m s.1 ∧ Ok (i * m) s.2)
  (fun n s => by rw [bS.l0, if_neg (by omega)])
  (fun n s i h => by
   rw [bS.l0, if_pos (by omega), ae (by omega), Int.toNat_natCast, List.getElem?_eq_getElem h]
   simp only [Option.bind_some, Option.bind_assoc]
   rw [wrS i (by omega)])
  (fun i s h hI => by
   obtain ⟨h1, h2⟩ := hI
   have ho := hr _ (List.getElem_mem h)
   have hb : i * m ≤ 40000000000 := Nat.le_trans (Nat.mul_le_mul_right _ (by omega)) hcm
   have hf := h1.filter (eQ sp.Mid right[i])
   have hfo := hf.found (mode := mode) ho
   have hg := hf.gone (mode := mode)
   have := h1.2.2; have := h2.2.2; have := hf.2.2; have := hfo.2.2; have := hg.2.2
   refine ⟨?_, ?_⟩
   ·rw [xP k hk ⟨s.1, sp.Mid⟩ _ (show s.1.length ≤ 40000000000 by omega) hmid]
    simp only [Option.bind_some]
    rw [lc k hk mode _ _ (by omega) hf.2.1 ho]
    simp only [Option.bind_some]
    rw [cA k hk _ _ (by omega) h2.2.1.few hfo.2.1.few h2.1]
    simp only [Option.bind_some]
    rw [oc k hk _ _ (by omega) (by omega) hg.2.1.few hg.1]
    rfl
   ·have := xG (mode := mode) (p := eQ sp.Mid) h1 h2 ho
    refine ⟨this.1, ?_⟩
    rw [Nat.succ_mul]
    exact this.2)
  k (sp.Left, []) (by omega) ⟨hl, by simpa using Ok.nil 0⟩
 exact ⟨this.1, this.2.1, this.2.2.mono (Nat.mul_le_mul_right _ hc)⟩
def gI (mode : Int) (l mid a b c : List GOcc) : List GOcc × List GOcc × List GOcc := (cm (c.foldl (eu mode (eQ mid)) (l, [])).1 a, cm mid b, (c.foldl (eu mode (eQ mid)) (l, [])).2)
theorem ub (k : Nat) (hk : 1000000000000 ≤ k) (mode : Int) (sp : GSpan) (a b c : List GOcc) (m n : Nat) (hm : m ≤ 40000000000) (hn2 : n ≤ 40000000000) (hnm : n * m ≤ 40000000000) (h1 : Ok m sp.Left) (h2 : Ok m sp.Mid) (ha : Ids a) (hb : Ids b) (hc : Ids c) (na : a.length ≤ 40000000000) (nb : b.length ≤ 40000000000) (nc : c.length ≤ n) :
  bS.f k sp mode a b c = some (⟨(gI mode sp.Left sp.Mid a b c).1, (gI mode sp.Left sp.Mid a b c).2.1⟩, (gI mode sp.Left sp.Mid a b c).2.2) ∧ Ok (m + a.length) (gI mode sp.Left sp.Mid a b c).1 ∧ Ok (m + b.length) (gI mode sp.Left sp.Mid a b c).2.1 ∧ Ok (n * m) (gI mode sp.Left sp.Mid a b c).2.2 := by
 have q := h2.2.2
 obtain ⟨x, y, z⟩ := AC k hk mode sp c m n hm hn2 hnm nc h1 (by omega) hc
 have := y.2.2
 refine ⟨?_, ⟨fb y.1, hO y.2.1 ha, Nat.le_trans (cv _ _) (by omega)⟩, ⟨fb h2.1, hO h2.2.1 hb, Nat.le_trans (cv _ _) (by omega)⟩, z⟩
 unfold bS.f
 rw [x]
 simp only [Option.bind_some]
 rw [cA k hk _ _ (by omega) y.2.1.few ha.few y.1]
 simp only [Option.bind_some]
 rw [cA k hk _ _ (by omega) h2.2.1.few hb.few h2.1]
 rfl
def AB (mode : Int) (l mid b : List GOcc) : List GOcc := b.foldl (fun s o => cm s (eo mode o (l.filter (eQ mid o)))) []
def cM (mode : Int) (l mid a b c : List GOcc) : List GOcc × List GOcc × List GOcc := (cm l a, cm mid c, AB mode l mid b)
theorem rE (k : Nat) (hk : 1000000000000 ≤ k) (mode : Int) (sp : GSpan) (a b c : List GOcc) (m n : Nat) (hm : m ≤ 40000000000) (hn2 : n ≤ 40000000000) (hnm : n * m ≤ 40000000000) (h1 : Ok m sp.Left) (h2 : Ok m sp.Mid) (ha : Ids a) (hb : Ids b) (hc : Ids c) (na : a.length ≤ 40000000000) (nb : b.length ≤ n) (nc : c.length ≤ 40000000000) :
  bP.f k sp mode a b c = some (⟨(cM mode sp.Left sp.Mid a b c).1, (cM mode sp.Left sp.Mid a b c).2.1⟩, (cM mode sp.Left sp.Mid a b c).2.2) ∧ Ok (m + a.length) (cM mode sp.Left sp.Mid a b c).1 ∧ Ok (m + c.length) (cM mode sp.Left sp.Mid a b c).2.1 ∧ Ok (n * m) (cM mode sp.Left sp.Mid a b c).2.2 := by
 have q1 := h1.2.2
 have q2 := h2.2.2
 have := fa b (fun s e => (dC.f k sp e).bind fun x38 => ((aJ.f k mode e x38).bind fun x41 => aS.f k s x41.1)) (bP.l0 k sp mode b) (fun s o => cm s (eo mode o (sp.Left.filter (eQ sp.Mid o)))) (fun i s => Ok (i * m) s)
  (fun n s => by rw [bP.l0, if_neg (by omega)])
  (fun n s i h => by
   rw [bP.l0, if_pos (by omega), ae (by omega), Int.toNat_natCast, List.getElem?_eq_getElem h]
   simp only [Option.bind_some, Option.bind_assoc]
   rw [wrS i (by omega)])
  (fun i s h hI => by
   have ho := hb _ (List.getElem_mem h)
   have hbm : i * m ≤ 40000000000 := Nat.le_trans (Nat.mul_le_mul_right _ (by omega)) hnm
   have hf := h1.filter (eQ sp.Mid b[i])
   have hfo := hf.found (mode := mode) ho
   have := hI.2.2; have := hf.2.2; have := hfo.2.2
   refine ⟨?_, ?_⟩
   ·rw [xP k hk sp _ (by omega) (by omega)]
    simp only [Option.bind_some]
    rw [lc k hk mode _ _ (by omega) hf.2.1 ho]
    simp only [Option.bind_some]
    rw [cA k hk _ _ (by omega) hI.2.1.few hfo.2.1.few hI.1]
   ·rw [Nat.succ_mul]
    exact hI.merge hfo)
  k [] (by omega) (by simpa using Ok.nil 0)
 refine ⟨?_, ⟨fb h1.1, hO h1.2.1 ha, Nat.le_trans (cv _ _) (by omega)⟩, ⟨fb h2.1, hO h2.2.1 hc, Nat.le_trans (cv _ _) (by omega)⟩, this.2.mono (Nat.mul_le_mul_right _ nb)⟩
 unfold bP.f
 rw [this.1]
 simp only [Option.bind_some]
 rw [cA k hk _ _ (by omega) h1.2.1.few ha.few h1.1]
 simp only [Option.bind_some]
 rw [cA k hk _ _ (by omega) h2.2.1.few hc.few h2.1]
 rfl
def atM (l : List GOcc) (t : Int) : List GOcc := l.filter fun x => x.To == t
theorem sx (k : Nat) (hk : 1000000000000 ≤ k) (l : List GOcc) (t : Int) (hl : l.length ≤ 40000000000) : lv.f k l t = some (atM l t) := by
 unfold lv.f
 rw [lD k hk (fun y0 => kC.f y0 t) (fun x => x.To == t) l hl (fun x hx => rfl)]; rfl
abbrev Two := List GOcc × List GOcc
def seqF (mode : Int) (p : Two) (l r : List GOcc) : Two × List GOcc := (((kR mode p.1 l r).1, p.2), (kR mode p.1 l r).2)
def andF (mode : Int) (p : Two) (l r : List GOcc) : Two × List GOcc := (((gN mode p.1 p.2 l r).1, (gN mode p.1 p.2 l r).2.1), (gN mode p.1 p.2 l r).2.2)
def notF (mode : Int) (p : Two) (a b c : List GOcc) : Two × List GOcc := (((gI mode p.1 p.2 a b c).1, (gI mode p.1 p.2 a b c).2.1), (gI mode p.1 p.2 a b c).2.2)
def eachF (mode : Int) (p : Two) (a b c : List GOcc) : Two × List GOcc := (((cM mode p.1 p.2 a b c).1, (cM mode p.1 p.2 a b c).2.1), (cM mode p.1 p.2 a b c).2.2)
theorem rK {α σ : Type} (g : σ → α → σ) (Inv : Nat → σ → Prop) : ∀ (l : List α) (i : Nat) (s : σ), (∀ j s (h : j < l.length), Inv (i + j) s → Inv (i + j + 1) (g s l[j])) → Inv i s → Inv (i + l.length) (l.foldl g s)
 | [], i, s, _, h => h
 | x :: l, i, s, hs, h => by
  have h1 := hs 0 s (by simp) h
  have := rK g Inv l (i + 1) (g s x) (fun j s' hj hI => by
   have := hs (j + 1) s' (by simp; omega) (by rw [show i + (j + 1) = i + 1 + j by omega]; exact hI)
   rw [show i + (j + 1) + 1 = i + 1 + j + 1 by omega] at this
   exact this) h1
  rw [List.foldl_cons, List.length_cons, show i + (l.length + 1) = i + 1 + l.length by omega]
  exact this
theorem zk (mode : Int) : c7.f mode = some (decide (0 ≤ mode) && decide (mode ≤ 4)) ∧ iN.f mode = some (decide (0 ≤ mode) && decide (mode ≤ 4)) := by
 refine ⟨?_, ?_⟩
 ·unfold c7.f
  rw [dQ]; rfl
 ·unfold iN.f
  split
  ·have : ¬ 0 ≤ mode := by omega
   simp [this]
  ·have : 0 ≤ mode := by omega
   simp [this]
   omega
def jj (n : Int) (o : GOcc) : GOcc := ⟨o.From, o.To + n, o.Ids⟩
theorem xt (a b : GOcc) : bL a b = true ↔ a.To < b.To ∨ (a.To = b.To ∧ (a.From < b.From ∨ (a.From = b.From ∧ cG a.Ids b.Ids < 0))) := by
 unfold bL
 rw [decide_eq_true_eq, uV]
theorem zr {α : Type} (l : List α) (i : Nat) (h : i < l.length) : l.take (i + 1) = l.take i ++ [l[i]] := by
 rw [List.take_add_one, List.getElem?_eq_getElem h]; rfl
mutual
/-- how many nodes -/
def exN : GEx → Nat
 | ⟨_, _, _, ks⟩ => 1 + bU ks
def bU : List GEx → Nat
 | [] => 0
 | x :: xs => exN x + bU xs
end
theorem ej : bU [] = 0 := by simp only [bU]
theorem cK (x : GEx) (xs : List GEx) : bU (x :: xs) = exN x + bU xs := by simp only [bU]
theorem cD (e : GEx) : exN e = 1 + bU e.Kids := by cases e; simp only [exN]
theorem fu : ∀ l : List GEx, l.length ≤ bU l
 | [] => by simp [ej]
 | x :: xs => by have := fu xs; rw [cK, cD]; simp only [List.length_cons]; omega
theorem ek {e : GEx} : ∀ {l : List GEx}, e ∈ l → exN e ≤ bU l
 | x :: xs, h => by
  rw [cK]
  rcases List.mem_cons.1 h with rfl | h
  ·omega
  ·have := ek h; omega
mutual
theorem mg {P : GEx → Prop} (h : ∀ e : GEx, (∀ x ∈ e.Kids, P x) → P e) : ∀ e, P e
 | ⟨a, b, c, ks⟩ => h ⟨a, b, c, ks⟩ (Ae h ks)
theorem Ae {P : GEx → Prop} (h : ∀ e : GEx, (∀ x ∈ e.Kids, P x) → P e) : ∀ l : List GEx, ∀ x ∈ l, P x
 | [], _, hx => by simp at hx
 | y :: ys, x, hx => by
  rcases List.mem_cons.1 hx with e | hx
  ·rw [e]; exact mg h y
  ·exact Ae h ys x hx
end
def kj (a : Int) : Int := if a = 1 then 0 else if a = 7 then 1 else if a = 2 then 2 else if a = 3 then 2 else if a = 4 then 2 else if a = 5 then 3 else if a = 6 then 3 else -1
theorem pJ (a : Int) : fp.f a = some (kj a) := by
 unfold fp.f kj
 repeat' split
 all_goals rfl
def eH (e : GEx) : Bool := decide (kj e.Kind = (e.Kids.length : Int)) && decide (0 ≤ e.Sym) && decide (e.Sym < 5) && (decide (e.Kind = 1) || decide (e.Sym = 0)) && (if e.Kind = 7 then decide (1 ≤ e.N) && decide (e.N ≤ 20) else decide (e.N = 0))
mutual
def ed : GEx → Bool
 | ⟨a, b, c, ks⟩ => eH ⟨a, b, c, ks⟩ && j7 ks
def j7 : List GEx → Bool
 | [] => true
 | x :: xs => ed x && j7 xs
end
mutual
def exD : GEx → Nat
 | ⟨_, _, _, ks⟩ => 1 + jI ks
def jI : List GEx → Nat
 | [] => 0
 | x :: xs => max (exD x) (jI xs)
end
theorem ku (e : GEx) : ed e = (eH e && j7 e.Kids) := by cases e; simp only [ed]
theorem nh (e : GEx) : exD e = 1 + jI e.Kids := by cases e; simp only [exD]
theorem ke : ∀ l : List GEx, j7 l = l.all ed
 | [] => by simp only [j7]; rfl
 | x :: xs => by simp only [j7, ke xs, List.all_cons]
theorem mY : ∀ (l : List GEx) (d : Nat), jI l ≤ d ↔ ∀ x ∈ l, exD x ≤ d
 | [], d => by simp [jI]
 | x :: xs, d => by
  simp only [jI, Nat.max_le, mY xs d, List.mem_cons]
  exact ⟨fun h y hy => hy.elim (fun e => e ▸ h.1) (h.2 y), fun h => ⟨h x (.inl rfl), fun y hy => h y (.inr hy)⟩⟩
/-- well formed, no deeper than d -/
def kk : Nat → GEx → Bool
 | 0, _ => false
 | d + 1, e => eH e && e.Kids.all (kk d)
theorem v8 : ∀ (d : Nat) (e : GEx), kk d e = (decide (exD e ≤ d) && ed e)
 | 0, e => by rw [nh]; simp [kk]
 | d + 1, e => by
  rw [kk, ku, ke, nh]
  have h : e.Kids.all (kk d) = (decide (1 + jI e.Kids ≤ d + 1) && e.Kids.all ed) := by
   rw [Bool.eq_iff_iff]
   simp only [List.all_eq_true, Bool.and_eq_true, decide_eq_true_eq, v8 d]
   constructor
   ·intro h
    refine ⟨?_, fun x hx => (h x hx).2⟩
    have := (mY e.Kids d).2 fun x hx => (h x hx).1
    omega
   ·rintro ⟨h1, h2⟩ x hx
    exact ⟨(mY e.Kids d).1 (by omega) x hx, h2 x hx⟩
  rw [h]
  cases eH e <;> cases decide (1 + jI e.Kids ≤ d + 1) <;> rfl
theorem we (k : Nat) (rec' : GEx → Int → Option Bool) (e : GEx) (q : Int) (g : GEx → Bool) (hl : e.Kids.length < 4611686018427387904) (H : ∀ x ∈ e.Kids, rec' x (IntKind.wrap .i64 (q - 1)) = some (g x)) :
  ∀ (d n i : Nat), i + d = e.Kids.length → d < n →
   ax.l0 k rec' e q n (i : Int) = some (if (e.Kids.drop i).all g then .ok () else .error false) ∧
   ax.l1 k rec' e q n (i : Int) = some (if (e.Kids.drop i).all g then .ok () else .error false) ∧
   ax.l2 k rec' e q n (i : Int) = some (if (e.Kids.drop i).all g then .ok () else .error false) ∧
   ax.l3 k rec' e q n (i : Int) = some (if (e.Kids.drop i).all g then .ok () else .error false) := by
 intro d
 induction d with
 | zero =>
  intro n i hi hn
  obtain ⟨n, rfl⟩ : ∃ m, n = m + 1 := ⟨n - 1, by omega⟩
  rw [List.drop_eq_nil_of_le (by omega)]
  exact ⟨by rw [ax.l0, if_neg (by omega)]; rfl, by rw [ax.l1, if_neg (by omega)]; rfl, by rw [ax.l2, if_neg (by omega)]; rfl, by rw [ax.l3, if_neg (by omega)]; rfl⟩
 | succ d ih =>
  intro n i hi hn
  obtain ⟨n, rfl⟩ : ∃ m, n = m + 1 := ⟨n - 1, by omega⟩
  have hlt : i < e.Kids.length := by omega
  obtain ⟨i0, i1, i2, i3⟩ := ih n (i + 1) (by omega) (by omega)
  rw [List.drop_eq_getElem_cons hlt, List.all_cons]
  refine ⟨?_, ?_, ?_, ?_⟩
  ·rw [ax.l0, if_pos (by omega), ae (by omega), Int.toNat_natCast, List.getElem?_eq_getElem hlt]
   simp only [Option.bind_some, H e.Kids[i] (List.getElem_mem hlt)]
   cases g e.Kids[i]
   ·rfl
   ·rw [if_pos rfl, wrS i (by omega), i0, Bool.true_and]
  ·rw [ax.l1, if_pos (by omega), ae (by omega), Int.toNat_natCast, List.getElem?_eq_getElem hlt]
   simp only [Option.bind_some, H e.Kids[i] (List.getElem_mem hlt)]
   cases g e.Kids[i]
   ·rfl
   ·rw [if_pos rfl, wrS i (by omega), i1, Bool.true_and]
  ·rw [ax.l2, if_pos (by omega), ae (by omega), Int.toNat_natCast, List.getElem?_eq_getElem hlt]
   simp only [Option.bind_some, H e.Kids[i] (List.getElem_mem hlt)]
   cases g e.Kids[i]
   ·rfl
   ·rw [if_pos rfl, wrS i (by omega), i2, Bool.true_and]
  ·rw [ax.l3, if_pos (by omega), ae (by omega), Int.toNat_natCast, List.getElem?_eq_getElem hlt]
   simp only [Option.bind_some, H e.Kids[i] (List.getElem_mem hlt)]
   cases g e.Kids[i]
   ·rfl
   ·rw [if_pos rfl, wrS i (by omega), i3, Bool.true_and]
theorem wv : ∀ (d : Nat) (e : GEx) (k : Nat), d ≤ 5 → exN e ≤ 1048577 → 3 * exN e ≤ k → ax.f k e (d : Int) = some (kk d e)
 | 0, e, k, hd, hs, hk => by
  rw [cD] at hk
  obtain ⟨k, rfl⟩ : ∃ m, k = m + 1 := ⟨k - 1, by omega⟩
  rw [ax.f, if_pos (by decide)]; rfl
 | d + 1, e, k, hd, hs, hk => by
  rw [cD] at hk hs
  have hq := fu e.Kids
  obtain ⟨k, rfl⟩ : ∃ m, k = m + 1 := ⟨k - 1, by omega⟩
  have hw : IntKind.wrap .i64 (((d + 1 : Nat) : Int) - 1) = (d : Int) := wrP d (by omega)
  have H : ∀ x ∈ e.Kids, ax.f k x (IntKind.wrap .i64 (((d + 1 : Nat) : Int) - 1)) = some (kk d x) := fun x hx => by
   have := ek hx
   rw [hw]; exact wv d x k (by omega) (by omega) (by omega)
  obtain ⟨i0, i1, i2, i3⟩ := we k (ax.f k) e ((d + 1 : Nat) : Int) (kk d) (by omega) H e.Kids.length k 0 (by omega) (by omega)
  rw [show ((0 : Nat) : Int) = 0 from rfl, List.drop_zero] at i0 i1 i2 i3
  rw [ax.f, if_neg (by omega), pJ]
  simp only [Option.bind_some, i0, i1, i2, i3, kk, eH]
  cases hA : e.Kids.all (kk d) <;> (repeat' split) <;> simp_all <;> omega
theorem xm (k : Nat) (rec' : GEx → Int → Option Int) (e : GEx) (q : Int) (hq : 0 < q) (hl : e.Kids.length < 4611686018427387904) (H : ∀ x ∈ e.Kids, rec' x (IntKind.wrap .i64 (q - 1)) = some (exN x : Int)) :
  ∀ (d n i : Nat) (s : Int), i + d = e.Kids.length → d < n → 0 ≤ s → s + bU (e.Kids.drop i) ≤ 100000000 →
   bR.l0 k rec' e q n s (i : Int) = some (s + bU (e.Kids.drop i)) := by
 intro d
 induction d with
 | zero =>
  intro n i s hi hn h0 h1
  obtain ⟨n, rfl⟩ : ∃ m, n = m + 1 := ⟨n - 1, by omega⟩
  rw [bR.l0, if_neg (by omega), List.drop_eq_nil_of_le (by omega), ej]; simp
 | succ d ih =>
  intro n i s hi hn h0 h1
  obtain ⟨n, rfl⟩ : ∃ m, n = m + 1 := ⟨n - 1, by omega⟩
  have hlt : i < e.Kids.length := by omega
  rw [List.drop_eq_getElem_cons hlt, cK] at h1 ⊢
  rw [bR.l0, if_pos (by omega), if_pos hq, ae (by omega), Int.toNat_natCast, List.getElem?_eq_getElem hlt]
  simp only [Option.bind_some, H e.Kids[i] (List.getElem_mem hlt)]
  push_cast at h1
  rw [wrS i (by omega), wr (s + _) (by omega), ih n (i + 1) _ (by omega) (by omega) (by omega) (by omega)]
  congr 1; push_cast; omega
theorem vW : ∀ (d : Nat) (e : GEx) (k : Nat), d ≤ 5 → exD e ≤ d → exN e ≤ 1048577 → 3 * exN e ≤ k → bR.f k e (d : Int) = some (exN e : Int)
 | 0, e, k, _, hd, _, _ => by rw [nh] at hd; omega
 | d + 1, e, k, hd5, hd, hs, hk => by
  rw [nh] at hd
  rw [cD] at hk hs ⊢
  have hq := fu e.Kids
  obtain ⟨k, rfl⟩ : ∃ m, k = m + 1 := ⟨k - 1, by omega⟩
  have hdd := (mY e.Kids d).1 (by omega)
  have := xm k (bR.f k) e ((d + 1 : Nat) : Int) (by omega) (by omega) (fun x hx => by
   have := ek hx
   rw [wrP d (by omega)]; exact vW d x k (by omega) (hdd x hx) (by omega) (by omega)) e.Kids.length k 0 1 (by omega) (by omega) (by omega) (by simp only [List.drop_zero]; omega)
  rw [show ((0 : Nat) : Int) = 0 from rfl, List.drop_zero] at this
  rw [bR.f, this]
  simp
theorem CT : ∀ e : GEx, exD e ≤ exN e := by
 refine mg fun e ih => ?_
 rw [nh, cD]
 have := (mY e.Kids (bU e.Kids)).2 fun x hx => by
  have := ih x hx; have := ek hx; omega
 omega
theorem Am (x : GEx) (xs : List GEx) : jI (x :: xs) = max (exD x) (jI xs) := by simp only [jI]
theorem zq (k : Nat) (rec' : GEx → Option (Int × Int)) (e : GEx) (hl : e.Kids.length < 4611686018427387904) (H : ∀ x ∈ e.Kids, rec' x = some ((exN x : Int), (exD x : Int))) (hb : bU e.Kids ≤ 1048577) :
  ∀ (d n i : Nat) (s t : Int), i + d = e.Kids.length → d < n → 0 ≤ s → s + bU (e.Kids.drop i) ≤ 100000000 → 1 ≤ t →
   bC.l0 k rec' e n s t (i : Int) = some (s + bU (e.Kids.drop i), max t (1 + jI (e.Kids.drop i) : Nat)) := by
 intro d
 induction d with
 | zero =>
  intro n i s t hi hn h0 h1 h2
  obtain ⟨n, rfl⟩ : ∃ m, n = m + 1 := ⟨n - 1, by omega⟩
  rw [bC.l0, if_neg (by omega), List.drop_eq_nil_of_le (by omega), ej, show jI [] = 0 by simp only [jI]]
  congr 2
  ·simp
  ·push_cast; omega
 | succ d ih =>
  intro n i s t hi hn h0 h1 h2
  obtain ⟨n, rfl⟩ : ∃ m, n = m + 1 := ⟨n - 1, by omega⟩
  have hlt : i < e.Kids.length := by omega
  have hd := CT e.Kids[i]
  have hm := ek (List.getElem_mem hlt : e.Kids[i] ∈ e.Kids)
  rw [List.drop_eq_getElem_cons hlt, cK] at h1 ⊢
  rw [Am, bC.l0, if_pos (by omega), ae (by omega), Int.toNat_natCast, List.getElem?_eq_getElem hlt]
  simp only [Option.bind_some, H e.Kids[i] (List.getElem_mem hlt)]
  push_cast at h1
  rw [wrS i (by omega), wr (s + _) (by omega), wr ((exD e.Kids[i] : Int) + 1) (by omega)]
  by_cases h : t < (exD e.Kids[i] : Int) + 1
  ·rw [if_pos h, ih n (i + 1) _ _ (by omega) (by omega) (by omega) (by omega) (by omega)]
   congr 2
   ·push_cast; omega
   ·push_cast; omega
  ·rw [if_neg h, ih n (i + 1) _ _ (by omega) (by omega) (by omega) (by omega) (by omega)]
   congr 2
   ·push_cast; omega
   ·push_cast; omega
theorem Cr : ∀ e : GEx, exN e ≤ 1048577 → ∀ k : Nat, 3 * exN e ≤ k → bC.f k e = some ((exN e : Int), (exD e : Int)) := by
 refine mg fun e ih hs k hk => ?_
 rw [cD] at hk hs ⊢
 rw [nh]
 have hq := fu e.Kids
 obtain ⟨k, rfl⟩ : ∃ m, k = m + 1 := ⟨k - 1, by omega⟩
 have := zq k (bC.f k) e (by omega) (fun x hx => ih x hx (by have := ek hx; omega) k (by have := ek hx; omega)) (by omega) e.Kids.length k 0 1 1 (by omega) (by omega) (by omega) (by simp only [List.drop_zero]; omega) (by omega)
 rw [show ((0 : Nat) : Int) = 0 from rfl, List.drop_zero] at this
 rw [bC.f, this]
 simp only [Option.bind_some]
 congr 2
 push_cast; omega
theorem xj (k : Nat) (g : GEx → Option Bool) (h : GEx → Bool) (l : List GEx) (hl : l.length < 4611686018427387904) (H : ∀ x ∈ l, g x = some (h x)) :
  ∀ (d n i : Nat), i + d = l.length → d < n → ∃ r, bu.l0 k g l n (i : Int) = some r ∧ ((∃ j : Int, r = .error j ∧ 0 ≤ j ∧ (l.drop i).any h = true) ∨ (r = .ok () ∧ (l.drop i).any h = false)) := by
 intro d
 induction d with
 | zero =>
  intro n i hi hn
  obtain ⟨n, rfl⟩ : ∃ m, n = m + 1 := ⟨n - 1, by omega⟩
  rw [bu.l0, if_neg (by omega), List.drop_eq_nil_of_le (by omega)]
  exact ⟨_, rfl, .inr ⟨rfl, rfl⟩⟩
 | succ d ih =>
  intro n i hi hn
  obtain ⟨n, rfl⟩ : ∃ m, n = m + 1 := ⟨n - 1, by omega⟩
  have hlt : i < l.length := by omega
  rw [bu.l0, if_pos (by omega), ae (by omega), Int.toNat_natCast, List.getElem?_eq_getElem hlt, List.drop_eq_getElem_cons hlt, List.any_cons]
  simp only [Option.bind_some, H l[i] (List.getElem_mem hlt)]
  cases hh : h l[i] with
  | true => rw [if_pos rfl]; exact ⟨_, rfl, .inl ⟨_, rfl, by omega, rfl⟩⟩
  | false =>
   rw [if_neg (by decide), wrS i (by omega), Bool.false_or]
   exact ih n (i + 1) (by omega) (by omega)
theorem xk (k : Nat) (g : GEx → Option Bool) (h : GEx → Bool) (l : List GEx) (hl : l.length < 4611686018427387904) (H : ∀ x ∈ l, g x = some (h x)) (hk : l.length < k) : bN.f g k l = some (l.any h) := by
 obtain ⟨r, h1, h2⟩ := xj k g h l hl H l.length k 0 (by omega) hk
 rw [show ((0 : Nat) : Int) = 0 from rfl] at h1
 rw [List.drop_zero] at h2
 unfold bN.f bu.f
 rw [h1]
 rcases h2 with ⟨j, rfl, h3, h4⟩ | ⟨rfl, h4⟩
 ·simp only [Option.bind_some, h4, Option.some.injEq, Bool.not_eq_true', decide_eq_false_iff_not]; omega
 ·simp only [Option.bind_some, h4]; rfl
theorem wq (a : Int) (h : 1 ≤ a ∧ a ≤ 7) : kv.f a = some (kj a) := by
 have : a = 1 ∨ a = 2 ∨ a = 3 ∨ a = 4 ∨ a = 5 ∨ a = 6 ∨ a = 7 := by omega
 rcases this with h | h | h | h | h | h | h <;> subst h <;> rfl
theorem Ah (a : Int) (h : ¬ (1 ≤ a ∧ a ≤ 7)) : kj a = -1 := by
 unfold kj
 repeat rw [if_neg (by omega)]
theorem in_k (a b c : Int) : bc.f a b c = some (decide (b ≤ a) && decide (a ≤ c)) := dQ a b c
theorem BK (l : List GEx) : (!(l.any fun x => !ed x)) = j7 l := by
 rw [ke]
 induction l with
 | nil => rfl
 | cons x xs ih => simp only [List.any_cons, List.all_cons, ← ih]; cases ed x <;> simp
theorem A4 : ∀ e : GEx, exN e ≤ 1048577 → ∀ k : Nat, 3 * exN e ≤ k → dx.f k e = some (ed e) := by
 refine mg fun e ih hs k hk => ?_
 rw [cD] at hk hs
 have hq := fu e.Kids
 obtain ⟨k, rfl⟩ : ∃ m, k = m + 2 := ⟨k - 2, by omega⟩
 have hc : bN.f (fun y0 => bJ.f (k + 1) y0) (k + 1) e.Kids = some (e.Kids.any fun x => !ed x) := by
  refine xk (k + 1) _ _ _ (by omega) (fun x hx => ?_) (by omega)
  have := ek hx
  rw [bJ.f, ih x hx (by omega) k (by omega)]; rfl
 rw [dx.f, ku, ← BK]
 simp only [fq.f, dl.f, in_k, hc, Option.bind_some]
 by_cases hk7 : 1 ≤ e.Kind ∧ e.Kind ≤ 7
 ·simp only [wq e.Kind hk7, Option.bind_some, eH]
  cases hA : e.Kids.any (fun x => !ed x) <;> (repeat' split) <;> simp_all <;> omega
 ·have h0 := Ah e.Kind hk7
  have h1 : eH e = false := by
   unfold eH
   rw [h0]
   have : ¬ ((-1 : Int) = (e.Kids.length : Int)) := by omega
   simp [this]
  have h2 : (decide (1 ≤ e.Kind) && decide (e.Kind ≤ 7)) = false := by
   rw [Bool.eq_false_iff]; simp only [ne_eq, Bool.and_eq_true, decide_eq_true_eq]; exact hk7
  rw [h1, h2]; rfl
def kS (e : GEx) : Bool := decide (exN e ≤ 12) && decide (exD e ≤ 5) && ed e
theorem qv (e : GEx) (hs : exN e ≤ 1048577) (k : Nat) (hk : 3 * exN e ≤ k) : ij.f k e = some (kS e) := by
 unfold ij.f
 rw [show (5 : Int) = ((5 : Nat) : Int) from rfl, wv 5 e k (by omega) hs hk, v8]
 simp only [Option.bind_some, kS]
 by_cases hd : exD e ≤ 5
 ·rw [vW 5 e k (by omega) hd hs hk]
  cases ed e
  ·simp
  ·simp only [hd, decide_true, Bool.and_self, if_true, Option.bind_some, Bool.and_true]
   by_cases h : exN e ≤ 12
   ·simp [h]; omega
   ·simp [h]; omega
 ·simp [hd]
theorem qs (e : GEx) (hs : exN e ≤ 1048577) (k : Nat) (hk : 3 * exN e ≤ k) : ju.f k e = some (kS e) := by
 unfold ju.f
 rw [Cr e hs k hk, A4 e hs k hk]
 simp only [Option.bind_some, kS]
 by_cases h : 12 < (exN e : Int)
 ·rw [if_pos h]; simp; omega
 ·rw [if_neg h]
  by_cases h2 : 5 < (exD e : Int)
  ·rw [if_pos h2]; simp; omega
  ·rw [if_neg h2]
   have a1 : exN e ≤ 12 := by omega
   have a2 : exD e ≤ 5 := by omega
   simp [a1, a2]
theorem hJ {e : GEx} (h : ed e = true) : eH e = true ∧ ∀ x ∈ e.Kids, ed x = true := by
 rw [ku, Bool.and_eq_true, ke, List.all_eq_true] at h
 exact h
theorem iE {e : GEx} (h : eH e = true) : (e.Kind = 1 ∧ e.Kids.length = 0) ∨ (e.Kind = 2 ∧ e.Kids.length = 2) ∨ (e.Kind = 3 ∧ e.Kids.length = 2) ∨ (e.Kind = 4 ∧ e.Kids.length = 2) ∨ (e.Kind = 5 ∧ e.Kids.length = 3) ∨ (e.Kind = 6 ∧ e.Kids.length = 3) ∨ (e.Kind = 7 ∧ e.Kids.length = 1 ∧ 1 ≤ e.N ∧ e.N ≤ 20) := by
 unfold eH kj at h
 simp only [Bool.and_eq_true, decide_eq_true_eq] at h
 obtain ⟨⟨⟨⟨h1, h2⟩, h3⟩, h4⟩, h5⟩ := h
 repeat' split at h1
 all_goals first | omega | skip
 rw [if_pos (by assumption), Bool.and_eq_true, decide_eq_true_eq, decide_eq_true_eq] at h5
 omega
theorem getD_some {α : Type} {r : List α} {d : α} {i : Nat} (h : i < r.length) : r[i]? = some (r.getD i d) := by
 rw [List.getD_eq_getElem?_getD, List.getElem?_eq_getElem h]; rfl
theorem oV {x : GEx} (h : kS x = true) : exN x ≤ 12 ∧ ed x = true := by
 unfold kS at h
 simp only [Bool.and_eq_true, decide_eq_true_eq] at h
 exact ⟨h.1.1, h.2⟩
def All (Q : GOcc → Prop) (l : List GOcc) : Prop := ∀ x ∈ l, Q x
def fB (Q : GOcc → Prop) : Prop := ∀ a b, Q a → Q b → Q (dG a b)
theorem All.nil {Q : GOcc → Prop} : All Q [] := fun x hx => by simp at hx
theorem All.filter {Q : GOcc → Prop} {l : List GOcc} (h : All Q l) (p : GOcc → Bool) : All Q (l.filter p) := fun x hx => h x (List.mem_filter.1 hx).1
theorem All.merge {Q : GOcc → Prop} {l m : List GOcc} (h : All Q l) (hm : All Q m) : All Q (cm l m) := fun x hx => by
 rcases jG.1 hx with h1 | h1
 ·exact h x h1
 ·exact hm x h1
theorem All.put {Q : GOcc → Prop} {l : List GOcc} {o : GOcc} (h : All Q l) (ho : Q o) : All Q (cd l o) := fun x hx => by
 rcases eF.1 hx with h1 | rfl
 ·exact h x h1
 ·exact ho
theorem All.rem {Q : GOcc → Prop} {l g : List GOcc} (h : All Q l) : All Q (tS l g) := h.filter _
theorem All.sum {Q : GOcc → Prop} (hj : fB Q) : ∀ {l : List GOcc} {o : GOcc}, All Q l → Q o → Q (rv o l)
 | [], o, _, ho => ho
 | x :: l, o, h, ho => All.sum hj (l := l) (o := dG o x) (fun y hy => h y (by simp [hy])) (hj _ _ ho (h x (by simp)))
theorem All.eachs {Q : GOcc → Prop} (hj : fB Q) {o : GOcc} (ho : Q o) : ∀ (l acc : List GOcc), All Q l → All Q acc → All Q (l.foldl (fun s e => cd s (dG o e)) acc)
 | [], acc, _, ha => ha
 | x :: l, acc, h, ha => All.eachs hj ho l _ (fun y hy => h y (by simp [hy])) (ha.put (hj _ _ ho (h x (by simp))))
theorem All.found {Q : GOcc → Prop} (hj : fB Q) {mode : Int} {o : GOcc} {l : List GOcc} (h : All Q l) (ho : Q o) : All Q (eo mode o l) := by
 have one : ∀ x : GOcc, Q x → All Q [x] := fun x hx y hy => by rw [List.mem_singleton.1 hy]; exact hx
 unfold eo
 by_cases h0 : l.length = 0
 ·rw [if_pos h0]; exact All.nil
 rw [if_neg h0]
 split
 ·exact one _ (hj _ _ ho (by rw [List.getElem?_eq_getElem (show l.length - 1 < l.length by omega)]; exact h _ (List.getElem_mem _)))
 split
 ·exact one _ (hj _ _ ho (by rw [List.getElem?_eq_getElem (show 0 < l.length by omega)]; exact h _ (List.getElem_mem _)))
 split
 ·exact one _ (All.sum hj h ho)
 ·exact All.eachs hj ho l [] h All.nil
theorem All.one {Q : GOcc → Prop} (hj : fB Q) {mode : Int} {p : GOcc → GOcc → Bool} {s : List GOcc × List GOcc} {o : GOcc} (h1 : All Q s.1) (h2 : All Q s.2) (ho : Q o) : All Q (eu mode p s o).1 ∧ All Q (eu mode p s o).2 :=
 ⟨h1.rem, h2.merge ((h1.filter _).found hj ho)⟩
theorem All.ones {Q : GOcc → Prop} (hj : fB Q) {mode : Int} {p : GOcc → GOcc → Bool} : ∀ (r : List GOcc) {s : List GOcc × List GOcc}, All Q r → All Q s.1 → All Q s.2 → All Q (r.foldl (eu mode p) s).1 ∧ All Q (r.foldl (eu mode p) s).2
 | [], s, _, h1, h2 => ⟨h1, h2⟩
 | o :: r, s, hr, h1, h2 => by
  obtain ⟨a, b⟩ := All.one hj (mode := mode) (p := p) h1 h2 (hr o (by simp))
  exact All.ones hj r (s := eu mode p s o) (fun y hy => hr y (by simp [hy])) a b
theorem All.store {Q : GOcc → Prop} {mode : Int} {own : List GOcc} {o : GOcc} {alone : Bool} (h : All Q own) (ho : Q o) : All Q (jB mode own o alone) := by
 unfold jB
 split
 ·exact fun y hy => by rw [List.mem_singleton.1 hy]; exact ho
 split
 ·exact h.put ho
 split
 ·exact h.put ho
 ·exact h
def nP (Q : GOcc → Prop) (s : List GOcc × List GOcc × List GOcc) : Prop := All Q s.1 ∧ All Q s.2.1 ∧ All Q s.2.2
theorem nP.half {Q : GOcc → Prop} (hj : fB Q) {mode : Int} {s : List GOcc × List GOcc × List GOcc} {o : GOcc} (h : nP Q s) (ho : Q o) : nP Q (fi mode s o) := ⟨h.1.store ho, h.2.1.rem, h.2.2.merge (h.2.1.found hj ho)⟩
theorem nP.other {Q : GOcc → Prop} (hj : fB Q) {mode : Int} {s : List GOcc × List GOcc × List GOcc} {o : GOcc} (h : nP Q s) (ho : Q o) : nP Q (kp mode s o) := by
 have := nP.half hj (mode := mode) (s := (s.2.1, s.1, s.2.2)) ⟨h.2.1, h.1, h.2.2⟩ ho
 exact ⟨this.2.1, this.1, this.2.2⟩
theorem ig {α σ : Type} (P : σ → Prop) (g : σ → α → σ) : ∀ (l : List α) (s : σ), (∀ s, ∀ x ∈ l, P s → P (g s x)) → P s → P (l.foldl g s)
 | [], s, _, h => h
 | x :: l, s, hs, h => ig P g l (g s x) (fun s y hy => hs s y (by simp [hy])) (hs s x (by simp) h)
/-- a step keeps Q -/
def Bt (Q : GOcc → Prop) (f : Two → List GOcc → List GOcc → Two × List GOcc) : Prop := ∀ (p : Two) (l r : List GOcc), All Q p.1 → All Q p.2 → All Q l → All Q r → All Q (f p l r).1.1 ∧ All Q (f p l r).1.2 ∧ All Q (f p l r).2
def zt (Q : GOcc → Prop) (f : Two → List GOcc → List GOcc → List GOcc → Two × List GOcc) : Prop := ∀ (p : Two) (a b c : List GOcc), All Q p.1 → All Q p.2 → All Q a → All Q b → All Q c → All Q (f p a b c).1.1 ∧ All Q (f p a b c).1.2 ∧ All Q (f p a b c).2
theorem zN {Q : GOcc → Prop} (hj : fB Q) (mode : Int) : Bt Q (seqF mode) := fun p l r h1 h2 hl hr => by
 obtain ⟨a, b⟩ := All.ones hj (mode := mode) (p := before) r (s := (p.1, [])) hr h1 All.nil
 exact ⟨a.merge hl, h2, b⟩
theorem zu {Q : GOcc → Prop} (hj : fB Q) (mode : Int) : Bt Q (andF mode) := fun p l r h1 h2 hl hr => by
 have a := ig (nP Q) (fi mode) l (p.1, p.2, []) (fun s x hx h => h.half hj (hl x hx)) ⟨h1, h2, All.nil⟩
 have b := ig (nP Q) (kp mode) r _ (fun s x hx h => h.other hj (hr x hx)) a
 exact ⟨b.1, b.2.1, b.2.2⟩
theorem Al {Q : GOcc → Prop} (hj : fB Q) (mode : Int) : zt Q (notF mode) := fun p a b c h1 h2 ha hb hc => by
 obtain ⟨x, y⟩ := All.ones hj (mode := mode) (p := eQ p.2) c (s := (p.1, [])) hc h1 All.nil
 exact ⟨x.merge ha, h2.merge hb, y⟩
theorem yz {Q : GOcc → Prop} (hj : fB Q) (mode : Int) : zt Q (eachF mode) := fun p a b c h1 h2 ha hb hc =>
 ⟨h1.merge ha, h2.merge hc, ig (All Q) _ b [] (fun s x hx h => h.merge ((h1.filter _).found hj (hb x hx))) All.nil⟩
theorem vQ : ∀ {l : List Int} {p : Int}, Up l → (∀ x ∈ l, p < x ∧ x ≤ 23) → gk p l = true
 | [], _, _, _ => rfl
 | x :: l, p, hu, h => by
  have hu' := List.pairwise_cons.1 hu
  have := h x (by simp)
  simp only [gk, Bool.and_eq_true, decide_eq_true_eq]
  exact ⟨this, vQ hu'.2 fun y hy => ⟨hu'.1 y hy, (h y (by simp [hy])).2⟩⟩
theorem gZ (o : GOcc) : eR o = true ↔ 1 ≤ o.From ∧ o.From ≤ o.To ∧ o.To ≤ 2000 ∧ 1 ≤ o.Ids.length ∧ cr o.Ids := by
 unfold eR
 simp only [Bool.and_eq_true, decide_eq_true_eq]
 constructor
 ·rintro ⟨⟨⟨⟨a, b⟩, c⟩, d⟩, e⟩
  exact ⟨a, b, c, d, vM e⟩
 ·rintro ⟨a, b, c, d, e⟩
  exact ⟨⟨⟨⟨a, b⟩, c⟩, d⟩, vQ e.1 fun x hx => by have := e.2 x hx; omega⟩
theorem zi {l : List GOcc} (h1 : All (fun o => eR o = true) l) (h2 : Asc l) (h3 : l.length ≤ 40) : di l = true := by
 unfold di
 simp only [Bool.and_eq_true, List.all_eq_true, List.mem_range', decide_eq_true_eq]
 refine ⟨?_, h3⟩
 rintro i ⟨j, hj, rfl⟩
 rw [show 0 + 1 * j = j by omega]
 unfold jQ
 rw [List.getElem?_eq_getElem hj]
 simp only [Bool.and_eq_true]
 refine ⟨h1 _ (List.getElem_mem hj), ?_⟩
 cases j with
 | zero => rfl
 | succ j =>
  simp only [jX, List.getElem?_eq_getElem (show j < l.length by omega)]
  exact List.pairwise_iff_getElem.1 h2 _ _ _ _ (by omega)
/-- right, and not fk T -/
def lX (T : Int) (o : GOcc) : Prop := eR o = true ∧ o.To ≤ T
theorem Bi {y : Int} (h : (Lit.int .u8 y).wf = true) : 0 ≤ y ∧ y ≤ 255 := by
 simp only [Lit.wf, Bool.and_eq_true, decide_eq_true_eq] at h
 exact h
theorem CM (a b : Int) (ha : 0 ≤ a ∧ a < 4611686018427387904) (hb : 0 ≤ b ∧ b < 4611686018427387904) : 0 ≤ cl .xor .i64 a b ∧ cl .xor .i64 a b < 4611686018427387904 := by
 obtain ⟨m, rfl⟩ : ∃ m : Nat, a = m := ⟨a.toNat, by omega⟩
 obtain ⟨n, rfl⟩ : ∃ n : Nat, b = n := ⟨b.toNat, by omega⟩
 have h : (BitVec.ofInt 64 (m : Int) ^^^ BitVec.ofInt 64 (n : Int)).toNat = m ^^^ n := by
  rw [BitVec.toNat_xor, BitVec.ofInt_natCast, BitVec.ofInt_natCast, BitVec.toNat_ofNat, BitVec.toNat_ofNat, Nat.mod_eq_of_lt (by omega), Nat.mod_eq_of_lt (by omega)]
 have h2 : m ^^^ n < 2 ^ 62 := Nat.xor_lt_two_pow (by omega) (by omega)
 show 0 ≤ IntKind.wrap .i64 ((BitVec.ofInt 64 (m : Int) ^^^ BitVec.ofInt 64 (n : Int)).toNat : Int) ∧ _
 have e : cl .xor .i64 (m : Int) (n : Int) = IntKind.wrap .i64 ((BitVec.ofInt 64 (m : Int) ^^^ BitVec.ofInt 64 (n : Int)).toNat : Int) := rfl
 rw [e, h, wr _ (by omega)]
 omega
theorem nw (a b : Int) (ha : 0 ≤ a ∧ a < 4611686018427387904) (hb : 1 ≤ b ∧ b < 4611686018427387904) : cl .rem .i64 a b = a % b := by
 show a.tmod b = a % b
 exact Int.tmod_eq_emod_of_nonneg ha.1
theorem rV (a b : Int) (ha : 0 ≤ a ∧ a < 4611686018427387904) (hb : 1 ≤ b ∧ b < 4611686018427387904) : cl .quo .i64 a b = a / b ∧ 0 ≤ a / b ∧ a / b ≤ a := by
 have e : cl .quo .i64 a b = IntKind.wrap .i64 (a.tdiv b) := rfl
 have h1 := Int.ediv_nonneg ha.1 (show 0 ≤ b by omega)
 have h2 := Int.ediv_le_self b ha.1
 rw [e, Int.tdiv_eq_ediv_of_nonneg ha.1, wr _ (by omega)]
 exact ⟨rfl, h1, h2⟩
/-- a reader over bytes that has read no more than m -/
def cL (r : Gl14Rd) (m : Int) : Prop := (∀ x ∈ r.b, 0 ≤ x ∧ x ≤ 255) ∧ r.b.length ≤ 1048576 ∧ 0 ≤ r.p ∧ r.p ≤ m
theorem cL.mono {r : Gl14Rd} {m n : Int} (h : cL r m) (hm : m ≤ n) : cL r n := ⟨h.1, h.2.1, h.2.2.1, by have := h.2.2.2; omega⟩
theorem fP (r : Gl14Rd) (n : Int) (m : Int) (h : cL r m) (hm : m ≤ 1000000000) (hn : n < 4611686018427387904) : ∃ v r', aZ.f r n = some (v, r') ∧ 0 ≤ v ∧ (1 ≤ n → v < n) ∧ (n < 1 → v = 0) ∧ cL r' (m + 1) := by
 obtain ⟨hb, hl, h0, h1⟩ := h
 have hw : IntKind.wrap .i64 (r.p + 1) = r.p + 1 := wr _ (by omega)
 have hr' : cL ⟨r.b, r.p + 1⟩ (m + 1) := ⟨hb, hl, by dsimp only; omega, by dsimp only; omega⟩
 unfold aZ.f
 simp only [hw]
 by_cases hn1 : n < 1
 ·rw [if_pos hn1]; exact ⟨0, _, rfl, by omega, by omega, fun _ => rfl, hr'⟩
 rw [if_neg hn1]
 by_cases hb0 : (r.b.length : Int) = 0
 ·rw [if_pos hb0]; exact ⟨0, _, rfl, by omega, by omega, fun _ => rfl, hr'⟩
 rw [if_neg hb0]
 have hq : IntKind.wrap .i64 (r.p + 1 - 1) = r.p := by rw [wr _ (by omega)]; omega
 simp only [hq]
 by_cases hp : r.p < (r.b.length : Int)
 ·have hlt : r.p.toNat < r.b.length := by omega
  have he := hb r.b[r.p.toNat] (List.getElem_mem hlt)
  rw [if_pos hp, ae h0, List.getElem?_eq_getElem hlt]
  simp only [Option.bind_some]
  rw [ae (by omega), wr _ (by omega), nw _ _ (by omega) (by omega)]
  have g1 := Int.emod_nonneg r.b[r.p.toNat] (show n ≠ 0 by omega)
  have g2 := Int.emod_lt_of_pos r.b[r.p.toNat] (show 0 < n by omega)
  exact ⟨_, _, rfl, g1, fun _ => g2, fun h => absurd h hn1, hr'⟩
 ·rw [if_neg hp, ae hb0]
  rw [wr (r.p * 7) (by omega), wr (r.p * 7 + 3) (by omega), wr (r.p * 29) (by omega), nw r.p _ (by omega) (by omega), nw (r.p * 7 + 3) _ (by omega) (by omega), (rV r.p _ (by omega) (by omega)).1]
  have q1 := Int.emod_nonneg r.p hb0
  have q2 := Int.emod_lt_of_pos r.p (show 0 < (r.b.length : Int) by omega)
  have q3 := Int.emod_nonneg (r.p * 7 + 3) hb0
  have q4 := Int.emod_lt_of_pos (r.p * 7 + 3) (show 0 < (r.b.length : Int) by omega)
  have q5 := (rV r.p (r.b.length : Int) (by omega) (by omega)).2
  generalize r.p % (r.b.length : Int) = i at *
  generalize (r.p * 7 + 3) % (r.b.length : Int) = j at *
  generalize r.p / (r.b.length : Int) = d at *
  have hi : i.toNat < r.b.length := by omega
  have hj : j.toNat < r.b.length := by omega
  have e1 := hb r.b[i.toNat] (List.getElem_mem hi)
  have e2 := hb r.b[j.toNat] (List.getElem_mem hj)
  rw [ae q1, List.getElem?_eq_getElem hi]
  simp only [Option.bind_some]
  rw [ae hb0, ae q3, List.getElem?_eq_getElem hj]
  simp only [Option.bind_some]
  generalize r.b[i.toNat] = x at *
  generalize r.b[j.toNat] = y at *
  rw [ae hb0, ae (by omega)]
  simp only [wr x (by omega), wr y (by omega), wr (x * 131) (by omega), wr (y * 1117) (by omega), wr (d * 53) (by omega), wr (x * 131 + y * 1117) (by omega), wr (x * 131 + y * 1117 + r.p * 29) (by omega), wr (x * 131 + y * 1117 + r.p * 29 + d * 53) (by omega)]
  have u := rV (x * 131 + y * 1117 + r.p * 29 + d * 53) 64 (by omega) (by omega)
  have v := CM (x * 131 + y * 1117 + r.p * 29 + d * 53) (cl .quo .i64 (x * 131 + y * 1117 + r.p * 29 + d * 53) 64) (by omega) (by rw [u.1]; omega)
  rw [nw _ n v (by omega)]
  exact ⟨_, _, rfl, Int.emod_nonneg _ (by omega), fun _ => Int.emod_lt_of_pos _ (by omega), fun h => absurd h hn1, hr'⟩
theorem fe (r : Gl14Rd) (l : List Int) (m : Int) (h : cL r m) (hm : m ≤ 1000000000) (hl : 1 ≤ l.length ∧ l.length < 1000) : ∃ v r', aG.f r l = some (v, r') ∧ v ∈ l ∧ cL r' (m + 1) := by
 obtain ⟨v, r', h1, h2, h3, h4, h5⟩ := fP r l.length m h hm (by omega)
 have hv := h3 (by omega)
 unfold aG.f
 rw [h1]
 simp only [Option.bind_some]
 rw [ae h2, List.getElem?_eq_getElem (show v.toNat < l.length by omega)]
 exact ⟨_, _, rfl, List.getElem_mem _, h5⟩
theorem sY (l : List Int) (hl : l.length ≤ 1048576) (hb : ∀ y ∈ l, 0 ≤ y ∧ y ≤ 255) : ∃ r, fG.f l = some r ∧ cL r 0 := by
 unfold fG.f
 by_cases h : 2000 < (l.length : Int)
 ·rw [if_pos h, ae (by omega), ae (by omega), ae (by omega)]
  exact ⟨_, rfl, fun x hx => hb x (List.mem_of_mem_take hx), by simp; omega, by dsimp only; omega, by dsimp only; omega⟩
 ·rw [if_neg h]
  exact ⟨_, rfl, hb, hl, by dsimp only; omega, by dsimp only; omega⟩
theorem iU : ∀ l m : List GEx, bU (l ++ m) = bU l + bU m
 | [], m => by simp [ej]
 | x :: l, m => by rw [List.cons_append, cK, cK, iU l m]; omega
theorem jU (x : GEx) : bU [x] = exN x := by rw [cK, ej]; omega
theorem rJ (a b c : Int) : exN ⟨a, b, c, []⟩ = 1 := by rw [cD, ej]
theorem yw (k : Nat) (rec' : Gl14Rd → Int → Option (GEx × Gl14Rd)) (p1 : Int) (B N : Nat) (M : Int)
  (H : ∀ (r : Gl14Rd) (m : Int), cL r m → m ≤ M → ∃ x r', rec' r (IntKind.wrap .i64 (p1 - 1)) = some (x, r') ∧ cL r' (m + B) ∧ exN x ≤ N) :
  ∀ (c n : Nat) (b : List Int) (p m : Int) (acc : List GEx), c < n → c ≤ 3 → cL ⟨b, p⟩ m → m + c * B ≤ M + B → bU acc + c * N ≤ 1000000 →
   ∃ acc' b' p', aX.l0 k rec' p1 n b p acc (c : Int) = some (acc', b', p') ∧ cL ⟨b', p'⟩ (m + c * B) ∧ bU acc' ≤ bU acc + c * N := by
 intro c
 induction c with
 | zero =>
  intro n b p m acc hn hc hr hm ha
  obtain ⟨n, rfl⟩ : ∃ m, n = m + 1 := ⟨n - 1, by omega⟩
  rw [aX.l0, if_neg (by omega)]
  exact ⟨_, _, _, rfl, by simpa using hr, by simp⟩
 | succ c ih =>
  intro n b p m acc hn hc hr hm ha
  obtain ⟨n, rfl⟩ : ∃ m, n = m + 1 := ⟨n - 1, by omega⟩
  have hcB : ((c + 1 : Nat) : Int) * B = c * B + B := by rw [Int.natCast_succ, Int.add_mul]; omega
  have hcN : (c + 1) * N = c * N + N := Nat.succ_mul c N
  have hcB0 : (0 : Int) ≤ c * B := Int.mul_nonneg (by omega) (by omega)
  obtain ⟨x, r', e1, e2, e3⟩ := H ⟨b, p⟩ m hr (by omega)
  have hla := fu acc
  rw [aX.l0, if_pos (by omega), e1]
  simp only [Option.bind_some]
  rw [ae (by omega), wrP c (by omega)]
  obtain ⟨acc', b', p', q1, q2, q3⟩ := ih n r'.b r'.p (m + B) (acc ++ [x]) (by omega) (by omega) e2 (by omega) (by rw [iU, jU]; omega)
  refine ⟨acc', b', p', q1, q2.mono (by omega), ?_⟩
  rw [iU, jU] at q3
  omega
theorem y6 (k : Nat) (rec' : Gl14Rd → Int → Option (GEx × Gl14Rd)) (p1 : Int) (B N : Nat) (M : Int)
  (H : ∀ (r : Gl14Rd) (m : Int), cL r m → m ≤ M → ∃ x r', rec' r (IntKind.wrap .i64 (p1 - 1)) = some (x, r') ∧ cL r' (m + B) ∧ exN x ≤ N) :
  ∀ (c n : Nat) (b : List Int) (p m : Int) (acc : List GEx), c < n → c ≤ 3 → cL ⟨b, p⟩ m → m + c * B ≤ M + B → bU acc + c * N ≤ 1000000 →
   ∃ acc' b' p', aX.l1 k rec' p1 n b p acc (c : Int) = some (acc', b', p') ∧ cL ⟨b', p'⟩ (m + c * B) ∧ bU acc' ≤ bU acc + c * N := by
 intro c
 induction c with
 | zero =>
  intro n b p m acc hn hc hr hm ha
  obtain ⟨n, rfl⟩ : ∃ m, n = m + 1 := ⟨n - 1, by omega⟩
  rw [aX.l1, if_neg (by omega)]
  exact ⟨_, _, _, rfl, by simpa using hr, by simp⟩
 | succ c ih =>
  intro n b p m acc hn hc hr hm ha
  obtain ⟨n, rfl⟩ : ∃ m, n = m + 1 := ⟨n - 1, by omega⟩
  have hcB : ((c + 1 : Nat) : Int) * B = c * B + B := by rw [Int.natCast_succ, Int.add_mul]; omega
  have hcN : (c + 1) * N = c * N + N := Nat.succ_mul c N
  have hcB0 : (0 : Int) ≤ c * B := Int.mul_nonneg (by omega) (by omega)
  obtain ⟨x, r', e1, e2, e3⟩ := H ⟨b, p⟩ m hr (by omega)
  have hla := fu acc
  rw [aX.l1, if_pos (by omega), e1]
  simp only [Option.bind_some]
  rw [ae (by omega), wrP c (by omega)]
  obtain ⟨acc', b', p', q1, q2, q3⟩ := ih n r'.b r'.p (m + B) (acc ++ [x]) (by omega) (by omega) e2 (by omega) (by rw [iU, jU]; omega)
  refine ⟨acc', b', p', q1, q2.mono (by omega), ?_⟩
  rw [iU, jU] at q3
  omega
theorem AN {v : Int} (h : v ∈ ([2, 3, 3, 4, 4, 4, 5, 6, 7] : List Int)) : ∃ c : Nat, kj v = (c : Int) ∧ c ≤ 3 := by
 simp only [List.mem_cons, List.not_mem_nil, or_false] at h
 rcases h with rfl | rfl | rfl | rfl | rfl | rfl | rfl | rfl | rfl
 all_goals first | exact ⟨2, rfl, by omega⟩ | exact ⟨3, rfl, by omega⟩ | exact ⟨1, rfl, by omega⟩
theorem wN : ∀ (d : Nat), d ≤ 4 → ∀ (k : Nat), 1000000000000 + d ≤ k → ∀ (r : Gl14Rd) (m : Int), cL r m → m ≤ 100000000 - 10 ^ (d + 1) → ∃ x r', aX.f k r (d : Int) = some (x, r') ∧ cL r' (m + (10 ^ (d + 1) : Nat)) ∧ exN x ≤ 4 ^ d := by
 intro d
 induction d with
 | zero =>
  intro hd k hk r m hr hm
  obtain ⟨k, rfl⟩ : ∃ m, k = m + 1 := ⟨k - 1, by omega⟩
  obtain ⟨v, r', h1, h2, h3⟩ := fe r [0, 0, 1, 1, 2, 2, 3, 4] m hr (by omega) (by simp)
  rw [aX.f, if_neg (by omega), h1]
  exact ⟨_, _, rfl, h3.mono (by omega), by rw [rJ]; simp⟩
 | succ d ih =>
  intro hd k hk r m hr hm
  obtain ⟨k, rfl⟩ : ∃ m, k = m + 1 := ⟨k - 1, by omega⟩
  have p10 : (10 : Nat) ^ (d + 1 + 1) = 10 ^ (d + 1) * 10 := Nat.pow_succ ..
  have p10i : (10 : Int) ^ (d + 1 + 1) = 10 ^ (d + 1) * 10 := Int.pow_succ ..
  have c10 : ((10 ^ (d + 1) : Nat) : Int) = (10 : Int) ^ (d + 1) := by push_cast; rfl
  have b10 : 10 ≤ (10 : Nat) ^ (d + 1) := by rw [Nat.pow_succ]; have := Nat.one_le_pow d 10 (by omega); omega
  have p4 : (4 : Nat) ^ (d + 1) = 4 ^ d * 4 := Nat.pow_succ ..
  have b4 : 1 ≤ (4 : Nat) ^ d := Nat.one_le_pow d 4 (by omega)
  have t4 : (4 : Nat) ^ d ≤ 4 ^ 3 := Nat.pow_le_pow_right (by omega) (by omega)
  have t10 : (10 : Nat) ^ (d + 1) ≤ 10 ^ 4 := Nat.pow_le_pow_right (by omega) (by omega)
  rw [aX.f]
  by_cases h1 : 1 < ((d + 1 : Nat) : Int)
  rotate_left
  ·rw [if_neg h1]
   obtain ⟨v, r', e1, e2, e3⟩ := fe r [0, 0, 1, 1, 2, 2, 3, 4] m hr (by omega) (by simp)
   rw [e1]
   exact ⟨_, _, rfl, e3.mono (by omega), by rw [rJ]; omega⟩
  rw [if_pos h1]
  obtain ⟨v, r1, e1, e2, e3, e4, e5⟩ := fP r 4 m hr (by omega) (by omega)
  rw [e1]
  simp only [Option.bind_some]
  by_cases h2 : v = 0
  ·rw [if_pos h2]
   obtain ⟨v, r', g1, g2, g3⟩ := fe r1 [0, 0, 1, 1, 2, 2, 3, 4] (m + 1) e5 (by omega) (by simp)
   rw [g1]
   exact ⟨_, _, rfl, g3.mono (by omega), by rw [rJ]; omega⟩
  rw [if_neg h2]
  obtain ⟨kd, r2, g1, g2, g3⟩ := fe r1 [2, 3, 3, 4, 4, 4, 5, 6, 7] (m + 1) e5 (by omega) (by simp)
  rw [g1]
  simp only [Option.bind_some]
  obtain ⟨c, hc, hc3⟩ := AN g2
  have H : ∀ (r : Gl14Rd) (m : Int), cL r m → m ≤ 100000000 - 10 ^ (d + 1) → ∃ x r', aX.f k r (IntKind.wrap .i64 (((d + 1 : Nat) : Int) - 1)) = some (x, r') ∧ cL r' (m + (10 ^ (d + 1) : Nat)) ∧ exN x ≤ 4 ^ d := fun r m hr hm => by
   rw [wrP d (by omega)]
   exact ih (by omega) k (by omega) r m hr hm
  have fin : ∀ (acc : List GEx), bU acc ≤ bU [] + c * 4 ^ d → 1 + bU acc ≤ 4 ^ (d + 1) := fun acc h => by
   have : c * 4 ^ d ≤ 3 * 4 ^ d := Nat.mul_le_mul_right _ hc3
   rw [ej] at h
   omega
  have cB : (c : Int) * (10 ^ (d + 1) : Nat) ≤ 3 * (10 ^ (d + 1) : Nat) := Int.mul_le_mul_of_nonneg_right (by omega) (by omega)
  have cN : c * 4 ^ d ≤ 3 * 4 ^ d := Nat.mul_le_mul_right _ hc3
  by_cases h3 : kd = 7
  ·rw [if_pos h3]
   obtain ⟨n, r3, f1, f2, f3⟩ := fe r2 [1, 2, 3, 5, 20] (m + 1 + 1) g3 (by omega) (by simp)
   rw [f1, pJ, hc]
   simp only [Option.bind_some]
   obtain ⟨acc, b', p', q1, q2, q3⟩ := yw k (aX.f k) ((d + 1 : Nat) : Int) (10 ^ (d + 1)) (4 ^ d) (100000000 - 10 ^ (d + 1)) H c k r3.b r3.p (m + 1 + 1 + 1) [] (by omega) hc3 f3 (by omega) (by rw [ej]; omega)
   rw [q1]
   exact ⟨_, _, rfl, q2.mono (by omega), by rw [cD]; exact fin acc q3⟩
  ·rw [if_neg h3]
   rw [pJ, hc]
   simp only [Option.bind_some]
   obtain ⟨acc, b', p', q1, q2, q3⟩ := y6 k (aX.f k) ((d + 1 : Nat) : Int) (10 ^ (d + 1)) (4 ^ d) (100000000 - 10 ^ (d + 1)) H c k r2.b r2.p (m + 1 + 1) [] (by omega) hc3 g3 (by omega) (by rw [ej]; omega)
   rw [q1]
   exact ⟨_, _, rfl, q2.mono (by omega), by rw [cD]; exact fin acc q3⟩
theorem wx (k : Nat) (hk : 2000000000000 ≤ k) (r : Gl14Rd) (m : Int) (hr : cL r m) (hm : m ≤ 90000000) : ∃ x r', gA.f k r = some (x, r') ∧ cL r' (m + 200000) ∧ exN x ≤ 256 := by
 unfold gA.f
 obtain ⟨v, r1, e1, e2, e3, e4, e5⟩ := fP r 4 m hr (by omega) (by omega)
 have hv := e3 (by omega)
 rw [e1]
 simp only [Option.bind_some]
 rw [wr (1 + v) (by omega)]
 obtain ⟨d, hd⟩ : ∃ d : Nat, 1 + v = (d : Int) := ⟨(1 + v).toNat, by omega⟩
 have t4 : (4 : Nat) ^ d ≤ 4 ^ 4 := Nat.pow_le_pow_right (by omega) (by omega)
 have t10 : (10 : Nat) ^ (d + 1) ≤ 10 ^ 5 := Nat.pow_le_pow_right (by omega) (by omega)
 have t10i : ((10 ^ (d + 1) : Nat) : Int) = (10 : Int) ^ (d + 1) := by push_cast; rfl
 obtain ⟨x, r2, g1, g2, g3⟩ := wN d (by omega) k (by omega) r1 (m + 1) e5 (by omega)
 rw [hd, g1]
 simp only [Option.bind_some]
 rw [qv x (by omega) k (by omega)]
 simp only [Option.bind_some]
 split
 ·exact ⟨_, _, rfl, g2.mono (by omega), by omega⟩
 ·obtain ⟨y, r3, f1, f2, f3⟩ := wN 2 (by omega) k (by omega) r2 (m + 1 + (10 ^ (d + 1) : Nat)) g2 (by omega)
  rw [show (2 : Int) = ((2 : Nat) : Int) from rfl, f1]
  exact ⟨_, _, rfl, f2.mono (by omega), by show exN y ≤ 256; omega⟩
theorem xc (k : Nat) (rec' : GEx → Option GEx) (e : GEx) (hl : e.Kids.length ≤ 1000000) (H : ∀ y ∈ e.Kids, rec' y = some y) : ∀ (d i n : Nat) (acc : List GEx), i + d = e.Kids.length → d < n → acc = e.Kids.take i → bM.l0 k rec' e n acc (i : Int) = some e.Kids := by
 intro d
 induction d with
 | zero =>
  intro i n acc hi hn ha
  obtain ⟨n, rfl⟩ : ∃ m, n = m + 1 := ⟨n - 1, by omega⟩
  rw [bM.l0, if_neg (by omega), ha, List.take_of_length_le (by omega)]
 | succ d ih =>
  intro i n acc hi hn ha
  obtain ⟨n, rfl⟩ : ∃ m, n = m + 1 := ⟨n - 1, by omega⟩
  have h : i < e.Kids.length := by omega
  rw [bM.l0, if_pos (by omega), ae (by omega), Int.toNat_natCast, List.getElem?_eq_getElem h]
  simp only [Option.bind_some, H _ (List.getElem_mem h)]
  have hal : acc.length ≤ e.Kids.length := by rw [ha, List.length_take]; omega
  rw [ae (by omega), wrS i (by omega)]
  refine ih (i + 1) n _ (by omega) (by omega) ?_
  rw [ha, List.take_add_one, List.getElem?_eq_getElem h]; rfl
theorem Bd : ∀ e : GEx, exN e ≤ 1000000 → ∀ k : Nat, 1000000000000 + exN e ≤ k → bM.f k e = some e := by
 refine mg fun e ih hn k hk => ?_
 rw [cD] at hn hk
 obtain ⟨k, rfl⟩ : ∃ m, k = m + 1 := ⟨k - 1, by omega⟩
 have hq := fu e.Kids
 have := xc k (bM.f k) e (by omega) (fun y hy => by have := ek hy; exact ih y hy (by omega) k (by omega)) e.Kids.length 0 k [] (by omega) (by omega) (by simp)
 rw [show ((0 : Nat) : Int) = 0 from rfl] at this
 rw [bM.f, this]; cases e; rfl
theorem xX (k : Nat) : ∀ (c n : Nat) (a b d : Int) (ks : List GEx), c ≤ 5 → c < n → bU ks + c ≤ 100000 → ∃ a' b' d' ks', bx.l0 k n a b d ks (5 - (c : Int)) = some (a', b', d', ks') ∧ bU ks' ≤ bU ks + c := by
 intro c
 induction c with
 | zero =>
  intro n a b d ks hc hn hk
  obtain ⟨n, rfl⟩ : ∃ m, n = m + 1 := ⟨n - 1, by omega⟩
  rw [bx.l0, if_neg (by omega)]
  exact ⟨_, _, _, _, rfl, by omega⟩
 | succ c ih =>
  intro n a b d ks hc hn hk
  obtain ⟨n, rfl⟩ : ∃ m, n = m + 1 := ⟨n - 1, by omega⟩
  rw [bx.l0, if_pos (by omega), wr _ (by omega), show 5 - ((c + 1 : Nat) : Int) + 1 = 5 - (c : Int) by omega]
  have e : bU [(⟨a, b, d, ks⟩ : GEx)] = 1 + bU ks := by rw [jU, cD]
  obtain ⟨a', b', d', ks', h1, h2⟩ := ih n 7 0 1 [⟨a, b, d, ks⟩] (by omega) (by omega) (by omega)
  exact ⟨_, _, _, _, h1, by omega⟩
theorem yv (k : Nat) (hk : 2000000000000 ≤ k) : ∀ (c n : Nat) (a b d : Int) (ks : List GEx), c ≤ 4 → c < n → (bU ks + 3) * 2 ^ c ≤ 100000 → ∃ a' b' d' ks', bx.l1 k n a b d ks (4 - (c : Int)) = some (a', b', d', ks') ∧ bU ks' ≤ 100000 := by
 intro c
 induction c with
 | zero =>
  intro n a b d ks hc hn hk
  obtain ⟨n, rfl⟩ : ∃ m, n = m + 1 := ⟨n - 1, by omega⟩
  rw [bx.l1, if_neg (by omega)]
  exact ⟨_, _, _, _, rfl, by omega⟩
 | succ c ih =>
  intro n a b d ks hc hn hks
  obtain ⟨n, rfl⟩ : ∃ m, n = m + 1 := ⟨n - 1, by omega⟩
  have p2 : (2 : Nat) ^ (c + 1) = 2 ^ c * 2 := Nat.pow_succ ..
  have b2 : 1 ≤ (2 : Nat) ^ c := Nat.one_le_pow c 2 (by omega)
  have e : exN (⟨a, b, d, ks⟩ : GEx) = 1 + bU ks := by rw [cD]
  have m2 : (bU ks + 3) * 2 ^ (c + 1) = (2 * (bU ks + 3)) * 2 ^ c := by rw [p2, Nat.mul_comm (2 ^ c) 2, ← Nat.mul_assoc, Nat.mul_comm (bU ks + 3) 2]
  have m3 : 2 * (bU ks + 3) ≤ 2 * (bU ks + 3) * 2 ^ c := Nat.le_mul_of_pos_right _ (by omega)
  rw [bx.l1, if_pos (by omega), Bd _ (by omega) k (by omega), wr _ (by omega), show 4 - ((c + 1 : Nat) : Int) + 1 = 4 - (c : Int) by omega]
  simp only [Option.bind_some]
  have e2 : bU [(⟨a, b, d, ks⟩ : GEx), ⟨a, b, d, ks⟩] = 2 * (bU ks + 1) := by rw [cK, jU]; omega
  refine ih n 2 0 0 _ (by omega) (by omega) ?_
  rw [e2]
  exact Nat.le_trans (Nat.mul_le_mul_right (m := 2 * (bU ks + 3)) _ (by omega)) (by rw [← m2]; exact hks)
theorem AO (k : Nat) (hk : 2000000000000 ≤ k) (r : Gl14Rd) (m : Int) (hr : cL r m) (hm : m ≤ 80000000) : ∃ x r', bx.f k r = some (x, r') ∧ cL r' (m + 300000) ∧ exN x ≤ 100001 := by
 unfold bx.f
 obtain ⟨x, r1, e1, e2, e3⟩ := wx k hk r m hr (by omega)
 rw [e1]
 simp only [Option.bind_some]
 obtain ⟨v, r2, g1, g2, g3, g4, g5⟩ := fP r1 60 (m + 200000) e2 (by omega) (by omega)
 rw [g1]
 simp only [Option.bind_some]
 have hx : bU x.Kids ≤ 256 := by rw [cD] at e3; omega
 have fin : ∀ a b c, exN (⟨a, b, c, x.Kids⟩ : GEx) ≤ 100001 := fun a b c => by rw [cD]; show 1 + bU x.Kids ≤ _; omega
 split
 ·obtain ⟨w, r3, f1, f2, f3⟩ := fe r2 [0, 8, 2, 5] (m + 200000 + 1) g5 (by omega) (by simp)
  rw [f1]
  exact ⟨_, _, rfl, f3.mono (by omega), fin _ _ _⟩
 split
 ·obtain ⟨w, r3, f1, f2, f3⟩ := fe r2 [(-1), 5, 1] (m + 200000 + 1) g5 (by omega) (by simp)
  rw [f1]
  exact ⟨_, _, rfl, f3.mono (by omega), fin _ _ _⟩
 split
 ·obtain ⟨w, r3, f1, f2, f3⟩ := fe r2 [(-1), 21, 1, 0] (m + 200000 + 1) g5 (by omega) (by simp)
  rw [f1]
  exact ⟨_, _, rfl, f3.mono (by omega), fin _ _ _⟩
 split
 ·obtain ⟨a', b', d', ks', q1, q2⟩ := xX k 5 k x.Kind x.Sym x.N x.Kids (by omega) (by omega) (by omega)
  rw [show (5 : Int) - ((5 : Nat) : Int) = 0 from rfl] at q1
  rw [q1]
  exact ⟨_, _, rfl, g5.mono (by omega), by rw [cD]; show 1 + bU ks' ≤ _; omega⟩
 split
 ·obtain ⟨a', b', d', ks', q1, q2⟩ := yv k hk 4 k x.Kind x.Sym x.N x.Kids (by omega) (by omega) (by omega)
  rw [show (4 : Int) - ((4 : Nat) : Int) = 0 from rfl] at q1
  rw [q1]
  exact ⟨_, _, rfl, g5.mono (by omega), by rw [cD]; show 1 + bU ks' ≤ _; omega⟩
 ·exact ⟨_, _, rfl, g5.mono (by omega), by show exN x ≤ _; omega⟩
def lC (c : sU) : Bool := decide (0 ≤ c.Sym) && decide (c.Sym < 5) && decide (1 ≤ c.Gap) && decide (c.Gap ≤ 20) && decide (0 ≤ c.Val) && decide (c.Val ≤ 100)
theorem tq (c : sU) : iM.f c = some (lC c) := by
 unfold iM.f dl.f lC
 simp only [dQ, Option.bind_some]
 repeat' split
 all_goals (rw [Option.some.injEq, Bool.eq_iff_iff]; simp_all; try omega)
/- what is drawn -/
/- the engine without rules -/
def yg : List Int := List.replicate 4 0
def cn (l : List GEv) : Int := match l.getLast? with
 | some e => e.At
 | none => 0
theorem Bq (l : List GEv) (hl : l.length ≤ 1000) : iv.f l = some (cn l) := by
 unfold iv.f cn
 rcases List.eq_nil_or_concat l with rfl | ⟨m, e, rfl⟩
 ·rfl
 ·rw [List.concat_eq_append] at hl ⊢
  rw [List.length_append, List.length_singleton] at hl ⊢
  rw [if_neg (by omega)]
  rw [wrP m.length (by omega), ae (by omega), Int.toNat_natCast]
  simp
theorem evs_k (k : Nat) (l : List GEv) (hl : l.length ≤ 1000) (hk : 2000 ≤ k) : cO.f k l = some (gR l) := by
 unfold cO.f gR
 have := sr k l (by omega) l.length k 0 (by omega) (by omega)
 rw [show ((0 : Nat) : Int) = 0 from rfl] at this
 rw [this]
 cases (List.range' 0 l.length).all (kL l)
 ·simp
 ·simp only [if_true, Option.bind_some, Bool.true_and, Option.some.injEq]
  by_cases h : l.length ≤ 24
  ·have : ¬ (24 : Int) < l.length := by omega
   simp [h, this]
  ·have : (24 : Int) < l.length := by omega
   simp [h, this]
/- one more event -/
theorem qN (l : List GEv) (e : GEv) (a : Int) : ∀ i, i ≤ l.length → lZ (l ++ [e]) a i = lZ l a i
 | 0, _ => rfl
 | j + 1, h => by
  show (match (l ++ [e])[j]? with | some d => decide (d.At < a) | none => false) = (match l[j]? with | some d => decide (d.At < a) | none => false)
  rw [List.getElem?_append_left (by omega)]
theorem yZ {l : List GEv} {e : GEv} (h : gR l = true) (hl : l.length < 24) (he : lO e = true) (ha : cn l < e.At) : gR (l ++ [e]) = true := by
 unfold gR at h ⊢
 simp only [Bool.and_eq_true, List.all_eq_true, List.mem_range', decide_eq_true_eq, List.length_append, List.length_singleton] at h ⊢
 refine ⟨?_, by omega⟩
 rintro x ⟨i, hi, rfl⟩
 simp only [Nat.zero_add, Nat.one_mul]
 unfold kL
 by_cases hlt : i < l.length
 ·have := h.1 i ⟨i, hlt, by omega⟩
  unfold kL at this
  rw [List.getElem?_append_left hlt]
  rw [List.getElem?_eq_getElem hlt] at this ⊢
  simp only [Bool.and_eq_true] at this ⊢
  exact ⟨this.1, by rw [qN l e _ i (by omega)]; exact this.2⟩
 ·have e1 : i = l.length := by omega
  subst e1
  rw [List.getElem?_append_right (by omega), Nat.sub_self]
  simp only [List.getElem?_cons_zero, Bool.and_eq_true]
  refine ⟨he, ?_⟩
  rw [qN l e _ _ (Nat.le_refl _)]
  unfold cn at ha
  cases hn : l.length with
  | zero => rfl
  | succ j =>
   show (match l[j]? with | some d => decide (d.At < e.At) | none => false) = true
   rw [List.getLast?_eq_getElem?, hn, Nat.add_sub_cancel, List.getElem?_eq_getElem (by omega)] at ha
   rw [List.getElem?_eq_getElem (by omega)]
   simpa using ha
theorem w3 (l : List GEv) (e : GEv) : cn (l ++ [e]) = e.At := by unfold cn; simp
def wm (a b i : Nat) (s : List GOcc × List GOcc × List GOcc) : Prop := Ok (a + i) s.1 ∧ Ok b s.2.1 ∧ Ok (i * b) s.2.2
theorem wm.half {a b i : Nat} {mode : Int} {s : List GOcc × List GOcc × List GOcc} {o : GOcc} (h : wm a b i s) (ho : cr o.Ids) : wm a b (i + 1) (fi mode s o) := by
 obtain ⟨x, y, z⟩ := nV (mode := mode) h.1 h.2.1 h.2.2 ho
 refine ⟨x, y, z.mono ?_⟩
 rw [Nat.succ_mul]; exact Nat.le_refl _
def tY (a b e i : Nat) (s : List GOcc × List GOcc × List GOcc) : Prop := Ok a s.1 ∧ Ok (b + i) s.2.1 ∧ Ok (e + i * a) s.2.2
theorem tY.other {a b e i : Nat} {mode : Int} {s : List GOcc × List GOcc × List GOcc} {o : GOcc} (h : tY a b e i s) (ho : cr o.Ids) : tY a b e (i + 1) (kp mode s o) := by
 obtain ⟨x, y, z⟩ := nV (mode := mode) (s := (s.2.1, s.1, s.2.2)) h.2.1 h.1 h.2.2 ho
 refine ⟨y, x, z.mono ?_⟩
 rw [Nat.succ_mul]; omega
theorem xO {mode : Int} {l r left right : List GOcc} {a b c d : Nat} (h1 : Ok a l) (h2 : Ok b r) (hl : Ids left) (hr : Ids right) (hc : left.length ≤ c) (hd : right.length ≤ d) :
  tY (a + c) b (c * b) d (gN mode l r left right) := by
 have a1 := rK (fi mode) (wm a b) left 0 (l, r, []) (fun j s h hI => by rw [Nat.zero_add] at *; exact hI.half (hl _ (List.getElem_mem h))) ⟨h1, h2, by simpa using Ok.nil 0⟩
 rw [Nat.zero_add] at a1
 have a2 := rK (kp mode) (tY (a + c) b (c * b)) right 0 (left.foldl (fi mode) (l, r, [])) (fun j s h hI => by rw [Nat.zero_add] at *; exact hI.other (hr _ (List.getElem_mem h)))
  ⟨a1.1.mono (by omega), a1.2.1, a1.2.2.mono (by have := Nat.mul_le_mul_right b hc; omega)⟩
 rw [Nat.zero_add] at a2
 exact ⟨a2.1, a2.2.1.mono (by omega), a2.2.2.mono (by have := Nat.mul_le_mul_right (a + c) hd; omega)⟩
theorem xx (k : Nat) (hk : 1000000000000 ≤ k) (mode : Int) (p : GPair) (left right : List GOcc) (a b c d : Nat) (h1 : Ok a p.Left) (h2 : Ok b p.Right) (hl : Ids left) (hr : Ids right) (hc : left.length ≤ c) (hd : right.length ≤ d) (hB : c * b + d * (a + c) + a + b + c + d ≤ 40000000000) :
  a8.f k p mode left right = some (⟨(gN mode p.Left p.Right left right).1, (gN mode p.Left p.Right left right).2.1⟩, (gN mode p.Left p.Right left right).2.2) := by
 have a1 := ic (fun s : List GOcc × List GOcc × List GOcc => s) left (fun s e => ((aJ.f k mode e s.2.1).bind fun x48 => ((aS.f k s.2.2 x48.1).bind fun x51 => ((bd.f k s.2.1 x48.2).bind fun x54 => ((ep.f k mode s.1 e ((x48.1.length : Int) == 0)).bind fun x57 => some (x57, x54, x51)))))) (fun n s i => a8.l0 k mode left n s.1 s.2.1 s.2.2 i) (fi mode) (wm a b)
  (fun n s => by rw [a8.l0, if_neg (by omega)])
  (fun n s i h => by
   rw [a8.l0, if_pos (by omega), ae (by omega), Int.toNat_natCast, List.getElem?_eq_getElem h]
   simp only [Option.bind_some, Option.bind_assoc]
   rw [wrS i (by omega)])
  (fun i s h hI => ⟨uv k hk mode s.1 s.2.1 s.2.2 _ (a + i) b _ (by omega) (by omega) (by have := Nat.mul_le_mul_right b (show i ≤ c by omega); omega) hI.1 hI.2.1 hI.2.2 (hl _ (List.getElem_mem h)), hI.half (hl _ (List.getElem_mem h))⟩)
  k (p.Left, p.Right, []) (by omega) ⟨h1, h2, by simpa using Ok.nil 0⟩
 have a2 := ic (fun s : List GOcc × List GOcc × List GOcc => s) right (fun s e => ((aJ.f k mode e s.1).bind fun x48 => ((aS.f k s.2.2 x48.1).bind fun x51 => ((bd.f k s.1 x48.2).bind fun x54 => ((ep.f k mode s.2.1 e ((x48.1.length : Int) == 0)).bind fun x57 => some (x54, x57, x51)))))) (fun n s i => a8.l1 k mode right n s.1 s.2.1 s.2.2 i) (kp mode) (tY (a + c) b (c * b))
  (fun n s => by rw [a8.l1, if_neg (by omega)])
  (fun n s i h => by
   rw [a8.l1, if_pos (by omega), ae (by omega), Int.toNat_natCast, List.getElem?_eq_getElem h]
   simp only [Option.bind_some, Option.bind_assoc]
   rw [wrS i (by omega)])
  (fun i s h hI => by
   have q := uv k hk mode s.2.1 s.1 s.2.2 _ (b + i) (a + c) _ (by omega) (by omega) (by have := Nat.mul_le_mul_right (a + c) (show i ≤ d by omega); omega) hI.2.1 hI.1 hI.2.2 (hr _ (List.getElem_mem h))
   refine ⟨?_, hI.other (hr _ (List.getElem_mem h))⟩
   have q2 := congrArg (Option.map fun t : List GOcc × List GOcc × List GOcc => (t.2.1, t.1, t.2.2)) q
   simp only [Option.map_bind, Option.map_some, Function.comp_def] at q2
   exact q2)
  k (left.foldl (fi mode) (p.Left, p.Right, [])) (by omega) ⟨a1.2.1.mono (by omega), a1.2.2.1, a1.2.2.2.mono (by have := Nat.mul_le_mul_right b hc; omega)⟩
 unfold a8.f
 rw [a1.1]
 simp only [Option.bind_some]
 rw [a2.1]
 rfl
def mq (m n : GNode) : Bool := m.Kind == n.Kind && (m.Sym == n.Sym && (m.N == n.N && m.Kids == n.Kids))
def nj (k s n : Int) (ks : List Int) : GNode := ⟨k, s, n, ks, ⟨[], []⟩, ⟨[], []⟩, [], 0⟩
def rQ (ns : List GNode) (x : GNode) : Int × List GNode := match ns.findIdx? (fun m => mq m x) with
 | some i => ((i : Int), ns)
 | none => ((ns.length : Int), ns ++ [x])
mutual
/-- the parts with those of an expression, and the number of its own -/
def gK : GEx → List GNode → Int × List GNode
 | ⟨k, s, n, ks⟩, ns => rQ (dH ks ns).2 (nj k s n (dH ks ns).1)
def dH : List GEx → List GNode → List Int × List GNode
 | [], ns => ([], ns)
 | x :: xs, ns => ((gK x ns).1 :: (dH xs (gK x ns).2).1, (dH xs (gK x ns).2).2)
end
theorem xu (x : GEx) (ns : List GNode) : gK x ns = rQ (dH x.Kids ns).2 (nj x.Kind x.Sym x.N (dH x.Kids ns).1) := by cases x; simp only [gK]
theorem uT (ns : List GNode) : dH [] ns = ([], ns) := by simp only [dH]
theorem sL (x : GEx) (xs : List GEx) (ns : List GNode) : dH (x :: xs) ns = ((gK x ns).1 :: (dH xs (gK x ns).2).1, (dH xs (gK x ns).2).2) := by simp only [dH]
def av (found : List (List GOcc)) (n : GNode) (j : Nat) : List GOcc := found.getD (n.Kids.getD j 0).toNat []
def AW (time n : Int) (due kid : List GOcc) : List GOcc := kid.foldl (fun s o => cd s (jj n o)) (due.filter fun o => !(o.To == time))
/-- what a part finds at a time, and what becomes of it -/
def aF (mode seen time : Int) (ev : Option Int) (found : List (List GOcc)) (n : GNode) : GNode × List GOcc :=
 if n.Kind = 1 then (n, if ev = some n.Sym then [⟨time, time, [seen]⟩] else [])
 else if n.Kind = 2 then (n, cm (av found n 0) (av found n 1))
 else if n.Kind = 3 then (⟨n.Kind, n.Sym, n.N, n.Kids, ⟨(gN mode n.Pair.Left n.Pair.Right (av found n 0) (av found n 1)).1, (gN mode n.Pair.Left n.Pair.Right (av found n 0) (av found n 1)).2.1⟩, n.Span, n.Due, n.Many⟩, (gN mode n.Pair.Left n.Pair.Right (av found n 0) (av found n 1)).2.2)
 else if n.Kind = 4 then (⟨n.Kind, n.Sym, n.N, n.Kids, ⟨(kR mode n.Pair.Left (av found n 0) (av found n 1)).1, n.Pair.Right⟩, n.Span, n.Due, n.Many⟩, (kR mode n.Pair.Left (av found n 0) (av found n 1)).2)
 else if n.Kind = 5 then (⟨n.Kind, n.Sym, n.N, n.Kids, n.Pair, ⟨(gI mode n.Span.Left n.Span.Mid (av found n 0) (av found n 1) (av found n 2)).1, (gI mode n.Span.Left n.Span.Mid (av found n 0) (av found n 1) (av found n 2)).2.1⟩, n.Due, n.Many⟩, (gI mode n.Span.Left n.Span.Mid (av found n 0) (av found n 1) (av found n 2)).2.2)
 else if n.Kind = 6 then (⟨n.Kind, n.Sym, n.N, n.Kids, n.Pair, ⟨(cM mode n.Span.Left n.Span.Mid (av found n 0) (av found n 1) (av found n 2)).1, (cM mode n.Span.Left n.Span.Mid (av found n 0) (av found n 1) (av found n 2)).2.1⟩, n.Due, n.Many⟩, (cM mode n.Span.Left n.Span.Mid (av found n 0) (av found n 1) (av found n 2)).2.2)
 else (⟨n.Kind, n.Sym, n.N, n.Kids, n.Pair, n.Span, AW time n.N n.Due (av found n 0), n.Many⟩, atM n.Due time)
def ff (r : GNode × List GOcc) : GNode := ⟨r.1.Kind, r.1.Sym, r.1.N, r.1.Kids, r.1.Pair, r.1.Span, r.1.Due, r.1.Many + (r.2.length : Int)⟩
def my (mode seen time : Int) (ev : Option Int) (s : List GNode × List (List GOcc)) (n : GNode) : List GNode × List (List GOcc) :=
 (s.1 ++ [ff (aF mode seen time ev s.2 n)], s.2 ++ [(aF mode seen time ev s.2 n).2])
/-- a point in time: all parts in order -/
def aC (mode seen time : Int) (ev : Option Int) (ns : List GNode) : List GNode × List (List GOcc) := ns.foldl (my mode seen time ev) ([], [])
def dM (ns : List GNode) : Bool := ns.any fun n => decide (40 < n.Many)
/-- a part stands for an expression -/
def kO (es : List GEx) (i : Nat) (n : GNode) (e : GEx) : Prop :=
 n.Kind = e.Kind ∧ n.Sym = e.Sym ∧ n.N = e.N ∧ n.Kids.length = e.Kids.length ∧ ∀ j, j < e.Kids.length → ∃ q : Nat, q < i ∧ n.Kids[j]? = some (q : Int) ∧ es[q]? = e.Kids[j]?
def gd (e : GEx) : Prop := ed e = true ∧ exN e ≤ 12
def Rep (es : List GEx) (ns : List GNode) : Prop := es.length = ns.length ∧ ∀ (i : Nat) (n : GNode), ns[i]? = some n → ∃ e, es[i]? = some e ∧ gd e ∧ kO es i n e
/-- what was found at a time, of an expression so large -/
def FO (t : Int) (s : Nat) (l : List GOcc) : Prop := Asc l ∧ Ids l ∧ (l.length + 40) * (l.length + 40) ≤ 41 ^ (s + 1) ∧ ∀ o ∈ l, o.To = t
def ly (t : Int) (n : GNode) : Prop := Ok 40 n.Pair.Left ∧ Ok 40 n.Pair.Right ∧ Ok 40 n.Span.Left ∧ Ok 40 n.Span.Mid ∧ Ok 40 n.Due ∧ 0 ≤ n.Many ∧ n.Many ≤ 40 ∧
 All (fun o => o.To ≤ t) n.Pair.Left ∧ All (fun o => o.To ≤ t) n.Pair.Right ∧ All (fun o => o.To ≤ t) n.Span.Left ∧ All (fun o => o.To ≤ t) n.Span.Mid
theorem sq_le {x m n : Nat} (h : x * x ≤ m) (hn : m < (n + 1) * (n + 1)) : x ≤ n := by
 rcases Nat.lt_or_ge n x with h1 | h1
 ·have := Nat.mul_le_mul (show n + 1 ≤ x by omega) (show n + 1 ≤ x by omega); omega
 ·exact h1
theorem pv {a b : Nat} (h : a ≤ b) : 41 ^ a ≤ 41 ^ b := Nat.pow_le_pow_right (by omega) h
theorem CV (x y : Nat) : x * y * (x * y) = x * x * (y * y) := by rw [Nat.mul_assoc, Nat.mul_left_comm y x y, ← Nat.mul_assoc]
theorem nr {x y a b c : Nat} (hx : x * x ≤ 41 ^ a) (hy : y * y ≤ 41 ^ b) (h : a + b ≤ c) : x * y * (x * y) ≤ 41 ^ c := by
 rw [CV]
 exact Nat.le_trans (Nat.mul_le_mul hx hy) (by rw [← Nat.pow_add]; exact pv h)
theorem lx {x y m : Nat} (h : x ≤ y) (hy : y * y ≤ m) : x * x ≤ m := Nat.le_trans (Nat.mul_le_mul h h) hy
theorem Bl {x : Nat} (h : x * x ≤ 41 ^ 13) : x ≤ 30420000000 := sq_le h (by decide)
theorem FO.small {t : Int} {s : Nat} {l : List GOcc} (h : FO t s l) (hs : s ≤ 12) : l.length ≤ 30420000000 := by
 have := Bl (Nat.le_trans h.2.2.1 (pv (show s + 1 ≤ 13 by omega))); omega
theorem FO.ok {t : Int} {s : Nat} {l : List GOcc} (h : FO t s l) : Ok l.length l := ⟨h.1, h.2.1, Nat.le_refl _⟩
/-- two together -/
theorem FO.two {t : Int} {s s' : Nat} {a b : List GOcc} (ha : FO t s a) (hb : FO t s' b) (h : s + s' ≤ 11) : (a.length + 40) * (b.length + 40) ≤ 30420000000 :=
 Bl (nr ha.2.2.1 hb.2.2.1 (by omega))
theorem FO.nil {t : Int} {s : Nat} (h : 1 ≤ s) : FO t s [] := ⟨by simp [Asc], fun x hx => by simp at hx, Nat.le_trans (by decide) (pv (show 2 ≤ s + 1 by omega)), fun o ho => by simp at ho⟩
theorem cz {es : List GEx} {i : Nat} {n : GNode} {e : GEx} {found : List (List GOcc)} (h : kO es i n e) (hf : found.length = i) {j : Nat} (hj : j < e.Kids.length) :
  ∃ q : Nat, q < i ∧ n.Kids[j]? = some (q : Int) ∧ found[q]? = some (av found n j) ∧ es[q]? = e.Kids[j]? := by
 obtain ⟨q, h1, h2, h3⟩ := h.2.2.2.2 j hj
 refine ⟨q, h1, h2, ?_, h3⟩
 unfold av
 rw [List.getD_eq_getElem?_getD, List.getD_eq_getElem?_getD, h2]
 simp only [Option.getD_some, Int.toNat_natCast]
 rw [List.getElem?_eq_getElem (by omega)]; rfl
/-- what was found so far -/
def jq (t : Int) (es : List GEx) (found : List (List GOcc)) : Prop := ∀ (j : Nat) (l : List GOcc), found[j]? = some l → ∃ e, es[j]? = some e ∧ FO t (exN e) l
theorem bz {t : Int} {es : List GEx} {i : Nat} {n : GNode} {e : GEx} {found : List (List GOcc)} (h : kO es i n e) (hf : found.length = i) (hF : jq t es found) {j : Nat} {x : GEx} (hj : e.Kids[j]? = some x) :
  FO t (exN x) (av found n j) := by
 have hj' : j < e.Kids.length := (List.getElem?_eq_some_iff.1 hj).1
 obtain ⟨q, h1, h2, h3, h4⟩ := cz h hf hj'
 obtain ⟨e', h5, h6⟩ := hF q _ h3
 rw [h4, hj] at h5
 cases h5
 exact h6
theorem eV (e : GEx) : 1 ≤ exN e := by rw [cD]; omega
theorem tW {α : Type} {l : List α} (h : l.length = 1) : ∃ a, l = [a] := by
 match l, h with
 | [a], _ => exact ⟨a, rfl⟩
theorem gF {α : Type} {l : List α} (h : l.length = 2) : ∃ a b, l = [a, b] := by
 match l, h with
 | [a, b], _ => exact ⟨a, b, rfl⟩
theorem jn {α : Type} {l : List α} (h : l.length = 3) : ∃ a b c, l = [a, b, c] := by
 match l, h with
 | [a, b, c], _ => exact ⟨a, b, c, rfl⟩
theorem ur {e x : GEx} (h : e.Kids = [x]) : exN e = exN x + 1 := by rw [cD, h, cK, ej]; omega
theorem gH {e x y : GEx} (h : e.Kids = [x, y]) : exN e = exN x + exN y + 1 := by rw [cD, h, cK, cK, ej]; omega
theorem jo {e x y z : GEx} (h : e.Kids = [x, y, z]) : exN e = exN x + exN y + exN z + 1 := by rw [cD, h, cK, cK, cK, ej]; omega
theorem pS {t : Int} {a b : GOcc} (ha : a.To = t) (hb : b.To ≤ t) : (dG a b).To = t := by show max a.To b.To = t; omega
theorem zg {t : Int} : ∀ {l : List GOcc} {o : GOcc}, (∀ x ∈ l, x.To ≤ t) → o.To = t → (rv o l).To = t
 | [], _, _, h => h
 | x :: l, o, hl, h => zg (l := l) (o := dG o x) (fun y hy => hl y (by simp [hy])) (pS h (hl x (by simp)))
theorem xy {t : Int} {o : GOcc} (ho : o.To = t) : ∀ (l acc : List GOcc), (∀ x ∈ l, x.To ≤ t) → (∀ x ∈ acc, x.To = t) → ∀ x ∈ l.foldl (fun s e => cd s (dG o e)) acc, x.To = t
 | [], _, _, h => h
 | y :: l, acc, hl, h => xy ho l (cd acc (dG o y)) (fun z hz => hl z (by simp [hz])) (fun z hz => by
   rcases eF.1 hz with h1 | rfl
   ·exact h z h1
   ·exact pS ho (hl y (by simp)))
theorem rt {t : Int} {mode : Int} {o : GOcc} {l : List GOcc} (hl : ∀ x ∈ l, x.To ≤ t) (ho : o.To = t) : ∀ x ∈ eo mode o l, x.To = t := by
 unfold eo
 by_cases h0 : l.length = 0
 ·rw [if_pos h0]; simp
 rw [if_neg h0]
 split
 ·intro x hx; rw [List.mem_singleton.1 hx, List.getElem?_eq_getElem (show l.length - 1 < l.length by omega)]; exact pS ho (hl _ (List.getElem_mem _))
 split
 ·intro x hx; rw [List.mem_singleton.1 hx, List.getElem?_eq_getElem (show 0 < l.length by omega)]; exact pS ho (hl _ (List.getElem_mem _))
 split
 ·intro x hx; rw [List.mem_singleton.1 hx]; exact zg hl ho
 ·exact xy ho l [] hl (by simp)
theorem nM {t : Int} {a b : List GOcc} (ha : ∀ x ∈ a, x.To = t) (hb : ∀ x ∈ b, x.To = t) : ∀ x ∈ cm a b, x.To = t := fun x hx => by
 rcases jG.1 hx with h | h
 ·exact ha x h
 ·exact hb x h
theorem lS {t : Int} {a b : List GOcc} (ha : ∀ x ∈ a, x.To ≤ t) (hb : ∀ x ∈ b, x.To ≤ t) : ∀ x ∈ cm a b, x.To ≤ t := fun x hx => by
 rcases jG.1 hx with h | h
 ·exact ha x h
 ·exact hb x h
theorem zm {t : Int} {a g : List GOcc} (ha : ∀ x ∈ a, x.To ≤ t) : ∀ x ∈ tS a g, x.To ≤ t := fun x hx => ha x (List.mem_filter.1 hx).1
/-- those on the right of a sequence or an absence -/
theorem nA {t : Int} {mode : Int} {p : GOcc → GOcc → Bool} : ∀ (r : List GOcc) (s : List GOcc × List GOcc), (∀ x ∈ r, x.To = t) → (∀ x ∈ s.1, x.To ≤ t) → (∀ x ∈ s.2, x.To = t) →
  (∀ x ∈ (r.foldl (eu mode p) s).1, x.To ≤ t) ∧ (∀ x ∈ (r.foldl (eu mode p) s).2, x.To = t)
 | [], s, _, h1, h2 => ⟨h1, h2⟩
 | o :: r, s, hr, h1, h2 => by
  rw [List.foldl_cons]
  exact nA r _ (fun x hx => hr x (by simp [hx])) (zm h1) (nM h2 (rt (fun x hx => h1 x (List.mem_filter.1 hx).1) (hr o (by simp))))
theorem Aw {t : Int} {mode : Int} {own : List GOcc} {o : GOcc} {b : Bool} (h : ∀ x ∈ own, x.To ≤ t) (ho : o.To ≤ t) : ∀ x ∈ jB mode own o b, x.To ≤ t := by
 have hp : ∀ x ∈ cd own o, x.To ≤ t := fun x hx => by
  rcases eF.1 hx with h1 | rfl
  ·exact h x h1
  ·exact ho
 unfold jB
 split
 ·intro x hx; rw [List.mem_singleton.1 hx]; exact ho
 split
 ·exact hp
 split
 ·exact hp
 ·exact h
def ToS (t : Int) (s : List GOcc × List GOcc × List GOcc) : Prop := (∀ x ∈ s.1, x.To ≤ t) ∧ (∀ x ∈ s.2.1, x.To ≤ t) ∧ ∀ x ∈ s.2.2, x.To = t
theorem ToS.half {t : Int} {mode : Int} {s : List GOcc × List GOcc × List GOcc} {o : GOcc} (h : ToS t s) (ho : o.To = t) : ToS t (fi mode s o) :=
 ⟨Aw h.1 (by omega), zm h.2.1, nM h.2.2 (rt h.2.1 ho)⟩
theorem ToS.other {t : Int} {mode : Int} {s : List GOcc × List GOcc × List GOcc} {o : GOcc} (h : ToS t s) (ho : o.To = t) : ToS t (kp mode s o) := by
 obtain ⟨a, b, c⟩ := ToS.half (mode := mode) (s := (s.2.1, s.1, s.2.2)) ⟨h.2.1, h.1, h.2.2⟩ ho
 exact ⟨b, a, c⟩
theorem Au {t : Int} {mode : Int} {l r left right : List GOcc} (h1 : ∀ x ∈ l, x.To ≤ t) (h2 : ∀ x ∈ r, x.To ≤ t) (hl : ∀ x ∈ left, x.To = t) (hr : ∀ x ∈ right, x.To = t) : ToS t (gN mode l r left right) := by
 unfold gN
 exact ig (ToS t) _ right _ (fun s x hx hs => hs.other (hr x hx)) (ig (ToS t) _ left _ (fun s x hx hs => hs.half (hl x hx)) ⟨h1, h2, by simp⟩)
theorem z7 {t : Int} {mode : Int} {l mid : List GOcc} (h1 : ∀ x ∈ l, x.To ≤ t) : ∀ (b acc : List GOcc), (∀ x ∈ b, x.To = t) → (∀ x ∈ acc, x.To = t) → ∀ x ∈ b.foldl (fun s o => cm s (eo mode o (l.filter (eQ mid o)))) acc, x.To = t
 | [], _, _, h => h
 | o :: b, acc, hb, h => z7 h1 b _ (fun x hx => hb x (by simp [hx])) (nM h (rt (fun x hx => h1 x (List.mem_filter.1 hx).1) (hb o (by simp))))
theorem rC {n : Int} {o : GOcc} (h : cr o.Ids) : cr (jj n o).Ids := h
/-- what waits, with what comes later -/
theorem zI {n : Int} : ∀ (kid : List GOcc) (acc : List GOcc) (m : Nat), Ok m acc → Ids kid → Ok (m + kid.length) (kid.foldl (fun s o => cd s (jj n o)) acc)
 | [], acc, m, h, _ => h
 | o :: kid, acc, m, h, hk => by
  rw [List.foldl_cons]
  have := zI (n := n) kid (cd acc (jj n o)) (m + 1) (h.put (rC (hk o (by simp)))) (fun x hx => hk x (by simp [hx]))
  exact this.mono (by simp; omega)
theorem cq (a b : Nat) : (a + 40) * (b + 40) = a * b + 40 * a + 40 * b + 1600 := by
 rw [Nat.add_mul, Nat.mul_add, Nat.mul_add]; omega
theorem FO.of {t : Int} {s : Nat} {l : List GOcc} {m : Nat} (h : Ok m l) (hm : (m + 40) * (m + 40) ≤ 41 ^ (s + 1)) (ht : ∀ o ∈ l, o.To = t) : FO t s l :=
 ⟨h.1, h.2.1, lx (show l.length + 40 ≤ m + 40 by have := h.2.2; omega) hm, ht⟩
theorem uf {t seen mode : Int} {ev : Option Int} {es : List GEx} {i : Nat} {n : GNode} {e : GEx} {found : List (List GOcc)} (hx : gd e) (hR : kO es i n e) (hS : ly t n) (hf : found.length = i) (hF : jq t es found) (hs : 0 ≤ seen ∧ seen ≤ 23) :
  FO t (exN e) (aF mode seen t ev found n).2 := by
 obtain ⟨S1, S2, S3, S4, S5, _, _, T1, T2, T3, T4⟩ := hS
 have hp := eV e
 have h12 := hx.2
 unfold aF
 rcases iE (hJ hx.1).1 with ⟨hk, hl⟩ | ⟨hk, hl⟩ | ⟨hk, hl⟩ | ⟨hk, hl⟩ | ⟨hk, hl⟩ | ⟨hk, hl⟩ | ⟨hk, hl⟩ <;> rw [← hR.1] at hk
 ·rw [if_pos hk]
  simp only
  split
  ·refine ⟨by simp [Asc], fun o ho => ?_, Nat.le_trans (by decide : (1 + 40) * (1 + 40) ≤ 41 ^ 2) (pv (by omega)), fun o ho => by rw [List.mem_singleton.1 ho]⟩
   rw [List.mem_singleton.1 ho]
   exact ⟨by simp [Up], fun x hx => by rw [List.mem_singleton.1 hx]; exact hs⟩
  ·exact FO.nil hp
 ·obtain ⟨x, y, hK⟩ := gF hl
  have a := bz hR hf hF (j := 0) (x := x) (by rw [hK]; rfl)
  have b := bz hR hf hF (j := 1) (x := y) (by rw [hK]; rfl)
  rw [if_neg (by omega), if_pos hk]
  refine FO.of (a.ok.merge b.ok) ?_ (nM a.2.2.2 b.2.2.2)
  rw [gH hK]
  exact lx (by rw [cq]; omega) (nr a.2.2.1 b.2.2.1 (by omega))
 ·obtain ⟨x, y, hK⟩ := gF hl
  have a := bz hR hf hF (j := 0) (x := x) (by rw [hK]; rfl)
  have b := bz hR hf hF (j := 1) (x := y) (by rw [hK]; rfl)
  rw [if_neg (by omega), if_neg (by omega), if_pos hk]
  refine FO.of (xO (mode := mode) S1 S2 a.2.1 b.2.1 (Nat.le_refl _) (Nat.le_refl _)).2.2 ?_ (Au T1 T2 a.2.2.2 b.2.2.2).2.2
  rw [gH hK]
  refine lx ?_ (nr a.2.2.1 b.2.2.1 (show exN x + 1 + (exN y + 1) ≤ exN x + exN y + 1 + 1 by omega))
  rw [cq, Nat.mul_add, Nat.mul_comm (av found n 1).length (av found n 0).length]
  omega
 ·obtain ⟨x, y, hK⟩ := gF hl
  have a := bz hR hf hF (j := 0) (x := x) (by rw [hK]; rfl)
  have b := bz hR hf hF (j := 1) (x := y) (by rw [hK]; rfl)
  have hN := gH hK
  have h2 := a.two b (by omega)
  rw [cq] at h2
  rw [if_neg (by omega), if_neg (by omega), if_neg (by omega), if_pos hk]
  refine FO.of (tm 1000000000000 (Nat.le_refl _) mode n.Pair _ _ 40 (av found n 1).length (by omega) (by omega) (by omega) S1 a.2.1 b.2.1 (by omega) (Nat.le_refl _)).2.2 ?_ (nA _ (n.Pair.Left, []) b.2.2.2 T1 (by simp)).2
  rw [hN]
  refine lx ?_ (nr a.2.2.1 b.2.2.1 (show exN x + 1 + (exN y + 1) ≤ exN x + exN y + 1 + 1 by omega))
  rw [cq]; omega
 ·obtain ⟨x, y, z, hK⟩ := jn hl
  have a := bz hR hf hF (j := 0) (x := x) (by rw [hK]; rfl)
  have b := bz hR hf hF (j := 1) (x := y) (by rw [hK]; rfl)
  have c := bz hR hf hF (j := 2) (x := z) (by rw [hK]; rfl)
  have hN := jo hK
  have py := eV y
  have h2 := a.two c (by omega)
  have h3 := b.small (by omega)
  rw [cq] at h2
  rw [if_neg (by omega), if_neg (by omega), if_neg (by omega), if_neg (by omega), if_pos hk]
  refine FO.of (ub 1000000000000 (Nat.le_refl _) mode n.Span _ _ _ 40 (av found n 2).length (by omega) (by omega) (by omega) S3 S4 a.2.1 b.2.1 c.2.1 (by omega) (by omega) (Nat.le_refl _)).2.2.2 ?_ (nA _ (n.Span.Left, []) c.2.2.2 T3 (by simp)).2
  rw [hN]
  refine lx ?_ (nr a.2.2.1 c.2.2.1 (show exN x + 1 + (exN z + 1) ≤ exN x + exN y + exN z + 1 + 1 by omega))
  rw [cq]; omega
 ·obtain ⟨x, y, z, hK⟩ := jn hl
  have a := bz hR hf hF (j := 0) (x := x) (by rw [hK]; rfl)
  have b := bz hR hf hF (j := 1) (x := y) (by rw [hK]; rfl)
  have c := bz hR hf hF (j := 2) (x := z) (by rw [hK]; rfl)
  have hN := jo hK
  have pz := eV z
  have h2 := a.two b (by omega)
  have h3 := c.small (by omega)
  rw [cq] at h2
  rw [if_neg (by omega), if_neg (by omega), if_neg (by omega), if_neg (by omega), if_neg (by omega), if_pos hk]
  refine FO.of (rE 1000000000000 (Nat.le_refl _) mode n.Span _ _ _ 40 (av found n 1).length (by omega) (by omega) (by omega) S3 S4 a.2.1 b.2.1 c.2.1 (by omega) (Nat.le_refl _) (by omega)).2.2.2 ?_ (z7 T3 _ _ b.2.2.2 (by simp))
  rw [hN]
  refine lx ?_ (nr a.2.2.1 b.2.2.1 (show exN x + 1 + (exN y + 1) ≤ exN x + exN y + exN z + 1 + 1 by omega))
  rw [cq]; omega
 ·obtain ⟨x, hK⟩ := tW hl.1
  rw [if_neg (by omega), if_neg (by omega), if_neg (by omega), if_neg (by omega), if_neg (by omega), if_neg (by omega)]
  have hN := ur hK
  have px := eV x
  refine FO.of (S5.filter _) (Nat.le_trans (by decide : (40 + 40) * (40 + 40) ≤ 41 ^ 3) (pv (by omega))) (fun o ho => ?_)
  have := (List.mem_filter.1 ho).2
  simpa using this
end Go.Proofs.YtlbnmldopjadoaaGreat
