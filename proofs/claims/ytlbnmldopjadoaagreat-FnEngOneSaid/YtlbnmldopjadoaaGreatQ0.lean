/- Plain lemmas about the functions over data; first part. -/
import Derived.Test.YtlbnmldopjadoaaGreatL
namespace Go.Proofs.YtlbnmldopjadoaaGreat
open Go Go.Vm
set_option linter.unusedVariables false
set_option linter.unusedSimpArgs false
theorem wr (x : Int) (h : -9223372036854775808 ≤ x ∧ x < 9223372036854775808) : IntKind.wrap .i64 x = x := Bn h
theorem wrS (i : Nat) (h : i < 4611686018427387904) : IntKind.wrap .i64 ((i : Int) + 1) = ((i + 1 : Nat) : Int) := by rw [wr _ (by omega)]; simp
theorem wrP (i : Nat) (h : i < 4611686018427387904) : IntKind.wrap .i64 (((i + 1 : Nat) : Int) - 1) = (i : Int) := by rw [wr _ (by omega)]; simp
/-- from some number of rounds on -/
def Evn {α : Type} (g : Nat → Option α) (r : α) : Prop := ∃ K, ∀ k, K ≤ k → g k = some r
theorem Evn.const {α : Type} {g : Option α} {r : α} (h : g = some r) : Evn (fun _ => g) r := ⟨0, fun _ _ => h⟩
theorem Evn.bind {α β : Type} {g : Nat → Option α} {f : Nat → α → Option β} {r : α} {s : β} (h1 : Evn g r) (h2 : Evn (fun k => f k r) s) : Evn (fun k => (g k).bind (f k)) s := by
 obtain ⟨K1, h1⟩ := h1
 obtain ⟨K2, h2⟩ := h2
 exact ⟨K1 + K2, fun k hk => by simp only; rw [h1 k (by omega)]; exact h2 k (by omega)⟩
theorem Evn.get {α : Type} {g : Nat → Option α} {r : α} (h : Evn g r) : ∃ k, g k = some r := h.elim fun K h => ⟨K, h K (Nat.le_refl _)⟩
theorem Evn.req {α : Type} {c : Prop} [Decidable c] {g : Nat → Option α} {r : α} (hc : c) (h : Evn g r) : Evn (fun k => Vm.req c (g k)) r := by
 obtain ⟨K, h⟩ := h
 exact ⟨K, fun k hk => by simp only; rw [ae hc]; exact h k hk⟩
theorem Evn.neg {α : Type} {c : Prop} [Decidable c] {g g' : Nat → Option α} {r : α} (hc : ¬ c) (h : Evn g' r) : Evn (fun k => if c then g k else g' k) r := by
 obtain ⟨K, h⟩ := h
 exact ⟨K, fun k hk => by simp only; rw [if_neg hc]; exact h k hk⟩
/- events -/
def jP (e : GEv) : Bool := decide (0 ≤ e.Sym) && decide (e.Sym < 5) && decide (1 ≤ e.At) && decide (e.At ≤ 1000) && decide (0 ≤ e.Val) && decide (e.Val ≤ 100)
theorem dH (a b c : Int) : ba.f a b c = some (decide (b ≤ a) && decide (a ≤ c)) := by
 unfold ba.f
 split
 all_goals (rw [Option.some.injEq, Bool.eq_iff_iff]; simp; omega)
theorem vO (e : GEv) : kv.f e = some (jP e) := by
 unfold kv.f dd.f jP
 simp only [dH, Option.bind_some]
 repeat' split
 all_goals (rw [Option.some.injEq, Bool.eq_iff_iff]; simp_all; try omega)
def ku (l : List GEv) (a : Int) : Nat → Bool
 | 0 => true
 | j + 1 => match l[j]? with
  | some d => decide (d.At < a)
  | none => false
def iJ (l : List GEv) (i : Nat) : Bool := match l[i]? with
 | some e => jP e && ku l e.At i
 | none => false
def dQ (l : List GEv) : Bool := (List.range' 0 l.length).all (iJ l) && decide (l.length ≤ 24)
theorem lY (k : Nat) (l : List GEv) (hl : l.length < 4611686018427387904) : ∀ (d n i : Nat), i + d = l.length → d < n →
  cg.l0 k l n (i : Int) = some (if (List.range' i d).all (iJ l) then .ok () else .error false) := by
 intro d
 induction d with
 | zero =>
  intro n i hi hn
  obtain ⟨n, rfl⟩ : ∃ m, n = m + 1 := ⟨n - 1, by omega⟩
  rw [cg.l0, if_neg (by omega)]; simp
 | succ d ih =>
  intro n i hi hn
  obtain ⟨n, rfl⟩ : ∃ m, n = m + 1 := ⟨n - 1, by omega⟩
  have hlt : i < l.length := by omega
  have hnext := ih n (i + 1) (by omega) (by omega)
  rw [cg.l0, if_pos (by omega), ae (by omega), Int.toNat_natCast, List.getElem?_eq_getElem hlt]
  simp only [Option.bind_some, vO, List.range'_succ, List.all_cons]
  have hg : iJ l i = (jP l[i] && ku l l[i].At i) := by unfold iJ; rw [List.getElem?_eq_getElem hlt]
  rw [hg]
  cases hok : jP l[i]
  ·simp
  ·cases i with
   | zero => simp only [if_true]; rw [if_neg (by omega), wrS 0 (by omega), hnext]; simp only [ku, Bool.true_and]
   | succ j =>
    simp only [if_true]
    rw [if_pos (by omega)]
    simp only [wrP j (by omega)]
    rw [ae (by omega), Int.toNat_natCast, List.getElem?_eq_getElem (show j < l.length by omega)]
    simp only [Option.bind_some]
    have hp : ku l l[j + 1].At (j + 1) = decide (l[j].At < l[j + 1].At) := by simp only [ku, List.getElem?_eq_getElem (show j < l.length by omega)]
    rw [hp]
    by_cases h : l[j].At < l[j + 1].At
    ·rw [if_pos h, wrS (j + 1) (by omega), hnext]; simp only [h, decide_true, Bool.true_and]
    ·rw [if_neg h]; simp only [h, decide_false, Bool.true_and, Bool.false_and]; rfl
theorem fO {l : List GEv} (h : dQ l = true) : l.length ≤ 24 := by
 unfold dQ at h; simp at h; exact h.2
theorem nQ {l : List GEv} (h : dQ l = true) {e : GEv} (he : e ∈ l) : jP e = true := by
 unfold dQ at h
 simp only [Bool.and_eq_true, List.all_eq_true, List.mem_range', decide_eq_true_eq] at h
 obtain ⟨i, hi⟩ := List.mem_iff_getElem?.1 he
 have hlt : i < l.length := by
  rcases Nat.lt_or_ge i l.length with h1 | h1
  ·exact h1
  ·rw [List.getElem?_eq_none h1] at hi; cases hi
 have := h.1 i ⟨i, hlt, by omega⟩
 unfold iJ at this
 rw [hi] at this
 simp only [Bool.and_eq_true] at this
 exact this.1
def cF : List Int → List Int → Int
 | [], [] => 0
 | [], _ :: _ => -1
 | _ :: _, [] => 1
 | x :: xs, y :: ys => if x < y then -1 else if y < x then 1 else cF xs ys
theorem qC : ∀ l, cF l l = 0
 | [] => rfl
 | x :: xs => by simp [cF, qC xs]
theorem BI (a b : Int) : iD.f a b = some (if a < b then -1 else if b < a then 1 else 0) := by
 unfold iD.f kx.f
 by_cases h : a < b
 ·simp [h]
 ·by_cases h2 : b < a <;> simp [h, h2]
theorem uK (k : Nat) (a b : List Int) (ha : a.length < 4611686018427387904) : ∀ (d n i : Nat), i + d = a.length → i ≤ b.length → d < n →
  ((bX.l0 k a b n (i : Int)).bind fun o => match o with
   | .ok _ => (if (a.length : Int) < (b.length : Int) then some (-1) else some 0)
   | .error r => some r) = some (cF (a.drop i) (b.drop i)) := by
 intro d
 induction d with
 | zero =>
  intro n i hi hb hn
  obtain ⟨n, rfl⟩ : ∃ m, n = m + 1 := ⟨n - 1, by omega⟩
  rw [bX.l0, if_neg (by omega), List.drop_eq_nil_of_le (by omega)]
  simp only [Option.bind_some]
  cases h : b.drop i with
  | nil =>
   have : b.length ≤ i := List.drop_eq_nil_iff.1 h
   rw [if_neg (by omega)]; rfl
  | cons y ys =>
   have : i < b.length := by
    rcases Nat.lt_or_ge i b.length with h1 | h1
    ·exact h1
    ·rw [List.drop_eq_nil_of_le h1] at h; cases h
   rw [if_pos (by omega)]; rfl
 | succ d ih =>
  intro n i hi hb hn
  obtain ⟨n, rfl⟩ : ∃ m, n = m + 1 := ⟨n - 1, by omega⟩
  have hlt : i < a.length := by omega
  rw [bX.l0, if_pos (by omega), List.drop_eq_getElem_cons hlt, ae (by omega), Int.toNat_natCast, List.getElem?_eq_getElem hlt]
  simp only [Option.bind_some]
  by_cases h : i < b.length
  ·rw [if_pos (by omega), ae (by omega), List.getElem?_eq_getElem h, List.drop_eq_getElem_cons h]
   simp only [Option.bind_some, cF, BI]
   by_cases h1 : a[i] < b[i]
   ·rw [if_pos h1, if_pos h1, if_neg (by decide)]; rfl
   ·rw [if_neg h1, if_neg h1]
    by_cases h2 : b[i] < a[i]
    ·rw [if_pos h2, if_pos h2, if_neg (by decide)]; rfl
    ·rw [if_neg h2, if_neg h2, if_pos rfl, wrS i (by omega)]
     exact ih n (i + 1) (by omega) (by omega) (by omega)
  ·rw [if_neg (by omega), List.drop_eq_nil_of_le (show b.length ≤ i by omega)]
   simp only [Option.bind_some, cF]
theorem wF (a b : List Int) (ha : a.length < 4611686018427387904) (k : Nat) (hk : a.length + 1 ≤ k) : bX.f k a b = some (cF a b) := by
 unfold bX.f
 have := uK k a b ha a.length k 0 (by omega) (by omega) (by omega)
 rw [show ((0 : Nat) : Int) = 0 from rfl] at this
 exact this
def sgn (b : Bool) : Int := if b then -1 else 1
def cx (a b : GOcc) : Int := if a.To = b.To then (if a.From = b.From then cF a.Ids b.Ids else sgn (decide (a.From < b.From))) else sgn (decide (a.To < b.To))
def bG (a b : GOcc) : Bool := decide (cx a b < 0)
theorem jZ (a : GOcc) : cx a a = 0 := by simp [cx, qC]
theorem jk (a b : GOcc) (ha : a.Ids.length < 4611686018427387904) (k : Nat) (hk : a.Ids.length + 1 ≤ k) : cm.f k a b = some (cx a b) := by
 unfold cm.f cx kw.f sgn
 rw [wF _ _ ha k hk]
 split
 ·split
  ·rfl
  ·by_cases h : a.From < b.From <;> simp [h]
 ·by_cases h : a.To < b.To <;> simp [h]
theorem rJ (a b : GOcc) (ha : a.Ids.length < 4611686018427387904) (k : Nat) (hk : a.Ids.length + 1 ≤ k) : gQ.f k a b = some (bG a b) := by
 unfold gQ.f
 rw [jk a b ha k hk]; rfl
/-- numbers that rise from above p, below 24 -/
def fY : Int → List Int → Bool
 | _, [] => true
 | p, x :: xs => decide (p < x) && decide (x ≤ 23) && fY x xs
theorem ux : ∀ (l : List Int) (p : Int), -1 ≤ p → p ≤ 23 → fY p l = true → (l.length : Int) ≤ 23 - p
 | [], p, _, h, _ => by simp; omega
 | x :: xs, p, h0, h1, h => by
  simp only [fY, Bool.and_eq_true, decide_eq_true_eq] at h
  have := ux xs x (by omega) (by omega) h.2
  simp only [List.length_cons]; push_cast; omega
def eK (o : GOcc) : Bool := decide (1 ≤ o.From) && decide (o.From ≤ o.To) && decide (o.To ≤ 2000) && decide (1 ≤ o.Ids.length) && fY (-1) o.Ids
theorem sn (k : Nat) (o : GOcc) (hl : o.Ids.length < 4611686018427387904) : ∀ (d n i : Nat) (p : Int), i + d = o.Ids.length → d < n → -1 ≤ p → p ≤ 23 →
  cM.l0 k o n p (i : Int) = some (if fY p (o.Ids.drop i) then .ok () else .error false) := by
 intro d
 induction d with
 | zero =>
  intro n i p hi hn _ _
  obtain ⟨n, rfl⟩ : ∃ m, n = m + 1 := ⟨n - 1, by omega⟩
  rw [cM.l0, if_neg (by omega), List.drop_eq_nil_of_le (by omega)]; rfl
 | succ d ih =>
  intro n i p hi hn h0 h1
  obtain ⟨n, rfl⟩ : ∃ m, n = m + 1 := ⟨n - 1, by omega⟩
  have hlt : i < o.Ids.length := by omega
  rw [cM.l0, if_pos (by omega), ae (by omega), Int.toNat_natCast, List.getElem?_eq_getElem hlt, List.drop_eq_getElem_cons hlt]
  simp only [Option.bind_some, dH]
  rw [wr (p + 1) (by omega)]
  by_cases h : p < o.Ids[i] ∧ o.Ids[i] ≤ 23
  ·have e : (decide (p + 1 ≤ o.Ids[i]) && decide (o.Ids[i] ≤ 23)) = true := by simp; omega
   have e2 : fY p (o.Ids[i] :: o.Ids.drop (i + 1)) = fY o.Ids[i] (o.Ids.drop (i + 1)) := by simp [fY, h.1, h.2]
   rw [if_pos e, wrS i (by omega), ih n (i + 1) _ (by omega) (by omega) (by omega) (by omega), e2]
  ·have e : ¬ (decide (p + 1 ≤ o.Ids[i]) && decide (o.Ids[i] ≤ 23)) = true := by simp; omega
   rw [if_neg e]
   have e2 : fY p (o.Ids[i] :: o.Ids.drop (i + 1)) = false := by
    have : (decide (p < o.Ids[i]) && decide (o.Ids[i] ≤ 23)) = false := by
     rw [Bool.eq_false_iff]; simpa using h
    show (decide (p < o.Ids[i]) && decide (o.Ids[i] ≤ 23) && _) = false
    rw [this]; rfl
   rw [e2]; rfl
theorem oC (o : GOcc) (hl : o.Ids.length < 4611686018427387904) (k : Nat) (hk : o.Ids.length + 1 ≤ k) : cM.f k o = some (eK o) := by
 unfold cM.f eK
 have := sn k o hl o.Ids.length k 0 (-1) (by omega) (by omega) (by omega) (by omega)
 rw [show ((0 : Nat) : Int) = 0 from rfl, List.drop_zero] at this
 rw [this]
 cases fY (-1) o.Ids
 ·simp
 ·simp only [if_true, Option.bind_some, Bool.and_true, dH]
  by_cases h1 : o.From < 1
  ·rw [if_pos h1]; have : ¬ 1 ≤ o.From := by omega
   simp [this]
  ·rw [if_neg h1]
   have e1 : 1 ≤ o.From := by omega
   by_cases h2 : o.From ≤ o.To ∧ o.To ≤ 2000
   ·simp only [h2.1, h2.2, e1, decide_true, Bool.and_true, if_true, Bool.true_and, Option.some.injEq]
    rw [Bool.eq_iff_iff]; simp; omega
   ·have : (decide (o.From ≤ o.To) && decide (o.To ≤ 2000)) = false := by rw [Bool.eq_false_iff]; simpa using h2
    rw [Bool.and_assoc (decide (1 ≤ o.From)), this]
    simp
def jO (l : List GOcc) (a : GOcc) : Nat → Bool
 | 0 => true
 | j + 1 => match l[j]? with
  | some d => bG d a
  | none => false
def jI (l : List GOcc) (i : Nat) : Bool := match l[i]? with
 | some e => eK e && jO l e i
 | none => false
def da (l : List GOcc) : Bool := (List.range' 0 l.length).all (jI l) && decide (l.length ≤ 40)
def vm (l : List GOcc) (m : Nat) : Prop := ∀ o ∈ l, o.Ids.length ≤ m
theorem qU (k : Nat) (l : List GOcc) (hl : l.length < 4611686018427387904) (m : Nat) (hm : vm l m) (hm2 : m < 4611686018427387904) (hk : m + 1 ≤ k) : ∀ (d n i : Nat), i + d = l.length → d < n →
  bw.l0 k l n (i : Int) = some (if (List.range' i d).all (jI l) then .ok () else .error false) := by
 intro d
 induction d with
 | zero =>
  intro n i hi hn
  obtain ⟨n, rfl⟩ : ∃ m, n = m + 1 := ⟨n - 1, by omega⟩
  rw [bw.l0, if_neg (by omega)]; simp
 | succ d ih =>
  intro n i hi hn
  obtain ⟨n, rfl⟩ : ∃ m, n = m + 1 := ⟨n - 1, by omega⟩
  have hlt : i < l.length := by omega
  have hnext := ih n (i + 1) (by omega) (by omega)
  have hb := hm l[i] (List.getElem_mem hlt)
  rw [bw.l0, if_pos (by omega), ae (by omega), Int.toNat_natCast, List.getElem?_eq_getElem hlt]
  simp only [Option.bind_some, oC l[i] (by omega) k (by omega), List.range'_succ, List.all_cons]
  have hg : jI l i = (eK l[i] && jO l l[i] i) := by unfold jI; rw [List.getElem?_eq_getElem hlt]
  rw [hg]
  cases hok : eK l[i]
  ·simp
  ·cases i with
   | zero => simp only [if_true]; rw [if_neg (by omega), wrS 0 (by omega), hnext]; simp only [jO, Bool.true_and]
   | succ j =>
    simp only [if_true]
    have hb2 := hm l[j] (List.getElem_mem (by omega))
    rw [if_pos (by omega)]
    simp only [wrP j (by omega)]
    rw [ae (by omega), Int.toNat_natCast, List.getElem?_eq_getElem (show j < l.length by omega)]
    simp only [Option.bind_some, rJ l[j] l[j + 1] (by omega) k (by omega)]
    have hp : jO l l[j + 1] (j + 1) = bG l[j] l[j + 1] := by simp only [jO, List.getElem?_eq_getElem (show j < l.length by omega)]
    rw [hp]
    cases bG l[j] l[j + 1]
    ·simp
    ·simp only [if_true]; rw [wrS (j + 1) (by omega), hnext]; simp only [Bool.true_and]
theorem tM (l : List GOcc) (hl : l.length < 4611686018427387904) (m : Nat) (hm : vm l m) (hm2 : m < 4611686018427387904) (k : Nat) (hk : m + l.length + 1 ≤ k) : bw.f k l = some (da l) := by
 unfold bw.f da
 have := qU k l hl m hm hm2 (by omega) l.length k 0 (by omega) (by omega)
 rw [show ((0 : Nat) : Int) = 0 from rfl] at this
 rw [this]
 cases (List.range' 0 l.length).all (jI l)
 ·simp
 ·simp only [if_true, Option.bind_some, Bool.true_and, Option.some.injEq]
  rw [Bool.eq_iff_iff]; simp; omega
theorem kZ {l : List GOcc} (h : da l = true) : l.length ≤ 40 := by unfold da at h; simp at h; exact h.2
theorem ut {l : List GOcc} (h : da l = true) {i : Nat} (hi : i < l.length) : eK l[i] = true ∧ jO l l[i] i = true := by
 unfold da at h
 simp only [Bool.and_eq_true, List.all_eq_true, List.mem_range'] at h
 have := h.1 i ⟨i, by omega, by omega⟩
 unfold jI at this
 rw [List.getElem?_eq_getElem hi] at this
 simpa using this
theorem yA {o : GOcc} (h : eK o = true) : o.Ids.length ≤ 24 ∧ 1 ≤ o.From ∧ o.From ≤ o.To ∧ o.To ≤ 2000 := by
 unfold eK at h
 simp only [Bool.and_eq_true, decide_eq_true_eq] at h
 have := ux o.Ids (-1) (by omega) (by omega) h.2
 omega
theorem xL {l : List GOcc} (h : da l = true) : ∀ o ∈ l, o.Ids.length ≤ 24 ∧ 1 ≤ o.From ∧ o.From ≤ o.To ∧ o.To ≤ 2000 := fun o ho => by
 obtain ⟨i, hi, rfl⟩ := List.mem_iff_getElem.1 ho
 exact yA (ut h hi).1
theorem qw : ∀ a b, cF a b = 0 → a = b
 | [], [], _ => rfl
 | [], _ :: _, h => by simp [cF] at h
 | _ :: _, [], h => by simp [cF] at h
 | x :: xs, y :: ys, h => by
  unfold cF at h
  split at h
  ·cases h
  split at h
  ·cases h
  rw [qw xs ys h, show x = y by omega]
theorem qt : ∀ a b, cF a b = - cF b a
 | [], [] => rfl
 | [], _ :: _ => rfl
 | _ :: _, [] => rfl
 | x :: xs, y :: ys => by
  unfold cF
  by_cases h1 : x < y
  ·rw [if_pos h1, if_neg (by omega), if_pos h1]
  by_cases h2 : y < x
  ·rw [if_neg h1, if_pos h2, if_pos h2]; rfl
  rw [if_neg h1, if_neg h2, if_neg h2, if_neg h1]; exact qt xs ys
theorem o9 : ∀ a b c, cF a b < 0 → cF b c < 0 → cF a c < 0
 | [], [], _, h, _ => by simp [cF] at h
 | _ :: _, [], _, h, _ => by simp [cF] at h
 | _, _ :: _, [], _, h => by simp [cF] at h
 | [], _ :: _, _ :: _, _, _ => by simp [cF]
 | x :: xs, y :: ys, z :: zs, h, k => by
  unfold cF at h k ⊢
  by_cases h1 : x < y
  ·by_cases k1 : y < z
   ·rw [if_pos (by omega)]; omega
   ·rw [if_neg k1] at k
    split at k
    ·omega
    ·rw [if_pos (by omega)]; omega
  ·rw [if_neg h1] at h
   split at h
   ·omega
   ·by_cases k1 : y < z
    ·rw [if_pos (by omega)]; omega
    ·rw [if_neg k1] at k
     split at k
     ·omega
     ·rw [if_neg (by omega), if_neg (by omega)]; exact o9 xs ys zs h k
theorem mu {a b : GOcc} (h : cx a b = 0) : a = b := by
 unfold cx at h
 split at h
 ·split at h
  ·obtain ⟨a1, a2, a3⟩ := a; obtain ⟨b1, b2, b3⟩ := b
   have := qw _ _ h
   simp_all
  ·unfold sgn at h; split at h <;> cases h
 ·unfold sgn at h; split at h <;> cases h
theorem wN (a b : GOcc) : cx a b = - cx b a := by
 unfold cx sgn
 by_cases h1 : a.To = b.To
 ·rw [if_pos h1, if_pos h1.symm]
  by_cases h2 : a.From = b.From
  ·rw [if_pos h2, if_pos h2.symm]; exact qt _ _
  ·rw [if_neg h2, if_neg (show ¬ b.From = a.From from fun e => h2 e.symm)]
   by_cases h3 : a.From < b.From
   ·have : ¬ b.From < a.From := by omega
    simp [h3, this]
   ·have : b.From < a.From := by omega
    simp [h3, this]
 ·rw [if_neg h1, if_neg (show ¬ b.To = a.To from fun e => h1 e.symm)]
  by_cases h3 : a.To < b.To
  ·have : ¬ b.To < a.To := by omega
   simp [h3, this]
  ·have : b.To < a.To := by omega
   simp [h3, this]
theorem uI (a b : GOcc) : cx a b < 0 ↔ a.To < b.To ∨ (a.To = b.To ∧ (a.From < b.From ∨ (a.From = b.From ∧ cF a.Ids b.Ids < 0))) := by
 unfold cx sgn
 by_cases h1 : a.To = b.To
 ·rw [if_pos h1]
  by_cases h2 : a.From = b.From
  ·rw [if_pos h2]; simp [h1, h2]
  ·rw [if_neg h2]
   by_cases h3 : a.From < b.From
   ·simp [h1, h3]
   ·simp [h1, h2, h3]
 ·rw [if_neg h1]
  by_cases h3 : a.To < b.To
  ·simp [h3]
  ·simp [h1, h3]
theorem om {a b c : GOcc} (h : bG a b = true) (k : bG b c = true) : bG a c = true := by
 unfold bG at *
 simp only [decide_eq_true_eq] at *
 rw [uI] at *
 rcases h with h | ⟨h1, h⟩
 ·rcases k with k | ⟨k1, k⟩
  ·exact .inl (by omega)
  ·exact .inl (by omega)
 ·rcases k with k | ⟨k1, k⟩
  ·exact .inl (by omega)
  ·refine .inr ⟨by omega, ?_⟩
   rcases h with h | ⟨h2, h⟩
   ·rcases k with k | ⟨k2, k⟩
    ·exact .inl (by omega)
    ·exact .inl (by omega)
   ·rcases k with k | ⟨k2, k⟩
    ·exact .inl (by omega)
    ·exact .inr ⟨by omega, o9 _ _ _ h k⟩
theorem tZ (a : GOcc) : bG a a = false := by unfold bG; rw [jZ]; rfl
theorem uO {a b : GOcc} (h : bG a b = false) (hne : a ≠ b) : bG b a = true := by
 unfold bG at *
 simp only [decide_eq_true_eq, decide_eq_false_iff_not] at *
 have := wN a b
 have : cx a b ≠ 0 := fun e => hne (mu e)
 omega
/-- an ordered list -/
def Asc (l : List GOcc) : Prop := l.Pairwise fun a b => bG a b = true
def bZ : List GOcc → GOcc → List GOcc
 | [], o => [o]
 | x :: l, o => if bG x o then x :: bZ l o else if cx x o = 0 then x :: l else o :: x :: l
def bQ (l m : List GOcc) : List GOcc := m.foldl bZ l
theorem eC {x o : GOcc} : ∀ {l : List GOcc}, x ∈ bZ l o ↔ x ∈ l ∨ x = o
 | [] => by simp [bZ]
 | y :: l => by
  unfold bZ
  split
  ·simp only [List.mem_cons, eC (l := l), or_assoc]
  ·split
   ·rename_i h
    have := mu h
    subst this
    simp only [List.mem_cons]
    constructor
    ·exact fun h => .inl h
    ·rintro (h | rfl)
     ·exact h
     ·exact .inl rfl
   ·simp only [List.mem_cons]
    constructor
    ·rintro (h | h)
     ·exact .inr h
     ·exact .inl h
    ·rintro (h | h)
     ·exact .inr h
     ·exact .inl h
theorem jY {o : GOcc} : ∀ {l : List GOcc}, Asc l → Asc (bZ l o)
 | [], _ => by simp [bZ, Asc]
 | y :: l, h => by
  have h' := List.pairwise_cons.1 h
  unfold bZ
  split
  ·rename_i h1
   refine List.pairwise_cons.2 ⟨fun z hz => ?_, jY h'.2⟩
   rcases eC.1 hz with h2 | rfl
   ·exact h'.1 z h2
   ·exact h1
  ·split
   ·exact h
   ·rename_i h1 h2
    have h3 : bG o y = true := uO (by simpa using h1) (fun e => h2 (by rw [e]; exact jZ _))
    refine List.pairwise_cons.2 ⟨fun z hz => ?_, h⟩
    rcases List.mem_cons.1 hz with rfl | h4
    ·exact h3
    ·exact om h3 (h'.1 z h4)
theorem gv (o : GOcc) : ∀ l : List GOcc, (bZ l o).length ≤ l.length + 1
 | [] => by simp [bZ]
 | y :: l => by
  have := gv o l
  unfold bZ
  split
  ·simp; omega
  ·split <;> simp
theorem mK (l : List GOcc) (x : GOcc) (m : List GOcc) : bQ l (x :: m) = bQ (bZ l x) m := rfl
theorem eh : ∀ {m l : List GOcc}, Asc l → Asc (bQ l m)
 | [], _, h => h
 | x :: m, l, h => by rw [mK]; exact eh (jY h)
theorem cf : ∀ (m l : List GOcc), (bQ l m).length ≤ l.length + m.length
 | [], _ => by simp [bQ]
 | x :: m, l => by rw [mK]; have := cf m (bZ l x); have := gv x l; simp; omega
theorem ju {x : GOcc} : ∀ {m l : List GOcc}, x ∈ bQ l m ↔ x ∈ l ∨ x ∈ m
 | [], l => by simp [bQ]
 | y :: m, l => by rw [mK, ju, eC, List.mem_cons, or_assoc]
/-- where one stands or would stand -/
def ck (l : List GOcc) (o : GOcc) : Nat := (l.takeWhile fun x => bG x o).length
theorem ua (l : List GOcc) (o : GOcc) : ck l o ≤ l.length := by unfold ck; exact (List.takeWhile_prefix _).length_le
theorem oK (o : GOcc) : ∀ l : List GOcc, bZ l o = if ∃ x, l[ck l o]? = some x ∧ cx x o = 0 then l else l.take (ck l o) ++ [o] ++ l.drop (ck l o)
 | [] => by simp [bZ, ck]
 | y :: l => by
  unfold bZ
  by_cases h : bG y o = true
  ·have e : ck (y :: l) o = ck l o + 1 := by unfold ck; rw [List.takeWhile_cons, if_pos h]; rfl
   rw [if_pos h, e, oK o l]
   simp only [List.getElem?_cons_succ, List.take_succ_cons, List.drop_succ_cons]
   split <;> rfl
  ·have e : ck (y :: l) o = 0 := by unfold ck; rw [List.takeWhile_cons, if_neg h]; rfl
   rw [if_neg h, e]
   simp only [List.getElem?_cons_zero, List.take_zero, List.drop_zero, Option.some.injEq, exists_eq_left']
   rfl
theorem pn {o : GOcc} : ∀ {l : List GOcc} {i : Nat}, i < ck l o → ∃ x, l[i]? = some x ∧ bG x o = true
 | [], i, h => by simp [ck] at h
 | y :: l, i, h => by
  by_cases hy : bG y o = true
  ·have e : ck (y :: l) o = ck l o + 1 := by unfold ck; rw [List.takeWhile_cons, if_pos hy]; rfl
   cases i with
   | zero => exact ⟨y, rfl, hy⟩
   | succ i => rw [e] at h; exact pn (l := l) (i := i) (by omega)
  ·have e : ck (y :: l) o = 0 := by unfold ck; rw [List.takeWhile_cons, if_neg hy]; rfl
   rw [e] at h; omega
theorem vY {l : List GOcc} {o : GOcc} (h : ck l o < l.length) : bG l[ck l o] o = false := by
 induction l with
 | nil => simp at h
 | cons y l ih =>
  by_cases hy : bG y o = true
  ·have e : ck (y :: l) o = ck l o + 1 := by unfold ck; rw [List.takeWhile_cons, if_pos hy]; rfl
   have := ih (by rw [e] at h; simpa using h)
   simp only [e, List.getElem_cons_succ]
   exact this
  ·have e : ck (y :: l) o = 0 := by unfold ck; rw [List.takeWhile_cons, if_neg hy]; rfl
   simp only [e, List.getElem_cons_zero]
   simpa using hy
theorem Cb {l : List GOcc} {o : GOcc} (hs : Asc l) {i : Nat} (h1 : ck l o ≤ i) (h2 : i < l.length) : bG l[i] o = false := by
 have h3 := vY (l := l) (o := o) (by omega)
 rcases Nat.lt_or_ge (ck l o) i with h4 | h4
 ·have h5 : bG l[ck l o] l[i] = true := List.pairwise_iff_getElem.1 hs _ _ _ _ h4
  cases h6 : bG l[i] o
  ·rfl
  ·rw [om h5 h6] at h3; cases h3
 ·have : i = ck l o := by omega
  subst this; exact h3
/-- a loop over a list -/
theorem zr {α σ : Type} (l : List α) (body : σ → α → Option σ) (L : Nat → σ → Int → Option σ) (g : σ → α → σ) (Inv : Nat → σ → Prop)
  (hend : ∀ n s, L (n + 1) s (l.length : Int) = some s)
  (hstep : ∀ n s (i : Nat) (h : i < l.length), L (n + 1) s (i : Int) = (body s l[i]).bind fun s' => L n s' ((i + 1 : Nat) : Int))
  (hbody : ∀ i s (h : i < l.length), Inv i s → body s l[i] = some (g s l[i]) ∧ Inv (i + 1) (g s l[i])) :
  ∀ (d i n : Nat) (s : σ), i + d = l.length → d < n → Inv i s → L n s (i : Int) = some ((l.drop i).foldl g s) ∧ Inv l.length ((l.drop i).foldl g s) := by
 intro d
 induction d with
 | zero =>
  intro i n s hi hn hI
  obtain ⟨n, rfl⟩ : ∃ m, n = m + 1 := ⟨n - 1, by omega⟩
  have e : i = l.length := by omega
  subst e
  rw [hend, List.drop_length]
  exact ⟨rfl, hI⟩
 | succ d ih =>
  intro i n s hi hn hI
  obtain ⟨n, rfl⟩ : ∃ m, n = m + 1 := ⟨n - 1, by omega⟩
  have hlt : i < l.length := by omega
  obtain ⟨h1, h2⟩ := hbody i s hlt hI
  rw [hstep n s i hlt, h1, List.drop_eq_getElem_cons hlt]
  exact ih (i + 1) n _ (by omega) (by omega) h2
theorem eS {α σ : Type} (l : List α) (body : σ → α → Option σ) (L : Nat → σ → Int → Option σ) (g : σ → α → σ) (Inv : Nat → σ → Prop)
  (hend : ∀ n s, L (n + 1) s (l.length : Int) = some s)
  (hstep : ∀ n s (i : Nat) (h : i < l.length), L (n + 1) s (i : Int) = (body s l[i]).bind fun s' => L n s' ((i + 1 : Nat) : Int))
  (hbody : ∀ i s (h : i < l.length), Inv i s → body s l[i] = some (g s l[i]) ∧ Inv (i + 1) (g s l[i])) (n : Nat) (s : σ) (hn : l.length < n) (hI : Inv 0 s) :
  L n s 0 = some (l.foldl g s) ∧ Inv l.length (l.foldl g s) := by
 have := zr l body L g Inv hend hstep hbody l.length 0 n s (by omega) hn hI
 simpa using this
/-- the numbers of one are few -/
abbrev Few (o : GOcc) : Prop := o.Ids.length ≤ 1000
abbrev iV (l : List GOcc) : Prop := ∀ o ∈ l, Few o
theorem A3 (a b : GOcc) (ha : Few a) (k : Nat) (hk : 1000000000000 ≤ k) : cm.f k a b = some (cx a b) := jk a b (by omega) k (by omega)
theorem BT (a b : Nat) (h : a + b < 1000000000000000) : IntKind.wrap .i64 (cE .shr .u64 (IntKind.wrap .u64 (IntKind.wrap .i64 ((a : Int) + (b : Int)))) 1) = (((a + b) / 2 : Nat) : Int) := by
 rw [show IntKind.wrap .i64 ((a : Int) + (b : Int)) = (a : Int) + (b : Int) from wr _ (by omega)]
 have e : IntKind.wrap .u64 ((a : Int) + (b : Int)) = (a : Int) + (b : Int) := by
  show ((a : Int) + (b : Int)) % 18446744073709551616 = _
  exact Int.emod_eq_of_lt (by omega) (by omega)
 rw [e]
 have e2 : cE .shr .u64 ((a : Int) + (b : Int)) 1 = ((a : Int) + (b : Int)).fdiv 2 := rfl
 rw [e2, Int.fdiv_eq_ediv_of_nonneg _ (by omega), wr _ (by omega)]
 omega
theorem Bh (k : Nat) (hk : 1000000000000 ≤ k) (l : List GOcc) (o : GOcc) (hl : l.length ≤ 1000000000000) (hf : iV l) (hs : Asc l) : ∀ (d a b n : Nat), b - a ≤ d → a ≤ ck l o → ck l o ≤ b → b ≤ l.length → d < n →
  aI.l0 k (fun y0 y1 => cm.f k y0 y1) l o n (a : Int) (b : Int) = some ((ck l o : Nat) : Int) := by
 intro d
 induction d with
 | zero =>
  intro a b n h1 h2 h3 h4 hn
  obtain ⟨n, rfl⟩ : ∃ m, n = m + 1 := ⟨n - 1, by omega⟩
  rw [aI.l0, if_neg (by omega), show a = ck l o by omega]
 | succ d ih =>
  intro a b n h1 h2 h3 h4 hn
  obtain ⟨n, rfl⟩ : ∃ m, n = m + 1 := ⟨n - 1, by omega⟩
  by_cases h : a < b
  ·have hm : (a + b) / 2 < l.length := by omega
   rw [aI.l0, if_pos (by omega), BT a b (by omega), ae (by omega), ae (by omega), Int.toNat_natCast, List.getElem?_eq_getElem hm]
   simp only [Option.bind_some, A3 _ o (hf _ (List.getElem_mem hm)) k hk]
   by_cases hc : cx l[(a + b) / 2] o < 0
   ·rw [if_pos hc, wrS _ (by omega)]
    refine ih _ b n (by omega) ?_ h3 h4 (by omega)
    rcases Nat.lt_or_ge ((a + b) / 2) (ck l o) with h5 | h5
    ·omega
    ·have := Cb hs h5 hm
     unfold bG at this
     simp at this
     omega
   ·rw [if_neg hc]
    refine ih a _ n (by omega) h2 ?_ (by omega) (by omega)
    rcases Nat.lt_or_ge ((a + b) / 2) (ck l o) with h5 | h5
    ·obtain ⟨x, e1, e2⟩ := pn h5
     rw [List.getElem?_eq_getElem hm, Option.some.injEq] at e1
     subst e1
     unfold bG at e2
     simp at e2
     omega
    ·exact h5
  ·rw [aI.l0, if_neg (by omega), show a = ck l o by omega]
theorem xH (k : Nat) (hk : 1000000000000 ≤ k) (l : List GOcc) (o : GOcc) (hl : l.length ≤ 100000000000) (hf : iV l) (hs : Asc l) :
  aI.f (fun y0 y1 => cm.f k y0 y1) k l o = some (((ck l o : Nat) : Int), decide (∃ x, l[ck l o]? = some x ∧ cx x o = 0)) := by
 unfold aI.f
 have hr := ua l o
 have := Bh k hk l o (by omega) hf hs l.length 0 l.length k (by omega) (by omega) hr (Nat.le_refl _) (by omega)
 rw [show ((0 : Nat) : Int) = 0 from rfl] at this
 rw [this]
 simp only [Option.bind_some]
 by_cases h : ck l o < l.length
 ·rw [if_pos (by omega), ae (by omega), Int.toNat_natCast, List.getElem?_eq_getElem h]
  simp only [Option.bind_some, A3 _ o (hf _ (List.getElem_mem h)) k hk, Option.some.injEq, Prod.mk.injEq, true_and]
  rw [Bool.eq_iff_iff]
  simp
 ·rw [if_neg (by omega), List.getElem?_eq_none (by omega)]
  simp
theorem iF (k : Nat) (hk : 1000000000000 ≤ k) (l : List GOcc) (o : GOcc) (hl : l.length ≤ 100000000000) (hf : iV l) (hs : Asc l) : dB.f k l o = some (bZ l o) := by
 unfold dB.f
 rw [xH k hk l o hl hf hs]
 simp only [Option.bind_some]
 have hr := ua l o
 by_cases h : ∃ x, l[ck l o]? = some x ∧ cx x o = 0
 ·rw [if_pos (by simpa using h), oK, if_pos h]
 ·rw [if_neg (by simpa using h), oK, if_neg h]
  unfold jz.f gm.f
  rw [ae (by omega)]
  simp only [Option.bind_some]
  rw [ae (by omega), ae (by omega), ae (show [o].length = 1 from rfl), ae (by omega)]
  rfl
theorem pV (o : GOcc) (h : Few o) : dr.f o = some o := by
 unfold dr.f; exact ae (by omega)
theorem y3 {l : List GOcc} {o : GOcc} (h : iV l) (ho : Few o) : iV (bZ l o) := fun x hx => by
 rcases eC.1 hx with h1 | rfl
 ·exact h x h1
 ·exact ho
theorem bY (k : Nat) (hk : 1000000000000 ≤ k) (l m : List GOcc) (hl : l.length + m.length ≤ 90000000000) (hf : iV l) (hm : iV m) (hs : Asc l) : aO.f k l m = some (bQ l m) := by
 unfold aO.f
 have := eS m (fun s e => dB.f k s e) (aO.l0 k m) bZ (fun i s => s.length ≤ l.length + i ∧ iV s ∧ Asc s)
  (fun n s => by rw [aO.l0, if_neg (by omega)])
  (fun n s i h => by rw [aO.l0, if_pos (by omega), ae (by omega), Int.toNat_natCast, List.getElem?_eq_getElem h]; simp only [Option.bind_some]; rw [wrS i (by omega)])
  (fun i s h hI => ⟨iF k hk s _ (by omega) hI.2.1 hI.2.2, by have := gv m[i] s; omega, y3 hI.2.1 (hm _ (List.getElem_mem h)), jY hI.2.2⟩)
  k l (by omega) ⟨by omega, hf, hs⟩
 rw [this.1]; rfl
theorem zm {α : Type} (l acc : List α) : l.foldl (fun s e => s ++ [e]) acc = acc ++ l := by
 induction l generalizing acc with
 | nil => simp
 | cons x l ih => rw [List.foldl_cons, ih]; simp
theorem qh (k : Nat) (hk : 1000000000000 ≤ k) (l : List GOcc) (hl : l.length ≤ 90000000000) (hf : iV l) : bc.f k l = some l := by
 unfold bc.f
 have := eS l (fun s e => (dr.f e).bind fun x28 => (req ((s.length + 1) * 40 ≤ 140737488355328) (some (s ++ [x28])))) (bc.l0 k l) (fun s e => s ++ [e]) (fun i s => s.length = i)
  (fun n s => by rw [bc.l0, if_neg (by omega)])
  (fun n s i h => by
   rw [bc.l0, if_pos (by omega), ae (by omega), Int.toNat_natCast, List.getElem?_eq_getElem h]; simp only [Option.bind_some]; rw [wrS i (by omega), pV _ (hf _ (List.getElem_mem h))]; simp only [Option.bind_some]
   unfold req; split <;> rfl)
  (fun i s h hI => ⟨by rw [pV _ (hf _ (List.getElem_mem h))]; simp only [Option.bind_some]; rw [ae (by omega)], by simp [hI]⟩)
  k [] (by omega) rfl
 rw [this.1, zm]; rfl
theorem sj {l : List GOcc} (h : da l = true) : iV l := fun o ho => by have := xL h o ho; omega
/-- what stands in both programs for a list that was handed on -/
def Small (l : List GOcc) : Prop := l.length ≤ 40000000000 ∧ iV l
theorem y6 (k : Nat) (hk : 1000000000000 ≤ k) (l : List GOcc) (h : Small l) : bw.f k l = some (da l) := tM l (by have := h.1; omega) 1000 h.2 (by omega) k (by have := h.1; omega)
/-- numbers that rise -/
abbrev Up (l : List Int) : Prop := l.Pairwise fun a b => a < b
theorem yR : ∀ {a b : List Int}, Up a → Up b → (∀ x, x ∈ a ↔ x ∈ b) → a = b
 | [], [], _, _, _ => rfl
 | [], y :: b, _, _, h => by have := (h y).2 (by simp); simp at this
 | x :: a, [], _, _, h => by have := (h x).1 (by simp); simp at this
 | x :: a, y :: b, ha, hb, h => by
  obtain ⟨a1, a2⟩ := List.pairwise_cons.1 ha
  obtain ⟨b1, b2⟩ := List.pairwise_cons.1 hb
  have e : x = y := by
   have h1 := (h x).1 (by simp)
   have h2 := (h y).2 (by simp)
   rcases List.mem_cons.1 h1 with h1 | h1
   ·exact h1
   ·rcases List.mem_cons.1 h2 with h2 | h2
    ·exact h2.symm
    ·have := b1 x h1; have := a1 y h2; omega
  subst e
  rw [yR a2 b2 fun z => ?_]
  have hz := h z
  simp only [List.mem_cons] at hz
  constructor
  ·intro h1
   rcases hz.1 (.inr h1) with h2 | h2
   ·have := a1 z h1; omega
   ·exact h2
  ·intro h1
   rcases hz.2 (.inr h1) with h2 | h2
   ·have := b1 z h1; omega
   ·exact h2
def dV : List Int → List Int → List Int
 | [], b => b
 | x :: a, [] => x :: a
 | x :: a, y :: b => if x < y then x :: dV a (y :: b) else if x = y then y :: dV a b else y :: dV (x :: a) b
termination_by a b => a.length + b.length
theorem dP {z : Int} : ∀ {a b : List Int}, z ∈ dV a b ↔ z ∈ a ∨ z ∈ b
 | [], b => by simp [dV]
 | x :: a, [] => by simp [dV]
 | x :: a, y :: b => by
  unfold dV
  split
  ·simp only [List.mem_cons, dP (a := a) (b := y :: b), or_assoc]
  ·split
   ·rename_i h
    subst h
    simp only [List.mem_cons, dP (a := a) (b := b)]
    constructor
    ·rintro (h | h | h)
     ·exact .inl (.inl h)
     ·exact .inl (.inr h)
     ·exact .inr (.inr h)
    ·rintro ((h | h) | (h | h))
     ·exact .inl h
     ·exact .inr (.inl h)
     ·exact .inl h
     ·exact .inr (.inr h)
   ·simp only [List.mem_cons, dP (a := x :: a) (b := b)]
    constructor
    ·rintro (h | h | h)
     ·exact .inr (.inl h)
     ·exact .inl h
     ·exact .inr (.inr h)
    ·rintro (h | h | h)
     ·exact .inr (.inl h)
     ·exact .inl h
     ·exact .inr (.inr h)
termination_by a b => a.length + b.length
theorem kE : ∀ {a b : List Int}, Up a → Up b → Up (dV a b)
 | [], b, _, h => by simpa [dV] using h
 | x :: a, [], h, _ => by simpa [dV] using h
 | x :: a, y :: b, ha, hb => by
  obtain ⟨a1, a2⟩ := List.pairwise_cons.1 ha
  obtain ⟨b1, b2⟩ := List.pairwise_cons.1 hb
  unfold dV
  split
  ·refine List.pairwise_cons.2 ⟨fun z hz => ?_, kE a2 hb⟩
   rcases dP.1 hz with h | h
   ·exact a1 z h
   ·rcases List.mem_cons.1 h with rfl | h
    ·assumption
    ·have := b1 z h; omega
  ·split
   ·rename_i h1 h2
    refine List.pairwise_cons.2 ⟨fun z hz => ?_, kE a2 b2⟩
    rcases dP.1 hz with h | h
    ·have := a1 z h; omega
    ·exact b1 z h
   ·refine List.pairwise_cons.2 ⟨fun z hz => ?_, kE ha b2⟩
    rcases dP.1 hz with h | h
    ·rcases List.mem_cons.1 h with rfl | h
     ·omega
     ·have := a1 z h; omega
    ·exact b1 z h
termination_by a b => a.length + b.length
theorem qI {z : Int} : ∀ {l : List Int}, z ∈ uniq l ↔ z ∈ l
 | [] => by simp [uniq]
 | [x] => by simp [uniq]
 | x :: y :: l => by
  have ih := qI (z := z) (l := y :: l)
  unfold uniq
  split
  ·rename_i h
   subst h
   rw [ih]; simp
  ·rw [List.mem_cons, ih, List.mem_cons (a := z) (b := x)]
theorem tE : ∀ {l : List Int}, l.Pairwise (fun a b => a ≤ b) → Up (uniq l)
 | [], _ => by simp [uniq]
 | [x], _ => by simp [uniq]
 | x :: y :: l, h => by
  obtain ⟨h1, h2⟩ := List.pairwise_cons.1 h
  unfold uniq
  split
  ·exact tE h2
  ·rename_i hne
   refine List.pairwise_cons.2 ⟨fun z hz => ?_, tE h2⟩
   have hz' := qI.1 hz
   have a1 := h1 y (by simp)
   rcases List.mem_cons.1 hz' with rfl | h3
   ·omega
   ·have := (List.pairwise_cons.1 h2).1 z h3; omega
def pU (l : List Int) : List Int := l.mergeSort fun x y => decide (x ≤ y)
theorem AJ (l : List Int) : (pU l).Pairwise fun a b => a ≤ b := by
 have := List.pairwise_mergeSort (le := fun x y : Int => decide (x ≤ y)) (fun a b c h1 h2 => by simp at *; omega) (fun a b => by simp; omega) l
 exact this.imp fun h => by simpa using h
theorem zn {z : Int} {l : List Int} : z ∈ pU l ↔ z ∈ l := (List.mergeSort_perm l _).mem_iff
theorem wx (l : List Int) : (pU l).length = l.length := List.length_mergeSort l
theorem rO {a b : List Int} (ha : Up a) (hb : Up b) : uniq (pU (a ++ b)) = dV a b := yR (tE (AJ _)) (kE ha hb) fun x => by rw [qI, zn, dP, List.mem_append]
/-- the numbers of an occurrence: rising, below 24 -/
def cr (l : List Int) : Prop := Up l ∧ ∀ x ∈ l, 0 ≤ x ∧ x ≤ 23
theorem uf : ∀ {l : List Int} {p : Int}, fY p l = true → Up l ∧ ∀ x ∈ l, p < x ∧ x ≤ 23
 | [], _, _ => by simp
 | x :: l, p, h => by
  unfold fY at h
  simp only [Bool.and_eq_true, decide_eq_true_eq] at h
  obtain ⟨a, b⟩ := uf (l := l) (p := x) h.2
  refine ⟨List.pairwise_cons.2 ⟨fun y hy => (b y hy).1, a⟩, fun y hy => ?_⟩
  rcases List.mem_cons.1 hy with rfl | hy
  ·omega
  ·have := b y hy; omega
theorem vA {l : List Int} (h : fY (-1) l = true) : cr l := by
 obtain ⟨a, b⟩ := uf h
 exact ⟨a, fun x hx => by have := b x hx; omega⟩
theorem zL : ∀ {l : List Int} {p : Int}, Up l → (∀ x ∈ l, p ≤ x ∧ x ≤ 23) → p ≤ 24 → (l.length : Int) ≤ 24 - p
 | [], p, _, _, h => by simp; omega
 | x :: l, p, h, k, _ => by
  obtain ⟨h1, h2⟩ := List.pairwise_cons.1 h
  have hx := k x (by simp)
  have := zL (l := l) (p := x + 1) h2 (fun y hy => by have := h1 y hy; have := k y (by simp [hy]); omega) (by omega)
  simp; omega
theorem dq {l : List Int} (h : cr l) : l.length ≤ 24 := by have := zL (p := 0) h.1 h.2 (by omega); omega
theorem qf {a b : List Int} (ha : cr a) (hb : cr b) : cr (dV a b) := ⟨kE ha.1 hb.1, fun x hx => by
 rcases dP.1 hx with h | h
 ·exact ha.2 x h
 ·exact hb.2 x h⟩
def dy (a b : GOcc) : GOcc := ⟨min a.From b.From, max a.To b.To, dV a.Ids b.Ids⟩
theorem yY (k : Nat) (hk : 1000000000000 ≤ k) (a b : List Int) (ha : a.length ≤ 1000) (hb : b.length ≤ 1000) : aU.f k [a, b] = some (a ++ b) := by
 obtain ⟨k', rfl⟩ : ∃ m, k = m + 3 := ⟨k - 3, by omega⟩
 unfold aU.f iG.f
 have e0 : aU.l0 (k' + 3) [a, b] (k' + 3) 0 0 = some ((a.length : Int) + b.length) := by
  rw [aU.l0, if_pos (by simp), ae (by omega)]
  simp only [Int.toNat_zero, List.getElem?_cons_zero, Option.bind_some]
  rw [wr (0 + (a.length : Int)) (by omega), if_neg (by omega), show IntKind.wrap .i64 (0 + 1) = 1 from rfl, aU.l0, if_pos (by simp), ae (by omega)]
  simp only [Int.toNat_one, List.getElem?_cons_succ, List.getElem?_cons_zero, Option.bind_some]
  rw [wr _ (by omega), if_neg (by omega), show IntKind.wrap .i64 (1 + 1) = 2 from rfl, aU.l0, if_neg (by simp)]
  congr 1; omega
 have e1 : aU.l1 (k' + 3) [a, b] (k' + 3) [] 0 = some (a ++ b) := by
  rw [aU.l1, if_pos (by simp), ae (by omega)]
  simp only [Int.toNat_zero, List.getElem?_cons_zero, Option.bind_some]
  rw [ae (by simp; omega), show IntKind.wrap .i64 (0 + 1) = 1 from rfl, aU.l1, if_pos (by simp), ae (by omega)]
  simp only [Int.toNat_one, List.getElem?_cons_succ, List.getElem?_cons_zero, Option.bind_some]
  rw [ae (by simp; omega), show IntKind.wrap .i64 (1 + 1) = 2 from rfl, aU.l1, if_neg (by simp)]
  rfl
 rw [e0]
 simp only [Option.bind_some]
 rw [ae trivial, ae (by omega), ae (by omega)]
 simp only [Option.bind_some]
 rw [e1]; rfl
theorem jA (k : Nat) (hk : 1000000000000 ≤ k) (a b : GOcc) (ha : cr a.Ids) (hb : cr b.Ids) : eu.f k a b = some (dy a b) := by
 have l1 := dq ha
 have l2 := dq hb
 unfold eu.f iI.f dn.f
 rw [yY k hk _ _ (by omega) (by omega)]
 simp only [Option.bind_some]
 have e : (a.Ids ++ b.Ids).mergeSort (fun x y => decide (x ≤ y)) = pU (a.Ids ++ b.Ids) := rfl
 rw [ae (by simp; omega), e]
 simp only [Option.bind_some]
 have l3 := wx (a.Ids ++ b.Ids)
 rw [ae l3, ae (by rw [l3]; simp; omega)]
 have l4 : (uniq (pU (a.Ids ++ b.Ids))).length ≤ 24 := by rw [rO ha.1 hb.1]; exact dq (qf ha hb)
 simp only [Option.bind_some]
 rw [ae (by omega), ae (by omega), ae (by omega), ae (by omega), rO ha.1 hb.1]
 unfold dy
 by_cases c1 : b.From < a.From
 ·rw [if_pos c1]
  by_cases c2 : a.To < b.To
  ·rw [if_pos c2]; congr 2 <;> omega
  ·rw [if_neg c2]; congr 2 <;> omega
 ·rw [if_neg c1]
  by_cases c2 : a.To < b.To
  ·rw [if_pos c2]; congr 2 <;> omega
  ·rw [if_neg c2]; congr 2 <;> omega
/-- a loop over a list, its state told in another way -/
theorem zV {α σ τ : Type} (ret : σ → τ) (l : List α) (body : σ → α → Option σ) (L : Nat → σ → Int → Option τ) (g : σ → α → σ) (Inv : Nat → σ → Prop)
  (hend : ∀ n s, L (n + 1) s (l.length : Int) = some (ret s))
  (hstep : ∀ n s (i : Nat) (h : i < l.length), L (n + 1) s (i : Int) = (body s l[i]).bind fun s' => L n s' ((i + 1 : Nat) : Int))
  (hbody : ∀ i s (h : i < l.length), Inv i s → body s l[i] = some (g s l[i]) ∧ Inv (i + 1) (g s l[i])) :
  ∀ (d i n : Nat) (s : σ), i + d = l.length → d < n → Inv i s → L n s (i : Int) = some (ret ((l.drop i).foldl g s)) ∧ Inv l.length ((l.drop i).foldl g s) := by
 intro d
 induction d with
 | zero =>
  intro i n s hi hn hI
  obtain ⟨n, rfl⟩ : ∃ m, n = m + 1 := ⟨n - 1, by omega⟩
  have e : i = l.length := by omega
  subst e
  rw [hend, List.drop_length]
  exact ⟨rfl, hI⟩
 | succ d ih =>
  intro i n s hi hn hI
  obtain ⟨n, rfl⟩ : ∃ m, n = m + 1 := ⟨n - 1, by omega⟩
  have hlt : i < l.length := by omega
  obtain ⟨h1, h2⟩ := hbody i s hlt hI
  rw [hstep n s i hlt, h1, List.drop_eq_getElem_cons hlt]
  exact ih (i + 1) n _ (by omega) (by omega) h2
theorem gW {α σ τ : Type} (ret : σ → τ) (l : List α) (body : σ → α → Option σ) (L : Nat → σ → Int → Option τ) (g : σ → α → σ) (Inv : Nat → σ → Prop)
  (hend : ∀ n s, L (n + 1) s (l.length : Int) = some (ret s))
  (hstep : ∀ n s (i : Nat) (h : i < l.length), L (n + 1) s (i : Int) = (body s l[i]).bind fun s' => L n s' ((i + 1 : Nat) : Int))
  (hbody : ∀ i s (h : i < l.length), Inv i s → body s l[i] = some (g s l[i]) ∧ Inv (i + 1) (g s l[i])) (n : Nat) (s : σ) (hn : l.length < n) (hI : Inv 0 s) :
  L n s 0 = some (ret (l.foldl g s)) ∧ Inv l.length (l.foldl g s) := by
 have := zV ret l body L g Inv hend hstep hbody l.length 0 n s (by omega) hn hI
 simpa using this
/-- those of a list that hold, kept in order -/
theorem mM {α : Type} (p : α → Bool) : ∀ (l acc : List α), l.foldl (fun s e => if p e = true then s ++ [e] else s) acc = acc ++ l.filter p
 | [], acc => by simp
 | x :: l, acc => by
  rw [List.foldl_cons, mM p l]
  by_cases h : p x = true
  ·rw [if_pos h, List.filter_cons_of_pos h]; simp
  ·rw [if_neg h, List.filter_cons_of_neg h]
/-- all numbers of a list of occurrences are right -/
def Ids (l : List GOcc) : Prop := ∀ o ∈ l, cr o.Ids
theorem Ids.few {l : List GOcc} (h : Ids l) : iV l := fun o ho => by have := dq (h o ho); omega
theorem tL {l : List GOcc} {o : GOcc} (h : Ids l) (ho : cr o.Ids) : Ids (bZ l o) := fun x hx => by
 rcases eC.1 hx with h1 | rfl
 ·exact h x h1
 ·exact ho
theorem fN {l m : List GOcc} (h : Ids l) (hm : Ids m) : Ids (bQ l m) := fun x hx => by
 rcases ju.1 hx with h1 | h1
 ·exact h x h1
 ·exact hm x h1
theorem jS {a b : GOcc} (ha : cr a.Ids) (hb : cr b.Ids) : cr (dy a b).Ids := qf ha hb
theorem zp {l : List GOcc} (h : da l = true) : Ids l := fun o ho => by
 obtain ⟨i, hi, rfl⟩ := List.mem_iff_getElem.1 ho
 have := (ut h hi).1
 unfold eK at this
 simp only [Bool.and_eq_true, decide_eq_true_eq] at this
 exact vA this.2
/-- what is found of one and of those that wait -/
def rb (o : GOcc) (l : List GOcc) : GOcc := l.foldl dy o
def vl (o : GOcc) (l : List GOcc) : List GOcc := l.foldl (fun s e => bZ s (dy o e)) []
def eg (mode : Int) (o : GOcc) (l : List GOcc) : List GOcc :=
 if l.length = 0 then [] else if mode = 1 then [dy o (l[l.length - 1]?.getD o)] else if mode = 2 then [dy o (l[0]?.getD o)] else if mode = 4 then [rb o l] else vl o l
def pI (mode : Int) (l : List GOcc) : List GOcc := if mode = 1 then [] else if mode = 2 then l.take 1 else if mode = 4 then l else if mode = 3 then l else []
theorem xx : ∀ {l : List GOcc} {o : GOcc}, Ids l → cr o.Ids → cr (rb o l).Ids
 | [], _, _, h => h
 | x :: l, o, hl, h => xx (l := l) (o := dy o x) (fun y hy => hl y (by simp [hy])) (jS h (hl x (by simp)))
theorem sa (o : GOcc) (ho : cr o.Ids) : ∀ (l acc : List GOcc), Ids l → Ids acc → Asc acc → Ids (l.foldl (fun s e => bZ s (dy o e)) acc) ∧ Asc (l.foldl (fun s e => bZ s (dy o e)) acc) ∧ (l.foldl (fun s e => bZ s (dy o e)) acc).length ≤ acc.length + l.length
 | [], acc, _, h, h2 => ⟨h, h2, by simp⟩
 | x :: l, acc, hl, h, h2 => by
  obtain ⟨a, b, c⟩ := sa o ho l (bZ acc (dy o x)) (fun y hy => hl y (by simp [hy])) (tL h (jS ho (hl x (by simp)))) (jY h2)
  have := gv (dy o x) acc
  exact ⟨a, b, by simp only [List.foldl_cons, List.length_cons]; omega⟩
theorem w5 (k : Nat) (hk : 1000000000000 ≤ k) (o : GOcc) (l : List GOcc) (hl : l.length ≤ 40000000000) (hi : Ids l) (ho : cr o.Ids) :
  aJ.l0 k l k o.From o.To o.Ids 0 = some ((rb o l).From, (rb o l).To, (rb o l).Ids) := by
 have := gW (fun s : GOcc => (s.From, s.To, s.Ids)) l (fun s e => eu.f k s e) (fun n s i => aJ.l0 k l n s.From s.To s.Ids i) dy (fun i s => cr s.Ids)
  (fun n s => by rw [aJ.l0, if_neg (by omega)])
  (fun n s i h => by
   rw [aJ.l0, if_pos (by omega), ae (by omega), Int.toNat_natCast, List.getElem?_eq_getElem h]
   simp only [Option.bind_some]
   rw [wrS i (by omega)])
  (fun i s h hI => ⟨jA k hk s _ hI (hi _ (List.getElem_mem h)), jS hI (hi _ (List.getElem_mem h))⟩) k o (by omega) ho
 exact this.1
theorem vV (k : Nat) (hk : 1000000000000 ≤ k) (o : GOcc) (l : List GOcc) (hl : l.length ≤ 40000000000) (hi : Ids l) (ho : cr o.Ids) : aJ.l1 k o l k [] 0 = some (vl o l) := by
 have := eS l (fun s e => (eu.f k o e).bind fun x => dB.f k s x) (aJ.l1 k o l) (fun s e => bZ s (dy o e)) (fun i s => s.length ≤ i ∧ Ids s ∧ Asc s)
  (fun n s => by rw [aJ.l1, if_neg (by omega)])
  (fun n s i h => by
   rw [aJ.l1, if_pos (by omega), ae (by omega), Int.toNat_natCast, List.getElem?_eq_getElem h]
   simp only [Option.bind_some]
   rw [wrS i (by omega), Option.bind_assoc])
  (fun i s h hI => by
   have hx := hi _ (List.getElem_mem h)
   refine ⟨by rw [jA k hk o _ ho hx]; exact iF k hk s _ (by omega) hI.2.1.few hI.2.2, ?_, tL hI.2.1 (jS ho hx), jY hI.2.2⟩
   have := gv (dy o l[i]) s; omega)
  k [] (by omega) ⟨by simp, fun x hx => by simp at hx, by simp [Asc]⟩
 exact this.1
theorem kT (k : Nat) (hk : 1000000000000 ≤ k) (mode : Int) (o : GOcc) (l : List GOcc) (hl : l.length ≤ 40000000000) (hi : Ids l) (ho : cr o.Ids) :
  aJ.f k mode o l = some (eg mode o l, if l.length = 0 then [] else pI mode l) := by
 unfold aJ.f eg pI
 by_cases h0 : l.length = 0
 ·rw [if_pos (by omega), if_pos h0, if_pos h0]
 rw [if_neg (by omega), if_neg h0, if_neg h0]
 by_cases h1 : mode = 1
 ·obtain ⟨j, hj⟩ : ∃ j, l.length = j + 1 := ⟨l.length - 1, by omega⟩
  have hlt : j < l.length := by omega
  have e : IntKind.wrap .i64 ((l.length : Int) - 1) = (j : Int) := by rw [hj]; exact wrP j (by omega)
  rw [if_pos h1, if_pos h1, if_pos h1, e, ae (by omega), Int.toNat_natCast, List.getElem?_eq_getElem hlt]
  simp only [Option.bind_some]
  rw [jA k hk o _ ho (hi _ (List.getElem_mem hlt)), show l.length - 1 = j by omega, List.getElem?_eq_getElem hlt]
  rfl
 rw [if_neg h1, if_neg h1, if_neg h1]
 by_cases h2 : mode = 2
 ·have hlt : 0 < l.length := by omega
  rw [if_pos h2, if_pos h2, if_pos h2, ae (by omega), List.getElem?_eq_getElem hlt]
  simp only [Option.bind_some]
  rw [jA k hk o _ ho (hi _ (List.getElem_mem hlt))]
  simp only [Option.bind_some]
  rw [ae (by omega), ae (by omega), ae (by omega)]
  rfl
 rw [if_neg h2, if_neg h2, if_neg h2]
 by_cases h4 : mode = 4
 ·rw [if_pos h4, if_pos h4, if_pos h4, w5 k hk o l hl hi ho]
  rfl
 rw [if_neg h4, if_neg h4, if_neg h4, vV k hk o l hl hi ho]
 simp only [Option.bind_some]
 by_cases h3 : mode = 3
 ·rw [if_pos h3, if_pos h3]
 ·rw [if_neg h3, if_neg h3]
/-- a list without some -/
def tz (l gone : List GOcc) : List GOcc := l.filter fun x => !(gone.any fun g => decide (cx g x = 0))
theorem uq {l : List GOcc} {o : GOcc} (hs : Asc l) : (∃ x, l[ck l o]? = some x ∧ cx x o = 0) ↔ (l.any fun g => decide (cx g o = 0)) = true := by
 rw [List.any_eq_true]
 constructor
 ·rintro ⟨x, h1, h2⟩
  exact ⟨x, List.mem_of_getElem? h1, by simpa using h2⟩
 ·rintro ⟨x, h1, h2⟩
  have h2 : cx x o = 0 := by simpa using h2
  have e := mu h2
  subst e
  obtain ⟨i, hi, rfl⟩ := List.mem_iff_getElem.1 h1
  refine ⟨l[i], ?_, jZ _⟩
  have hr := ua l l[i]
  rcases Nat.lt_trichotomy i (ck l l[i]) with h | h | h
  ·obtain ⟨y, e1, e2⟩ := pn h
   rw [List.getElem?_eq_getElem hi, Option.some.injEq] at e1
   subst e1
   rw [tZ] at e2; cases e2
  ·rw [← h]; exact List.getElem?_eq_getElem hi
  ·have h3 := vY (l := l) (o := l[i]) (by omega)
   have h4 : bG l[ck l l[i]] l[i] = true := List.pairwise_iff_getElem.1 hs _ _ _ _ h
   rw [h4] at h3; cases h3
theorem nZ (k : Nat) (hk : 1000000000000 ≤ k) (l gone : List GOcc) (hl : l.length ≤ 40000000000) (hg : gone.length ≤ 40000000000) (hf : iV gone) (hs : Asc gone) : bd.f k l gone = some (tz l gone) := by
 unfold bd.f
 have := eS l (fun s e => (aI.f (fun y0 y1 => cm.f k y0 y1) k gone e).bind fun x => if x.2 = true then some s else (req ((s.length + 1) * 40 ≤ 140737488355328) (some (s ++ [e])))) (bd.l0 k l gone)
  (fun s e => if (!(gone.any fun g => decide (cx g e = 0))) = true then s ++ [e] else s) (fun i s => s.length ≤ i)
  (fun n s => by rw [bd.l0, if_neg (by omega)])
  (fun n s i h => by
   rw [bd.l0, if_pos (by omega), ae (by omega), Int.toNat_natCast, List.getElem?_eq_getElem h]
   simp only [Option.bind_some]
   rw [wrS i (by omega), xH k hk gone _ (by omega) hf hs]
   simp only [Option.bind_some]
   split
   ·rfl
   ·unfold req; split <;> rfl)
  (fun i s h hI => by
   rw [xH k hk gone _ (by omega) hf hs]
   simp only [Option.bind_some]
   by_cases c : ∃ x, gone[ck gone l[i]]? = some x ∧ cx x l[i] = 0
   ·have c2 := (uq hs).1 c
    rw [if_pos (by simpa using c), c2]
    exact ⟨rfl, by simp; omega⟩
   ·have c2 : (gone.any fun g => decide (cx g l[i] = 0)) = false := by
     cases h' : (gone.any fun g => decide (cx g l[i] = 0))
     ·rfl
     ·exact absurd ((uq hs).2 h') c
    rw [if_neg (by simpa using c), c2, ae (by omega)]
    exact ⟨rfl, by simp; omega⟩)
  k [] (by omega) (by simp)
 rw [this.1, mM]; rfl
theorem lv (k : Nat) (hk : 1000000000000 ≤ k) (g1 : GOcc → Option Bool) (p : GOcc → Bool) (l : List GOcc) (hl : l.length ≤ 40000000000) (hp : ∀ x ∈ l, g1 x = some (p x)) : aQ.f g1 k l = some (l.filter p) := by
 unfold aQ.f
 have := eS l (fun s e => (g1 e).bind fun x => if x = true then (req ((s.length + 1) * 40 ≤ 140737488355328) (some (s ++ [e]))) else some s) (aQ.l0 k g1 l)
  (fun s e => if p e = true then s ++ [e] else s) (fun i s => s.length ≤ i)
  (fun n s => by rw [aQ.l0, if_neg (by omega)])
  (fun n s i h => by
   rw [aQ.l0, if_pos (by omega), ae (by omega), Int.toNat_natCast, List.getElem?_eq_getElem h]
   simp only [Option.bind_some]
   rw [wrS i (by omega), hp _ (List.getElem_mem h)]
   simp only [Option.bind_some]
   split
   ·unfold req; split <;> rfl
   ·rfl)
  (fun i s h hI => by
   rw [hp _ (List.getElem_mem h)]
   simp only [Option.bind_some]
   by_cases c : p l[i] = true
   ·rw [if_pos c, if_pos c, ae (by omega)]
    exact ⟨rfl, by simp; omega⟩
   ·rw [if_neg c, if_neg c]
    exact ⟨rfl, by omega⟩)
  k [] (by omega) (by simp)
 rw [this.1, mM]; rfl
/-- an ordered list of occurrences with right numbers, no longer than m -/
def Ok (m : Nat) (l : List GOcc) : Prop := Asc l ∧ Ids l ∧ l.length ≤ m
theorem Ok.nil (m : Nat) : Ok m [] := ⟨by simp [Asc], fun x hx => by simp at hx, by simp⟩
theorem Ok.mono {m n : Nat} {l : List GOcc} (h : Ok m l) (hm : m ≤ n) : Ok n l := ⟨h.1, h.2.1, Nat.le_trans h.2.2 hm⟩
theorem Ok.filter {m : Nat} {l : List GOcc} (p : GOcc → Bool) (h : Ok m l) : Ok m (l.filter p) := ⟨List.Pairwise.sublist List.filter_sublist h.1, fun x hx => h.2.1 x (List.mem_filter.1 hx).1, Nat.le_trans (List.length_filter_le _ _) h.2.2⟩
theorem Ok.rem {m : Nat} {l gone : List GOcc} (h : Ok m l) : Ok m (tz l gone) := h.filter _
theorem Ok.merge {m n : Nat} {l r : List GOcc} (h : Ok m l) (hr : Ok n r) : Ok (m + n) (bQ l r) := ⟨eh h.1, fN h.2.1 hr.2.1, by have := cf r l; have := h.2.2; have := hr.2.2; omega⟩
theorem Ok.put {m : Nat} {l : List GOcc} {o : GOcc} (h : Ok m l) (ho : cr o.Ids) : Ok (m + 1) (bZ l o) := ⟨jY h.1, tL h.2.1 ho, by have := gv o l; have := h.2.2; omega⟩
theorem Ok.found {m : Nat} {mode : Int} {o : GOcc} {l : List GOcc} (h : Ok m l) (ho : cr o.Ids) : Ok m (eg mode o l) := by
 have one : ∀ x : GOcc, cr x.Ids → l.length ≠ 0 → Ok m [x] := fun x hx hl => ⟨by simp [Asc], fun y hy => by rw [List.mem_singleton.1 hy]; exact hx, by have := h.2.2; simp; omega⟩
 unfold eg
 by_cases h0 : l.length = 0
 ·rw [if_pos h0]; exact Ok.nil m
 rw [if_neg h0]
 split
 ·exact one _ (jS ho (by rw [List.getElem?_eq_getElem (show l.length - 1 < l.length by omega)]; exact h.2.1 _ (List.getElem_mem _))) h0
 split
 ·exact one _ (jS ho (by rw [List.getElem?_eq_getElem (show 0 < l.length by omega)]; exact h.2.1 _ (List.getElem_mem _))) h0
 split
 ·exact one _ (xx h.2.1 ho) h0
 ·obtain ⟨a, b, c⟩ := sa o ho l [] h.2.1 (Ok.nil 0).2.1 (Ok.nil 0).1
  exact ⟨b, a, by simp at c; have := h.2.2; exact Nat.le_trans c this⟩
theorem Ok.gone {m : Nat} {mode : Int} {l : List GOcc} (h : Ok m l) : Ok m (if l.length = 0 then [] else pI mode l) := by
 split
 ·exact Ok.nil m
 unfold pI
 split
 ·exact Ok.nil m
 split
 ·exact ⟨List.Pairwise.sublist (List.take_sublist _ _) h.1, fun x hx => h.2.1 x (List.mem_of_mem_take hx), by have := h.2.2; simp; omega⟩
 split
 ·exact h
 split
 ·exact h
 ·exact Ok.nil m
/-- one on the right of a sequence or an absence: what is left waiting, and what was found -/
def en (mode : Int) (p : GOcc → GOcc → Bool) (s : List GOcc × List GOcc) (o : GOcc) : List GOcc × List GOcc :=
 (tz s.1 (if (s.1.filter (p o)).length = 0 then [] else pI mode (s.1.filter (p o))), bQ s.2 (eg mode o (s.1.filter (p o))))
theorem xk {mode : Int} {p : GOcc → GOcc → Bool} {s : List GOcc × List GOcc} {o : GOcc} {m n : Nat} (h1 : Ok m s.1) (h2 : Ok n s.2) (ho : cr o.Ids) : Ok m (en mode p s o).1 ∧ Ok (n + m) (en mode p s o).2 :=
 ⟨h1.rem, h2.merge ((h1.filter _).found ho)⟩
def before (o s : GOcc) : Bool := decide (s.To < o.From)
theorem z7 (k : Nat) (hk : 1000000000000 ≤ k) (mode : Int) (right : List GOcc) (left : List GOcc) (m c : Nat) (hm : m ≤ 40000000000) (hc : right.length ≤ c) (hc2 : c ≤ 40000000000) (hcm : c * m ≤ 40000000000) (hl : Ok m left) (hr : Ids right) :
  bT.l0 k mode right k left [] 0 = some (right.foldl (en mode before) (left, [])) ∧ Ok m (right.foldl (en mode before) (left, [])).1 ∧ Ok (c * m) (right.foldl (en mode before) (left, [])).2 := by
 have := gW (fun s : List GOcc × List GOcc => s) right (fun s e => (aQ.f (fun y0 => d9.f y0 e) k s.1).bind fun x46 => ((aJ.f k mode e x46).bind fun x49 => ((aO.f k s.2 x49.1).bind fun x52 => ((bd.f k s.1 x49.2).bind fun x55 => some (x55, x52))))) (fun n s i => bT.l0 k mode right n s.1 s.2 i) (en mode before) (fun i s => Ok m s.1 ∧ Ok (i * m) s.2)
  (fun n s => by rw [bT.l0, if_neg (by omega)])
  (fun n s i h => by
   rw [bT.l0, if_pos (by omega), ae (by omega), Int.toNat_natCast, List.getElem?_eq_getElem h]
   simp only [Option.bind_some, Option.bind_assoc]
   rw [wrS i (by omega)])
  (fun i s h hI => by
   obtain ⟨h1, h2⟩ := hI
   have ho := hr _ (List.getElem_mem h)
   have hb : i * m ≤ 40000000000 := Nat.le_trans (Nat.mul_le_mul_right _ (by omega)) hcm
   have hf := h1.filter (before right[i])
   have hfo := hf.found (mode := mode) ho
   have hg := hf.gone (mode := mode)
   have e1 : aQ.f (fun y0 => d9.f y0 right[i]) k s.1 = some (s.1.filter (before right[i])) := lv k hk _ _ _ (by have := h1.2.2; omega) (fun x hx => rfl)
   have := h1.2.2; have := h2.2.2; have := hf.2.2; have := hfo.2.2; have := hg.2.2
   refine ⟨?_, ?_⟩
   ·rw [e1]
    simp only [Option.bind_some]
    rw [kT k hk mode _ _ (by omega) hf.2.1 ho]
    simp only [Option.bind_some]
    rw [bY k hk _ _ (by omega) h2.2.1.few hfo.2.1.few h2.1]
    simp only [Option.bind_some]
    rw [nZ k hk _ _ (by omega) (by omega) hg.2.1.few hg.1]
    rfl
   ·have := xk (mode := mode) (p := before) h1 h2 ho
    refine ⟨this.1, ?_⟩
    rw [Nat.succ_mul]
    exact this.2)
  k (left, []) (by omega) ⟨hl, by simpa using Ok.nil 0⟩
 exact ⟨this.1, this.2.1, this.2.2.mono (Nat.mul_le_mul_right _ hc)⟩
theorem oU {f : GOcc → GOcc} {z : GOcc} : ∀ {l acc : List GOcc}, z ∈ acc → z ∈ l.foldl (fun s e => bZ s (f e)) acc
 | [], _, h => h
 | x :: l, acc, h => oU (l := l) (eC.2 (.inl h))
theorem yC (mode : Int) (o : GOcc) (l : List GOcc) : (eg mode o l).length = 0 ↔ l.length = 0 := by
 unfold eg
 by_cases h0 : l.length = 0
 ·simp [h0]
 ·rw [if_neg h0]
  split
  ·simp [h0]
  split
  ·simp [h0]
  split
  ·simp [h0]
  ·cases l with
   | nil => simp at h0
   | cons x l =>
    have : dy o x ∈ vl o (x :: l) := by
     unfold vl
     rw [List.foldl_cons]
     exact oU (eC.2 (.inr rfl))
    have := List.length_pos_of_mem this
    simp at h0 ⊢
    intro e
    rw [e] at this
    simp at this
def jo (mode : Int) (own : List GOcc) (o : GOcc) (alone : Bool) : List GOcc := if mode = 1 then [o] else if mode = 0 then bZ own o else if alone = true then bZ own o else own
theorem AL (k : Nat) (hk : 1000000000000 ≤ k) (mode : Int) (own : List GOcc) (o : GOcc) (alone : Bool) (m : Nat) (hm : m ≤ 40000000000) (h : Ok m own) : ek.f k mode own o alone = some (jo mode own o alone) := by
 unfold ek.f jo
 have := h.2.2
 rw [iF k hk own o (by omega) h.2.1.few h.1]
 simp only [Option.bind_some]
 split
 ·rfl
 split
 ·rfl
 split <;> rfl
theorem Ok.store {m : Nat} {mode : Int} {own : List GOcc} {o : GOcc} {alone : Bool} (h : Ok m own) (ho : cr o.Ids) : Ok (m + 1) (jo mode own o alone) := by
 unfold jo
 split
 ·exact ⟨by simp [Asc], fun y hy => by rw [List.mem_singleton.1 hy]; exact ho, by simp⟩
 split
 ·exact h.put ho
 split
 ·exact h.put ho
 ·exact h.mono (by omega)
/-- one met with those of the other side: its own side, the other side, what was found -/
def eZ (mode : Int) (s : List GOcc × List GOcc × List GOcc) (o : GOcc) : List GOcc × List GOcc × List GOcc :=
 (jo mode s.1 o (decide (s.2.1.length = 0)), tz s.2.1 (if s.2.1.length = 0 then [] else pI mode s.2.1), bQ s.2.2 (eg mode o s.2.1))
theorem nT {mode : Int} {s : List GOcc × List GOcc × List GOcc} {o : GOcc} {a b c : Nat} (h1 : Ok a s.1) (h2 : Ok b s.2.1) (h3 : Ok c s.2.2) (ho : cr o.Ids) : Ok (a + 1) (eZ mode s o).1 ∧ Ok b (eZ mode s o).2.1 ∧ Ok (c + b) (eZ mode s o).2.2 :=
 ⟨h1.store ho, h2.rem, h3.merge (h2.found ho)⟩
/-- the program's half -/
theorem ub (k : Nat) (hk : 1000000000000 ≤ k) (mode : Int) (own other out : List GOcc) (o : GOcc) (a b c : Nat) (ha : a ≤ 40000000000) (hb : b ≤ 40000000000) (hc : c ≤ 40000000000) (h1 : Ok a own) (h2 : Ok b other) (h3 : Ok c out) (ho : cr o.Ids) :
  ((aJ.f k mode o other).bind fun x48 => ((aO.f k out x48.1).bind fun x51 => ((bd.f k other x48.2).bind fun x54 => ((ek.f k mode own o ((x48.1.length : Int) == 0)).bind fun x57 => some (x57, x54, x51))))) = some (eZ mode (own, other, out) o) := by
 have hfo := h2.found (mode := mode) ho
 have hg := h2.gone (mode := mode)
 have := h1.2.2; have := h2.2.2; have := h3.2.2; have := hfo.2.2; have := hg.2.2
 rw [kT k hk mode o other (by omega) h2.2.1 ho]
 simp only [Option.bind_some]
 rw [bY k hk _ _ (by omega) h3.2.1.few hfo.2.1.few h3.1]
 simp only [Option.bind_some]
 rw [nZ k hk _ _ (by omega) (by omega) hg.2.1.few hg.1]
 simp only [Option.bind_some]
 have e : (((eg mode o other).length : Int) == 0) = decide (other.length = 0) := by
  rw [Bool.eq_iff_iff]
  simp only [beq_iff_eq, decide_eq_true_eq]
  rw [← yC mode o other]
  omega
 rw [e, AL k hk mode own o _ a (by omega) h1]
 rfl
/-- one on the right of a conjunction: left, right, found -/
def ke (mode : Int) (s : List GOcc × List GOcc × List GOcc) (o : GOcc) : List GOcc × List GOcc × List GOcc :=
 ((eZ mode (s.2.1, s.1, s.2.2) o).2.1, (eZ mode (s.2.1, s.1, s.2.2) o).1, (eZ mode (s.2.1, s.1, s.2.2) o).2.2)
/-- left and right have grown by no more than i, found by no more than i times both -/
def ni (m : Nat) (i : Nat) (s : List GOcc × List GOcc × List GOcc) : Prop := Ok (m + i) s.1 ∧ Ok (m + i) s.2.1 ∧ Ok (i * (m + 100)) s.2.2
theorem ni.half {m i : Nat} {mode : Int} {s : List GOcc × List GOcc × List GOcc} {o : GOcc} (h : ni m i s) (hi : i < 100) (ho : cr o.Ids) : ni m (i + 1) (eZ mode s o) := by
 obtain ⟨a, b, c⟩ := nT (mode := mode) h.1 h.2.1 h.2.2 ho
 refine ⟨a, b.mono (by omega), c.mono ?_⟩
 rw [Nat.succ_mul]; omega
theorem ni.other {m i : Nat} {mode : Int} {s : List GOcc × List GOcc × List GOcc} {o : GOcc} (h : ni m i s) (hi : i < 100) (ho : cr o.Ids) : ni m (i + 1) (ke mode s o) := by
 obtain ⟨a, b, c⟩ := nT (mode := mode) (s := (s.2.1, s.1, s.2.2)) h.2.1 h.1 h.2.2 ho
 refine ⟨b.mono (by omega), a, c.mono ?_⟩
 rw [Nat.succ_mul]; omega
def gF (mode : Int) (l r left right : List GOcc) : List GOcc × List GOcc × List GOcc := right.foldl (ke mode) (left.foldl (eZ mode) (l, r, []))
def kJ (mode : Int) (l left right : List GOcc) : List GOcc × List GOcc := (bQ (right.foldl (en mode before) (l, [])).1 left, (right.foldl (en mode before) (l, [])).2)
theorem sX (k : Nat) (hk : 1000000000000 ≤ k) (mode : Int) (p : GPair) (left right : List GOcc) (m c : Nat) (hm : m ≤ 40000000000) (hc2 : c ≤ 40000000000) (hcm : c * m ≤ 40000000000) (h1 : Ok m p.Left) (hl : Ids left) (hr : Ids right) (hn : left.length ≤ 40000000000) (hn2 : right.length ≤ c) :
  bT.f k p mode left right = some (⟨(kJ mode p.Left left right).1, p.Right⟩, (kJ mode p.Left left right).2) ∧ Ok (m + left.length) (kJ mode p.Left left right).1 ∧ Ok (c * m) (kJ mode p.Left left right).2 := by
 obtain ⟨a, b, c⟩ := z7 k hk mode right p.Left m c hm hn2 hc2 hcm h1 hr
 have := b.2.2
 refine ⟨?_, ⟨eh b.1, fN b.2.1 hl, by have := cf left (right.foldl (en mode before) (p.Left, [])).1; show (bQ _ _).length ≤ _; omega⟩, c⟩
 unfold bT.f
 rw [a]
 simp only [Option.bind_some]
 rw [bY k hk _ _ (by omega) b.2.1.few hl.few b.1]
 rfl
def BQ (mid : List GOcc) (a b : Int) : Bool := mid.any fun x => decide (a < x.From) && decide (x.To < b)
def eJ (mid : List GOcc) (o s : GOcc) : Bool := decide (s.To < o.From) && !BQ mid s.To o.From
theorem yx (k : Nat) (g1 : GOcc → Option Bool) (p : GOcc → Bool) (l : List GOcc) (hl : l.length ≤ 40000000000) (hp : ∀ x ∈ l, g1 x = some (p x)) : ∀ (d i n : Nat), i + d = l.length → d < n →
  ∃ r, aA.l0 k g1 l n (i : Int) = some r ∧ (((l.drop i).any p = false ∧ r = .ok ()) ∨ ((l.drop i).any p = true ∧ ∃ j : Nat, r = .error (j : Int))) := by
 intro d
 induction d with
 | zero =>
  intro i n hi hn
  obtain ⟨n, rfl⟩ : ∃ m, n = m + 1 := ⟨n - 1, by omega⟩
  rw [aA.l0, if_neg (by omega), List.drop_eq_nil_of_le (by omega)]
  exact ⟨_, rfl, .inl ⟨rfl, rfl⟩⟩
 | succ d ih =>
  intro i n hi hn
  obtain ⟨n, rfl⟩ : ∃ m, n = m + 1 := ⟨n - 1, by omega⟩
  have h : i < l.length := by omega
  rw [aA.l0, if_pos (by omega), ae (by omega), Int.toNat_natCast, List.getElem?_eq_getElem h, List.drop_eq_getElem_cons h]
  simp only [Option.bind_some, hp _ (List.getElem_mem h), List.any_cons]
  by_cases c : p l[i] = true
  ·rw [if_pos c]
   exact ⟨_, rfl, .inr ⟨by simp [c], i, rfl⟩⟩
  ·rw [if_neg c, wrS i (by omega)]
   have c' : p l[i] = false := by simpa using c
   rw [c', Bool.false_or]
   exact ih (i + 1) n (by omega) (by omega)
theorem w4 (k : Nat) (hk : 1000000000000 ≤ k) (g1 : GOcc → Option Bool) (p : GOcc → Bool) (l : List GOcc) (hl : l.length ≤ 40000000000) (hp : ∀ x ∈ l, g1 x = some (p x)) : aS.f g1 k l = some (l.any p) := by
 unfold aS.f aA.f
 obtain ⟨r, h1, h2⟩ := yx k g1 p l hl hp l.length 0 k (by omega) (by omega)
 rw [show ((0 : Nat) : Int) = 0 from rfl] at h1
 rw [List.drop_zero] at h2
 rw [h1]
 rcases h2 with ⟨h2, rfl⟩ | ⟨h2, j, rfl⟩
 ·rw [h2]; rfl
 ·rw [h2]
  simp only [Option.bind_some]
  congr 1
theorem xu (k : Nat) (hk : 1000000000000 ≤ k) (s : GSpan) (o : GOcc) (hl : s.Left.length ≤ 40000000000) (hm : s.Mid.length ≤ 40000000000) : dv.f k s o = some (s.Left.filter (eJ s.Mid o)) := by
 unfold dv.f
 rw [lv k hk _ (eJ s.Mid o) s.Left hl (fun x hx => by
  unfold eB.f eJ
  by_cases c : x.To < o.From
  ·rw [if_pos c, w4 k hk _ (fun y => decide (x.To < y.From) && decide (y.To < o.From)) s.Mid hm (fun y hy => by
    unfold dU.f
    by_cases c2 : x.To < y.From
    ·rw [if_pos c2]; simp [c2]
    ·rw [if_neg c2]; simp [c2])]
   simp only [Option.bind_some, BQ]
   simp [c]
  ·rw [if_neg c]; simp [c])]
 rfl
theorem zX (k : Nat) (hk : 1000000000000 ≤ k) (mode : Int) (sp : GSpan) (right : List GOcc) (m c : Nat) (hm : m ≤ 40000000000) (hc2 : c ≤ 40000000000) (hcm : c * m ≤ 40000000000) (hc : right.length ≤ c) (hl : Ok m sp.Left) (hmid : sp.Mid.length ≤ 40000000000) (hr : Ids right) :
  bS.l0 k sp mode right k sp.Left [] 0 = some (right.foldl (en mode (eJ sp.Mid)) (sp.Left, [])) ∧ Ok m (right.foldl (en mode (eJ sp.Mid)) (sp.Left, [])).1 ∧ Ok (c * m) (right.foldl (en mode (eJ sp.Mid)) (sp.Left, [])).2 := by
 have := gW (fun s : List GOcc × List GOcc => s) right (fun s e => (dv.f k ⟨s.1, sp.Mid⟩ e).bind fun x46 => ((aJ.f k mode e x46).bind fun x49 => ((aO.f k s.2 x49.1).bind fun x52 => ((bd.f k s.1 x49.2).bind fun x55 => some (x55, x52))))) (fun n s i => bS.l0 k sp mode right n s.1 s.2 i) (en mode (eJ sp.Mid)) (fun i s => Ok m s.1 ∧ Ok (i * m) s.2)
  (fun n s => by rw [bS.l0, if_neg (by omega)])
  (fun n s i h => by
   rw [bS.l0, if_pos (by omega), ae (by omega), Int.toNat_natCast, List.getElem?_eq_getElem h]
   simp only [Option.bind_some, Option.bind_assoc]
   rw [wrS i (by omega)])
  (fun i s h hI => by
   obtain ⟨h1, h2⟩ := hI
   have ho := hr _ (List.getElem_mem h)
   have hb : i * m ≤ 40000000000 := Nat.le_trans (Nat.mul_le_mul_right _ (by omega)) hcm
   have hf := h1.filter (eJ sp.Mid right[i])
   have hfo := hf.found (mode := mode) ho
   have hg := hf.gone (mode := mode)
   have := h1.2.2; have := h2.2.2; have := hf.2.2; have := hfo.2.2; have := hg.2.2
   refine ⟨?_, ?_⟩
   ·rw [xu k hk ⟨s.1, sp.Mid⟩ _ (show s.1.length ≤ 40000000000 by omega) hmid]
    simp only [Option.bind_some]
    rw [kT k hk mode _ _ (by omega) hf.2.1 ho]
    simp only [Option.bind_some]
    rw [bY k hk _ _ (by omega) h2.2.1.few hfo.2.1.few h2.1]
    simp only [Option.bind_some]
    rw [nZ k hk _ _ (by omega) (by omega) hg.2.1.few hg.1]
    rfl
   ·have := xk (mode := mode) (p := eJ sp.Mid) h1 h2 ho
    refine ⟨this.1, ?_⟩
    rw [Nat.succ_mul]
    exact this.2)
  k (sp.Left, []) (by omega) ⟨hl, by simpa using Ok.nil 0⟩
 exact ⟨this.1, this.2.1, this.2.2.mono (Nat.mul_le_mul_right _ hc)⟩
def gB (mode : Int) (l mid a b c : List GOcc) : List GOcc × List GOcc × List GOcc := (bQ (c.foldl (en mode (eJ mid)) (l, [])).1 a, bQ mid b, (c.foldl (en mode (eJ mid)) (l, [])).2)
theorem tJ (k : Nat) (hk : 1000000000000 ≤ k) (mode : Int) (sp : GSpan) (a b c : List GOcc) (m n : Nat) (hm : m ≤ 40000000000) (hn2 : n ≤ 40000000000) (hnm : n * m ≤ 40000000000) (h1 : Ok m sp.Left) (h2 : Ok m sp.Mid) (ha : Ids a) (hb : Ids b) (hc : Ids c) (na : a.length ≤ 40000000000) (nb : b.length ≤ 40000000000) (nc : c.length ≤ n) :
  bS.f k sp mode a b c = some (⟨(gB mode sp.Left sp.Mid a b c).1, (gB mode sp.Left sp.Mid a b c).2.1⟩, (gB mode sp.Left sp.Mid a b c).2.2) ∧ Ok (m + a.length) (gB mode sp.Left sp.Mid a b c).1 ∧ Ok (m + b.length) (gB mode sp.Left sp.Mid a b c).2.1 ∧ Ok (n * m) (gB mode sp.Left sp.Mid a b c).2.2 := by
 have q := h2.2.2
 obtain ⟨x, y, z⟩ := zX k hk mode sp c m n hm hn2 hnm nc h1 (by omega) hc
 have := y.2.2
 refine ⟨?_, ⟨eh y.1, fN y.2.1 ha, Nat.le_trans (cf _ _) (by omega)⟩, ⟨eh h2.1, fN h2.2.1 hb, Nat.le_trans (cf _ _) (by omega)⟩, z⟩
 unfold bS.f
 rw [x]
 simp only [Option.bind_some]
 rw [bY k hk _ _ (by omega) y.2.1.few ha.few y.1]
 simp only [Option.bind_some]
 rw [bY k hk _ _ (by omega) h2.2.1.few hb.few h2.1]
 rfl
def zW (mode : Int) (l mid b : List GOcc) : List GOcc := b.foldl (fun s o => bQ s (eg mode o (l.filter (eJ mid o)))) []
def cL (mode : Int) (l mid a b c : List GOcc) : List GOcc × List GOcc × List GOcc := (bQ l a, bQ mid c, zW mode l mid b)
theorem ri (k : Nat) (hk : 1000000000000 ≤ k) (mode : Int) (sp : GSpan) (a b c : List GOcc) (m n : Nat) (hm : m ≤ 40000000000) (hn2 : n ≤ 40000000000) (hnm : n * m ≤ 40000000000) (h1 : Ok m sp.Left) (h2 : Ok m sp.Mid) (ha : Ids a) (hb : Ids b) (hc : Ids c) (na : a.length ≤ 40000000000) (nb : b.length ≤ n) (nc : c.length ≤ 40000000000) :
  bO.f k sp mode a b c = some (⟨(cL mode sp.Left sp.Mid a b c).1, (cL mode sp.Left sp.Mid a b c).2.1⟩, (cL mode sp.Left sp.Mid a b c).2.2) ∧ Ok (m + a.length) (cL mode sp.Left sp.Mid a b c).1 ∧ Ok (m + c.length) (cL mode sp.Left sp.Mid a b c).2.1 ∧ Ok (n * m) (cL mode sp.Left sp.Mid a b c).2.2 := by
 have q1 := h1.2.2
 have q2 := h2.2.2
 have := eS b (fun s e => (dv.f k sp e).bind fun x38 => ((aJ.f k mode e x38).bind fun x41 => aO.f k s x41.1)) (bO.l0 k sp mode b) (fun s o => bQ s (eg mode o (sp.Left.filter (eJ sp.Mid o)))) (fun i s => Ok (i * m) s)
  (fun n s => by rw [bO.l0, if_neg (by omega)])
  (fun n s i h => by
   rw [bO.l0, if_pos (by omega), ae (by omega), Int.toNat_natCast, List.getElem?_eq_getElem h]
   simp only [Option.bind_some, Option.bind_assoc]
   rw [wrS i (by omega)])
  (fun i s h hI => by
   have ho := hb _ (List.getElem_mem h)
   have hbm : i * m ≤ 40000000000 := Nat.le_trans (Nat.mul_le_mul_right _ (by omega)) hnm
   have hf := h1.filter (eJ sp.Mid b[i])
   have hfo := hf.found (mode := mode) ho
   have := hI.2.2; have := hf.2.2; have := hfo.2.2
   refine ⟨?_, ?_⟩
   ·rw [xu k hk sp _ (by omega) (by omega)]
    simp only [Option.bind_some]
    rw [kT k hk mode _ _ (by omega) hf.2.1 ho]
    simp only [Option.bind_some]
    rw [bY k hk _ _ (by omega) hI.2.1.few hfo.2.1.few hI.1]
   ·rw [Nat.succ_mul]
    exact hI.merge hfo)
  k [] (by omega) (by simpa using Ok.nil 0)
 refine ⟨?_, ⟨eh h1.1, fN h1.2.1 ha, Nat.le_trans (cf _ _) (by omega)⟩, ⟨eh h2.1, fN h2.2.1 hc, Nat.le_trans (cf _ _) (by omega)⟩, this.2.mono (Nat.mul_le_mul_right _ nb)⟩
 unfold bO.f
 rw [this.1]
 simp only [Option.bind_some]
 rw [bY k hk _ _ (by omega) h1.2.1.few ha.few h1.1]
 simp only [Option.bind_some]
 rw [bY k hk _ _ (by omega) h2.2.1.few hc.few h2.1]
 rfl
def atM (l : List GOcc) (t : Int) : List GOcc := l.filter fun x => x.To == t
theorem se (k : Nat) (hk : 1000000000000 ≤ k) (l : List GOcc) (t : Int) (hl : l.length ≤ 40000000000) : lc.f k l t = some (atM l t) := by
 unfold lc.f
 rw [lv k hk (fun y0 => kt.f y0 t) (fun x => x.To == t) l hl (fun x hx => rfl)]; rfl
abbrev Two := List GOcc × List GOcc
def seqF (mode : Int) (p : Two) (l r : List GOcc) : Two × List GOcc := (((kJ mode p.1 l r).1, p.2), (kJ mode p.1 l r).2)
def andF (mode : Int) (p : Two) (l r : List GOcc) : Two × List GOcc := (((gF mode p.1 p.2 l r).1, (gF mode p.1 p.2 l r).2.1), (gF mode p.1 p.2 l r).2.2)
def notF (mode : Int) (p : Two) (a b c : List GOcc) : Two × List GOcc := (((gB mode p.1 p.2 a b c).1, (gB mode p.1 p.2 a b c).2.1), (gB mode p.1 p.2 a b c).2.2)
def eachF (mode : Int) (p : Two) (a b c : List GOcc) : Two × List GOcc := (((cL mode p.1 p.2 a b c).1, (cL mode p.1 p.2 a b c).2.1), (cL mode p.1 p.2 a b c).2.2)
theorem rq {α σ : Type} (g : σ → α → σ) (Inv : Nat → σ → Prop) : ∀ (l : List α) (i : Nat) (s : σ), (∀ j s (h : j < l.length), Inv (i + j) s → Inv (i + j + 1) (g s l[j])) → Inv i s → Inv (i + l.length) (l.foldl g s)
 | [], i, s, _, h => h
 | x :: l, i, s, hs, h => by
  have h1 := hs 0 s (by simp) h
  have := rq g Inv l (i + 1) (g s x) (fun j s' hj hI => by
   have := hs (j + 1) s' (by simp; omega) (by rw [show i + (j + 1) = i + 1 + j by omega]; exact hI)
   rw [show i + (j + 1) + 1 = i + 1 + j + 1 by omega] at this
   exact this) h1
  rw [List.foldl_cons, List.length_cons, show i + (l.length + 1) = i + 1 + l.length by omega]
  exact this
theorem yO (mode : Int) : cI.f mode = some (decide (0 ≤ mode) && decide (mode ≤ 4)) ∧ iB.f mode = some (decide (0 ≤ mode) && decide (mode ≤ 4)) := by
 refine ⟨?_, ?_⟩
 ·unfold cI.f
  rw [dH]; rfl
 ·unfold iB.f
  split
  ·have : ¬ 0 ≤ mode := by omega
   simp [this]
  ·have : 0 ≤ mode := by omega
   simp [this]
   omega
theorem uD {o : GOcc} : ∀ {l : List GOcc}, (∀ x ∈ l, bG x o = true) → bZ l o = l ++ [o]
 | [], _ => rfl
 | y :: l, h => by
  unfold bZ
  rw [if_pos (h y (by simp)), uD fun x hx => h x (by simp [hx])]
  rfl
theorem AM {l : List GOcc} {o : GOcc} (h : Asc (l ++ [o])) : ∀ x ∈ l, bG x o = true := fun x hx => (List.pairwise_append.1 h).2.2 x hx o (by simp)
def iW (n : Int) (o : GOcc) : GOcc := ⟨o.From, o.To + n, o.Ids⟩
theorem w8 (a b : GOcc) : bG a b = true ↔ a.To < b.To ∨ (a.To = b.To ∧ (a.From < b.From ∨ (a.From = b.From ∧ cF a.Ids b.Ids < 0))) := by
 unfold bG
 rw [decide_eq_true_eq, uI]
theorem yU {α : Type} (l : List α) (i : Nat) (h : i < l.length) : l.take (i + 1) = l.take i ++ [l[i]] := by
 rw [List.take_add_one, List.getElem?_eq_getElem h]; rfl
mutual
/-- how many nodes -/
def exN : GEx → Nat
 | ⟨_, _, _, ks⟩ => 1 + bV ks
def bV : List GEx → Nat
 | [] => 0
 | x :: xs => exN x + bV xs
end
theorem eb : bV [] = 0 := by simp only [bV]
theorem cJ (x : GEx) (xs : List GEx) : bV (x :: xs) = exN x + bV xs := by simp only [bV]
theorem cA (e : GEx) : exN e = 1 + bV e.Kids := by cases e; simp only [exN]
theorem fh : ∀ l : List GEx, l.length ≤ bV l
 | [] => by simp [eb]
 | x :: xs => by have := fh xs; rw [cJ, cA]; simp only [List.length_cons]; omega
theorem ec {e : GEx} : ∀ {l : List GEx}, e ∈ l → exN e ≤ bV l
 | x :: xs, h => by
  rw [cJ]
  rcases List.mem_cons.1 h with rfl | h
  ·omega
  ·have := ec h; omega
mutual
theorem lX {P : GEx → Prop} (h : ∀ e : GEx, (∀ x ∈ e.Kids, P x) → P e) : ∀ e, P e
 | ⟨a, b, c, ks⟩ => h ⟨a, b, c, ks⟩ (zA h ks)
theorem zA {P : GEx → Prop} (h : ∀ e : GEx, (∀ x ∈ e.Kids, P x) → P e) : ∀ l : List GEx, ∀ x ∈ l, P x
 | [], _, hx => by simp at hx
 | y :: ys, x, hx => by
  rcases List.mem_cons.1 hx with e | hx
  ·rw [e]; exact lX h y
  ·exact zA h ys x hx
end
def j8 (a : Int) : Int := if a = 1 then 0 else if a = 7 then 1 else if a = 2 then 2 else if a = 3 then 2 else if a = 4 then 2 else if a = 5 then 3 else if a = 6 then 3 else -1
theorem pC (a : Int) : fe.f a = some (j8 a) := by
 unfold fe.f j8
 repeat' split
 all_goals rfl
def eD (e : GEx) : Bool := decide (j8 e.Kind = (e.Kids.length : Int)) && decide (0 ≤ e.Sym) && decide (e.Sym < 5) && (decide (e.Kind = 1) || decide (e.Sym = 0)) && (if e.Kind = 7 then decide (1 ≤ e.N) && decide (e.N ≤ 20) else decide (e.N = 0))
mutual
def dW : GEx → Bool
 | ⟨a, b, c, ks⟩ => eD ⟨a, b, c, ks⟩ && jX ks
def jX : List GEx → Bool
 | [] => true
 | x :: xs => dW x && jX xs
end
mutual
def exD : GEx → Nat
 | ⟨_, _, _, ks⟩ => 1 + jy ks
def jy : List GEx → Nat
 | [] => 0
 | x :: xs => max (exD x) (jy xs)
end
theorem kn (e : GEx) : dW e = (eD e && jX e.Kids) := by cases e; simp only [dW]
theorem nf (e : GEx) : exD e = 1 + jy e.Kids := by cases e; simp only [exD]
theorem j4 : ∀ l : List GEx, jX l = l.all dW
 | [] => by simp only [jX]; rfl
 | x :: xs => by simp only [jX, j4 xs, List.all_cons]
theorem mT : ∀ (l : List GEx) (d : Nat), jy l ≤ d ↔ ∀ x ∈ l, exD x ≤ d
 | [], d => by simp [jy]
 | x :: xs, d => by
  simp only [jy, Nat.max_le, mT xs d, List.mem_cons]
  exact ⟨fun h y hy => hy.elim (fun e => e ▸ h.1) (h.2 y), fun h => ⟨h x (.inl rfl), fun y hy => h y (.inr hy)⟩⟩
/-- well formed, no deeper than d -/
def ka : Nat → GEx → Bool
 | 0, _ => false
 | d + 1, e => eD e && e.Kids.all (ka d)
theorem vN : ∀ (d : Nat) (e : GEx), ka d e = (decide (exD e ≤ d) && dW e)
 | 0, e => by rw [nf]; simp [ka]
 | d + 1, e => by
  rw [ka, kn, j4, nf]
  have h : e.Kids.all (ka d) = (decide (1 + jy e.Kids ≤ d + 1) && e.Kids.all dW) := by
   rw [Bool.eq_iff_iff]
   simp only [List.all_eq_true, Bool.and_eq_true, decide_eq_true_eq, vN d]
   constructor
   ·intro h
    refine ⟨?_, fun x hx => (h x hx).2⟩
    have := (mT e.Kids d).2 fun x hx => (h x hx).1
    omega
   ·rintro ⟨h1, h2⟩ x hx
    exact ⟨(mT e.Kids d).1 (by omega) x hx, h2 x hx⟩
  rw [h]
  cases eD e <;> cases decide (1 + jy e.Kids ≤ d + 1) <;> rfl
theorem vT (k : Nat) (rec' : GEx → Int → Option Bool) (e : GEx) (q : Int) (g : GEx → Bool) (hl : e.Kids.length < 4611686018427387904) (H : ∀ x ∈ e.Kids, rec' x (IntKind.wrap .i64 (q - 1)) = some (g x)) :
  ∀ (d n i : Nat), i + d = e.Kids.length → d < n →
   ax.l0 k rec' e q n (i : Int) = some (if (e.Kids.drop i).all g then .ok () else .error false) ∧
   ax.l1 k rec' e q n (i : Int) = some (if (e.Kids.drop i).all g then .ok () else .error false) ∧
   ax.l2 k rec' e q n (i : Int) = some (if (e.Kids.drop i).all g then .ok () else .error false) ∧
   ax.l3 k rec' e q n (i : Int) = some (if (e.Kids.drop i).all g then .ok () else .error false) := by
 intro d
 induction d with
 | zero =>
  intro n i hi hn
  obtain ⟨n, rfl⟩ : ∃ m, n = m + 1 := ⟨n - 1, by omega⟩
  rw [List.drop_eq_nil_of_le (by omega)]
  exact ⟨by rw [ax.l0, if_neg (by omega)]; rfl, by rw [ax.l1, if_neg (by omega)]; rfl, by rw [ax.l2, if_neg (by omega)]; rfl, by rw [ax.l3, if_neg (by omega)]; rfl⟩
 | succ d ih =>
  intro n i hi hn
  obtain ⟨n, rfl⟩ : ∃ m, n = m + 1 := ⟨n - 1, by omega⟩
  have hlt : i < e.Kids.length := by omega
  obtain ⟨i0, i1, i2, i3⟩ := ih n (i + 1) (by omega) (by omega)
  rw [List.drop_eq_getElem_cons hlt, List.all_cons]
  refine ⟨?_, ?_, ?_, ?_⟩
  ·rw [ax.l0, if_pos (by omega), ae (by omega), Int.toNat_natCast, List.getElem?_eq_getElem hlt]
   simp only [Option.bind_some, H e.Kids[i] (List.getElem_mem hlt)]
   cases g e.Kids[i]
   ·rfl
   ·rw [if_pos rfl, wrS i (by omega), i0, Bool.true_and]
  ·rw [ax.l1, if_pos (by omega), ae (by omega), Int.toNat_natCast, List.getElem?_eq_getElem hlt]
   simp only [Option.bind_some, H e.Kids[i] (List.getElem_mem hlt)]
   cases g e.Kids[i]
   ·rfl
   ·rw [if_pos rfl, wrS i (by omega), i1, Bool.true_and]
  ·rw [ax.l2, if_pos (by omega), ae (by omega), Int.toNat_natCast, List.getElem?_eq_getElem hlt]
   simp only [Option.bind_some, H e.Kids[i] (List.getElem_mem hlt)]
   cases g e.Kids[i]
   ·rfl
   ·rw [if_pos rfl, wrS i (by omega), i2, Bool.true_and]
  ·rw [ax.l3, if_pos (by omega), ae (by omega), Int.toNat_natCast, List.getElem?_eq_getElem hlt]
   simp only [Option.bind_some, H e.Kids[i] (List.getElem_mem hlt)]
   cases g e.Kids[i]
   ·rfl
   ·rw [if_pos rfl, wrS i (by omega), i3, Bool.true_and]
theorem wd : ∀ (d : Nat) (e : GEx) (k : Nat), d ≤ 5 → exN e ≤ 1048577 → 3 * exN e ≤ k → ax.f k e (d : Int) = some (ka d e)
 | 0, e, k, hd, hs, hk => by
  rw [cA] at hk
  obtain ⟨k, rfl⟩ : ∃ m, k = m + 1 := ⟨k - 1, by omega⟩
  rw [ax.f, if_pos (by decide)]; rfl
 | d + 1, e, k, hd, hs, hk => by
  rw [cA] at hk hs
  have hq := fh e.Kids
  obtain ⟨k, rfl⟩ : ∃ m, k = m + 1 := ⟨k - 1, by omega⟩
  have hw : IntKind.wrap .i64 (((d + 1 : Nat) : Int) - 1) = (d : Int) := wrP d (by omega)
  have H : ∀ x ∈ e.Kids, ax.f k x (IntKind.wrap .i64 (((d + 1 : Nat) : Int) - 1)) = some (ka d x) := fun x hx => by
   have := ec hx
   rw [hw]; exact wd d x k (by omega) (by omega) (by omega)
  obtain ⟨i0, i1, i2, i3⟩ := vT k (ax.f k) e ((d + 1 : Nat) : Int) (ka d) (by omega) H e.Kids.length k 0 (by omega) (by omega)
  rw [show ((0 : Nat) : Int) = 0 from rfl, List.drop_zero] at i0 i1 i2 i3
  rw [ax.f, if_neg (by omega), pC]
  simp only [Option.bind_some, i0, i1, i2, i3, ka, eD]
  cases hA : e.Kids.all (ka d) <;> (repeat' split) <;> simp_all <;> omega
theorem w3 (k : Nat) (rec' : GEx → Int → Option Int) (e : GEx) (q : Int) (hq : 0 < q) (hl : e.Kids.length < 4611686018427387904) (H : ∀ x ∈ e.Kids, rec' x (IntKind.wrap .i64 (q - 1)) = some (exN x : Int)) :
  ∀ (d n i : Nat) (s : Int), i + d = e.Kids.length → d < n → 0 ≤ s → s + bV (e.Kids.drop i) ≤ 100000000 →
   bR.l0 k rec' e q n s (i : Int) = some (s + bV (e.Kids.drop i)) := by
 intro d
 induction d with
 | zero =>
  intro n i s hi hn h0 h1
  obtain ⟨n, rfl⟩ : ∃ m, n = m + 1 := ⟨n - 1, by omega⟩
  rw [bR.l0, if_neg (by omega), List.drop_eq_nil_of_le (by omega), eb]; simp
 | succ d ih =>
  intro n i s hi hn h0 h1
  obtain ⟨n, rfl⟩ : ∃ m, n = m + 1 := ⟨n - 1, by omega⟩
  have hlt : i < e.Kids.length := by omega
  rw [List.drop_eq_getElem_cons hlt, cJ] at h1 ⊢
  rw [bR.l0, if_pos (by omega), if_pos hq, ae (by omega), Int.toNat_natCast, List.getElem?_eq_getElem hlt]
  simp only [Option.bind_some, H e.Kids[i] (List.getElem_mem hlt)]
  push_cast at h1
  rw [wrS i (by omega), wr (s + _) (by omega), ih n (i + 1) _ (by omega) (by omega) (by omega) (by omega)]
  congr 1; push_cast; omega
theorem vI : ∀ (d : Nat) (e : GEx) (k : Nat), d ≤ 5 → exD e ≤ d → exN e ≤ 1048577 → 3 * exN e ≤ k → bR.f k e (d : Int) = some (exN e : Int)
 | 0, e, k, _, hd, _, _ => by rw [nf] at hd; omega
 | d + 1, e, k, hd5, hd, hs, hk => by
  rw [nf] at hd
  rw [cA] at hk hs ⊢
  have hq := fh e.Kids
  obtain ⟨k, rfl⟩ : ∃ m, k = m + 1 := ⟨k - 1, by omega⟩
  have hdd := (mT e.Kids d).1 (by omega)
  have := w3 k (bR.f k) e ((d + 1 : Nat) : Int) (by omega) (by omega) (fun x hx => by
   have := ec hx
   rw [wrP d (by omega)]; exact vI d x k (by omega) (hdd x hx) (by omega) (by omega)) e.Kids.length k 0 1 (by omega) (by omega) (by omega) (by simp only [List.drop_zero]; omega)
  rw [show ((0 : Nat) : Int) = 0 from rfl, List.drop_zero] at this
  rw [bR.f, this]
  simp
theorem Cp : ∀ e : GEx, exD e ≤ exN e := by
 refine lX fun e ih => ?_
 rw [nf, cA]
 have := (mT e.Kids (bV e.Kids)).2 fun x hx => by
  have := ih x hx; have := ec hx; omega
 omega
theorem zI (x : GEx) (xs : List GEx) : jy (x :: xs) = max (exD x) (jy xs) := by simp only [jy]
theorem yT (k : Nat) (rec' : GEx → Option (Int × Int)) (e : GEx) (hl : e.Kids.length < 4611686018427387904) (H : ∀ x ∈ e.Kids, rec' x = some ((exN x : Int), (exD x : Int))) (hb : bV e.Kids ≤ 1048577) :
  ∀ (d n i : Nat) (s t : Int), i + d = e.Kids.length → d < n → 0 ≤ s → s + bV (e.Kids.drop i) ≤ 100000000 → 1 ≤ t →
   bD.l0 k rec' e n s t (i : Int) = some (s + bV (e.Kids.drop i), max t (1 + jy (e.Kids.drop i) : Nat)) := by
 intro d
 induction d with
 | zero =>
  intro n i s t hi hn h0 h1 h2
  obtain ⟨n, rfl⟩ : ∃ m, n = m + 1 := ⟨n - 1, by omega⟩
  rw [bD.l0, if_neg (by omega), List.drop_eq_nil_of_le (by omega), eb, show jy [] = 0 by simp only [jy]]
  congr 2
  ·simp
  ·push_cast; omega
 | succ d ih =>
  intro n i s t hi hn h0 h1 h2
  obtain ⟨n, rfl⟩ : ∃ m, n = m + 1 := ⟨n - 1, by omega⟩
  have hlt : i < e.Kids.length := by omega
  have hd := Cp e.Kids[i]
  have hm := ec (List.getElem_mem hlt : e.Kids[i] ∈ e.Kids)
  rw [List.drop_eq_getElem_cons hlt, cJ] at h1 ⊢
  rw [zI, bD.l0, if_pos (by omega), ae (by omega), Int.toNat_natCast, List.getElem?_eq_getElem hlt]
  simp only [Option.bind_some, H e.Kids[i] (List.getElem_mem hlt)]
  push_cast at h1
  rw [wrS i (by omega), wr (s + _) (by omega), wr ((exD e.Kids[i] : Int) + 1) (by omega)]
  by_cases h : t < (exD e.Kids[i] : Int) + 1
  ·rw [if_pos h, ih n (i + 1) _ _ (by omega) (by omega) (by omega) (by omega) (by omega)]
   congr 2
   ·push_cast; omega
   ·push_cast; omega
  ·rw [if_neg h, ih n (i + 1) _ _ (by omega) (by omega) (by omega) (by omega) (by omega)]
   congr 2
   ·push_cast; omega
   ·push_cast; omega
theorem BZ : ∀ e : GEx, exN e ≤ 1048577 → ∀ k : Nat, 3 * exN e ≤ k → bD.f k e = some ((exN e : Int), (exD e : Int)) := by
 refine lX fun e ih hs k hk => ?_
 rw [cA] at hk hs ⊢
 rw [nf]
 have hq := fh e.Kids
 obtain ⟨k, rfl⟩ : ∃ m, k = m + 1 := ⟨k - 1, by omega⟩
 have := yT k (bD.f k) e (by omega) (fun x hx => ih x hx (by have := ec hx; omega) k (by have := ec hx; omega)) (by omega) e.Kids.length k 0 1 1 (by omega) (by omega) (by omega) (by simp only [List.drop_zero]; omega) (by omega)
 rw [show ((0 : Nat) : Int) = 0 from rfl, List.drop_zero] at this
 rw [bD.f, this]
 simp only [Option.bind_some]
 congr 2
 push_cast; omega
theorem wX (k : Nat) (g : GEx → Option Bool) (h : GEx → Bool) (l : List GEx) (hl : l.length < 4611686018427387904) (H : ∀ x ∈ l, g x = some (h x)) :
  ∀ (d n i : Nat), i + d = l.length → d < n → ∃ r, bt.l0 k g l n (i : Int) = some r ∧ ((∃ j : Int, r = .error j ∧ 0 ≤ j ∧ (l.drop i).any h = true) ∨ (r = .ok () ∧ (l.drop i).any h = false)) := by
 intro d
 induction d with
 | zero =>
  intro n i hi hn
  obtain ⟨n, rfl⟩ : ∃ m, n = m + 1 := ⟨n - 1, by omega⟩
  rw [bt.l0, if_neg (by omega), List.drop_eq_nil_of_le (by omega)]
  exact ⟨_, rfl, .inr ⟨rfl, rfl⟩⟩
 | succ d ih =>
  intro n i hi hn
  obtain ⟨n, rfl⟩ : ∃ m, n = m + 1 := ⟨n - 1, by omega⟩
  have hlt : i < l.length := by omega
  rw [bt.l0, if_pos (by omega), ae (by omega), Int.toNat_natCast, List.getElem?_eq_getElem hlt, List.drop_eq_getElem_cons hlt, List.any_cons]
  simp only [Option.bind_some, H l[i] (List.getElem_mem hlt)]
  cases hh : h l[i] with
  | true => rw [if_pos rfl]; exact ⟨_, rfl, .inl ⟨_, rfl, by omega, rfl⟩⟩
  | false =>
   rw [if_neg (by decide), wrS i (by omega), Bool.false_or]
   exact ih n (i + 1) (by omega) (by omega)
theorem wY (k : Nat) (g : GEx → Option Bool) (h : GEx → Bool) (l : List GEx) (hl : l.length < 4611686018427387904) (H : ∀ x ∈ l, g x = some (h x)) (hk : l.length < k) : bM.f g k l = some (l.any h) := by
 obtain ⟨r, h1, h2⟩ := wX k g h l hl H l.length k 0 (by omega) hk
 rw [show ((0 : Nat) : Int) = 0 from rfl] at h1
 rw [List.drop_zero] at h2
 unfold bM.f bt.f
 rw [h1]
 rcases h2 with ⟨j, rfl, h3, h4⟩ | ⟨rfl, h4⟩
 ·simp only [Option.bind_some, h4, Option.some.injEq, Bool.not_eq_true', decide_eq_false_iff_not]; omega
 ·simp only [Option.bind_some, h4]; rfl
theorem wa (a : Int) (h : 1 ≤ a ∧ a ≤ 7) : ko.f a = some (j8 a) := by
 have : a = 1 ∨ a = 2 ∨ a = 3 ∨ a = 4 ∨ a = 5 ∨ a = 6 ∨ a = 7 := by omega
 rcases this with h | h | h | h | h | h | h <;> subst h <;> rfl
theorem zD (a : Int) (h : ¬ (1 ≤ a ∧ a ≤ 7)) : j8 a = -1 := by
 unfold j8
 repeat rw [if_neg (by omega)]
theorem in_k (a b c : Int) : ba.f a b c = some (decide (b ≤ a) && decide (a ≤ c)) := dH a b c
theorem Bi (l : List GEx) : (!(l.any fun x => !dW x)) = jX l := by
 rw [j4]
 induction l with
 | nil => rfl
 | cons x xs ih => simp only [List.any_cons, List.all_cons, ← ih]; cases dW x <;> simp
theorem Ay : ∀ e : GEx, exN e ≤ 1048577 → ∀ k : Nat, 3 * exN e ≤ k → dl.f k e = some (dW e) := by
 refine lX fun e ih hs k hk => ?_
 rw [cA] at hk hs
 have hq := fh e.Kids
 obtain ⟨k, rfl⟩ : ∃ m, k = m + 2 := ⟨k - 2, by omega⟩
 have hc : bM.f (fun y0 => bJ.f (k + 1) y0) (k + 1) e.Kids = some (e.Kids.any fun x => !dW x) := by
  refine wY (k + 1) _ _ _ (by omega) (fun x hx => ?_) (by omega)
  have := ec hx
  rw [bJ.f, ih x hx (by omega) k (by omega)]; rfl
 rw [dl.f, kn, ← Bi]
 simp only [ff.f, dd.f, in_k, hc, Option.bind_some]
 by_cases hk7 : 1 ≤ e.Kind ∧ e.Kind ≤ 7
 ·simp only [wa e.Kind hk7, Option.bind_some, eD]
  cases hA : e.Kids.any (fun x => !dW x) <;> (repeat' split) <;> simp_all <;> omega
 ·have h0 := zD e.Kind hk7
  have h1 : eD e = false := by
   unfold eD
   rw [h0]
   have : ¬ ((-1 : Int) = (e.Kids.length : Int)) := by omega
   simp [this]
  have h2 : (decide (1 ≤ e.Kind) && decide (e.Kind ≤ 7)) = false := by
   rw [Bool.eq_false_iff]; simp only [ne_eq, Bool.and_eq_true, decide_eq_true_eq]; exact hk7
  rw [h1, h2]; rfl
def jn (e : GEx) : Bool := decide (exN e ≤ 12) && decide (exD e ≤ 5) && dW e
theorem qk (e : GEx) (hs : exN e ≤ 1048577) (k : Nat) (hk : 3 * exN e ≤ k) : gY.f k e = some (jn e) := by
 unfold gY.f
 rw [show (5 : Int) = ((5 : Nat) : Int) from rfl, wd 5 e k (by omega) hs hk, vN]
 simp only [Option.bind_some, jn]
 by_cases hd : exD e ≤ 5
 ·rw [vI 5 e k (by omega) hd hs hk]
  cases dW e
  ·simp
  ·simp only [hd, decide_true, Bool.and_self, if_true, Option.bind_some, Bool.and_true]
   by_cases h : exN e ≤ 12
   ·simp [h]; omega
   ·simp [h]; omega
 ·simp [hd]
theorem mv (e : GEx) (hs : exN e ≤ 1048577) (k : Nat) (hk : 3 * exN e ≤ k) : hU.f k e = some (jn e) := by
 unfold hU.f
 rw [BZ e hs k hk, Ay e hs k hk]
 simp only [Option.bind_some, jn]
 by_cases h : 12 < (exN e : Int)
 ·rw [if_pos h]; simp; omega
 ·rw [if_neg h]
  by_cases h2 : 5 < (exD e : Int)
  ·rw [if_pos h2]; simp; omega
  ·rw [if_neg h2]
   have a1 : exN e ≤ 12 := by omega
   have a2 : exD e ≤ 5 := by omega
   simp [a1, a2]
theorem gR {e : GEx} (h : dW e = true) : eD e = true ∧ ∀ x ∈ e.Kids, dW x = true := by
 rw [kn, Bool.and_eq_true, j4, List.all_eq_true] at h
 exact h
theorem ir {e : GEx} (h : eD e = true) : (e.Kind = 1 ∧ e.Kids.length = 0) ∨ (e.Kind = 2 ∧ e.Kids.length = 2) ∨ (e.Kind = 3 ∧ e.Kids.length = 2) ∨ (e.Kind = 4 ∧ e.Kids.length = 2) ∨ (e.Kind = 5 ∧ e.Kids.length = 3) ∨ (e.Kind = 6 ∧ e.Kids.length = 3) ∨ (e.Kind = 7 ∧ e.Kids.length = 1 ∧ 1 ≤ e.N ∧ e.N ≤ 20) := by
 unfold eD j8 at h
 simp only [Bool.and_eq_true, decide_eq_true_eq] at h
 obtain ⟨⟨⟨⟨h1, h2⟩, h3⟩, h4⟩, h5⟩ := h
 repeat' split at h1
 all_goals first | omega | skip
 rw [if_pos (by assumption), Bool.and_eq_true, decide_eq_true_eq, decide_eq_true_eq] at h5
 omega
theorem getD_some {α : Type} {r : List α} {d : α} {i : Nat} (h : i < r.length) : r[i]? = some (r.getD i d) := by
 rw [List.getD_eq_getElem?_getD, List.getElem?_eq_getElem h]; rfl
theorem kk {x : GEx} (h : jn x = true) : exN x ≤ 12 ∧ dW x = true := by
 unfold jn at h
 simp only [Bool.and_eq_true, decide_eq_true_eq] at h
 exact ⟨h.1.1, h.2⟩
def All (Q : GOcc → Prop) (l : List GOcc) : Prop := ∀ x ∈ l, Q x
def fm (Q : GOcc → Prop) : Prop := ∀ a b, Q a → Q b → Q (dy a b)
theorem All.nil {Q : GOcc → Prop} : All Q [] := fun x hx => by simp at hx
theorem All.filter {Q : GOcc → Prop} {l : List GOcc} (h : All Q l) (p : GOcc → Bool) : All Q (l.filter p) := fun x hx => h x (List.mem_filter.1 hx).1
theorem All.merge {Q : GOcc → Prop} {l m : List GOcc} (h : All Q l) (hm : All Q m) : All Q (bQ l m) := fun x hx => by
 rcases ju.1 hx with h1 | h1
 ·exact h x h1
 ·exact hm x h1
theorem All.put {Q : GOcc → Prop} {l : List GOcc} {o : GOcc} (h : All Q l) (ho : Q o) : All Q (bZ l o) := fun x hx => by
 rcases eC.1 hx with h1 | rfl
 ·exact h x h1
 ·exact ho
theorem All.rem {Q : GOcc → Prop} {l g : List GOcc} (h : All Q l) : All Q (tz l g) := h.filter _
theorem All.sum {Q : GOcc → Prop} (hj : fm Q) : ∀ {l : List GOcc} {o : GOcc}, All Q l → Q o → Q (rb o l)
 | [], o, _, ho => ho
 | x :: l, o, h, ho => All.sum hj (l := l) (o := dy o x) (fun y hy => h y (by simp [hy])) (hj _ _ ho (h x (by simp)))
theorem All.eachs {Q : GOcc → Prop} (hj : fm Q) {o : GOcc} (ho : Q o) : ∀ (l acc : List GOcc), All Q l → All Q acc → All Q (l.foldl (fun s e => bZ s (dy o e)) acc)
 | [], acc, _, ha => ha
 | x :: l, acc, h, ha => All.eachs hj ho l _ (fun y hy => h y (by simp [hy])) (ha.put (hj _ _ ho (h x (by simp))))
theorem All.found {Q : GOcc → Prop} (hj : fm Q) {mode : Int} {o : GOcc} {l : List GOcc} (h : All Q l) (ho : Q o) : All Q (eg mode o l) := by
 have one : ∀ x : GOcc, Q x → All Q [x] := fun x hx y hy => by rw [List.mem_singleton.1 hy]; exact hx
 unfold eg
 by_cases h0 : l.length = 0
 ·rw [if_pos h0]; exact All.nil
 rw [if_neg h0]
 split
 ·exact one _ (hj _ _ ho (by rw [List.getElem?_eq_getElem (show l.length - 1 < l.length by omega)]; exact h _ (List.getElem_mem _)))
 split
 ·exact one _ (hj _ _ ho (by rw [List.getElem?_eq_getElem (show 0 < l.length by omega)]; exact h _ (List.getElem_mem _)))
 split
 ·exact one _ (All.sum hj h ho)
 ·exact All.eachs hj ho l [] h All.nil
theorem All.one {Q : GOcc → Prop} (hj : fm Q) {mode : Int} {p : GOcc → GOcc → Bool} {s : List GOcc × List GOcc} {o : GOcc} (h1 : All Q s.1) (h2 : All Q s.2) (ho : Q o) : All Q (en mode p s o).1 ∧ All Q (en mode p s o).2 :=
 ⟨h1.rem, h2.merge ((h1.filter _).found hj ho)⟩
theorem All.ones {Q : GOcc → Prop} (hj : fm Q) {mode : Int} {p : GOcc → GOcc → Bool} : ∀ (r : List GOcc) {s : List GOcc × List GOcc}, All Q r → All Q s.1 → All Q s.2 → All Q (r.foldl (en mode p) s).1 ∧ All Q (r.foldl (en mode p) s).2
 | [], s, _, h1, h2 => ⟨h1, h2⟩
 | o :: r, s, hr, h1, h2 => by
  obtain ⟨a, b⟩ := All.one hj (mode := mode) (p := p) h1 h2 (hr o (by simp))
  exact All.ones hj r (s := en mode p s o) (fun y hy => hr y (by simp [hy])) a b
theorem All.store {Q : GOcc → Prop} {mode : Int} {own : List GOcc} {o : GOcc} {alone : Bool} (h : All Q own) (ho : Q o) : All Q (jo mode own o alone) := by
 unfold jo
 split
 ·exact fun y hy => by rw [List.mem_singleton.1 hy]; exact ho
 split
 ·exact h.put ho
 split
 ·exact h.put ho
 ·exact h
def nM (Q : GOcc → Prop) (s : List GOcc × List GOcc × List GOcc) : Prop := All Q s.1 ∧ All Q s.2.1 ∧ All Q s.2.2
theorem nM.half {Q : GOcc → Prop} (hj : fm Q) {mode : Int} {s : List GOcc × List GOcc × List GOcc} {o : GOcc} (h : nM Q s) (ho : Q o) : nM Q (eZ mode s o) := ⟨h.1.store ho, h.2.1.rem, h.2.2.merge (h.2.1.found hj ho)⟩
theorem nM.other {Q : GOcc → Prop} (hj : fm Q) {mode : Int} {s : List GOcc × List GOcc × List GOcc} {o : GOcc} (h : nM Q s) (ho : Q o) : nM Q (ke mode s o) := by
 have := nM.half hj (mode := mode) (s := (s.2.1, s.1, s.2.2)) ⟨h.2.1, h.1, h.2.2⟩ ho
 exact ⟨this.2.1, this.1, this.2.2⟩
theorem gX {α σ : Type} (P : σ → Prop) (g : σ → α → σ) : ∀ (l : List α) (s : σ), (∀ s, ∀ x ∈ l, P s → P (g s x)) → P s → P (l.foldl g s)
 | [], s, _, h => h
 | x :: l, s, hs, h => gX P g l (g s x) (fun s y hy => hs s y (by simp [hy])) (hs s x (by simp) h)
/-- a step keeps Q -/
def AZ (Q : GOcc → Prop) (f : Two → List GOcc → List GOcc → Two × List GOcc) : Prop := ∀ (p : Two) (l r : List GOcc), All Q p.1 → All Q p.2 → All Q l → All Q r → All Q (f p l r).1.1 ∧ All Q (f p l r).1.2 ∧ All Q (f p l r).2
def yV (Q : GOcc → Prop) (f : Two → List GOcc → List GOcc → List GOcc → Two × List GOcc) : Prop := ∀ (p : Two) (a b c : List GOcc), All Q p.1 → All Q p.2 → All Q a → All Q b → All Q c → All Q (f p a b c).1.1 ∧ All Q (f p a b c).1.2 ∧ All Q (f p a b c).2
theorem zi {Q : GOcc → Prop} (hj : fm Q) (mode : Int) : AZ Q (seqF mode) := fun p l r h1 h2 hl hr => by
 obtain ⟨a, b⟩ := All.ones hj (mode := mode) (p := before) r (s := (p.1, [])) hr h1 All.nil
 exact ⟨a.merge hl, h2, b⟩
theorem yW {Q : GOcc → Prop} (hj : fm Q) (mode : Int) : AZ Q (andF mode) := fun p l r h1 h2 hl hr => by
 have a := gX (nM Q) (eZ mode) l (p.1, p.2, []) (fun s x hx h => h.half hj (hl x hx)) ⟨h1, h2, All.nil⟩
 have b := gX (nM Q) (ke mode) r _ (fun s x hx h => h.other hj (hr x hx)) a
 exact ⟨b.1, b.2.1, b.2.2⟩
theorem zH {Q : GOcc → Prop} (hj : fm Q) (mode : Int) : yV Q (notF mode) := fun p a b c h1 h2 ha hb hc => by
 obtain ⟨x, y⟩ := All.ones hj (mode := mode) (p := eJ p.2) c (s := (p.1, [])) hc h1 All.nil
 exact ⟨x.merge ha, h2.merge hb, y⟩
theorem yb {Q : GOcc → Prop} (hj : fm Q) (mode : Int) : yV Q (eachF mode) := fun p a b c h1 h2 ha hb hc =>
 ⟨h1.merge ha, h2.merge hc, gX (All Q) _ b [] (fun s x hx h => h.merge ((h1.filter _).found hj (hb x hx))) All.nil⟩
theorem vD : ∀ {l : List Int} {p : Int}, Up l → (∀ x ∈ l, p < x ∧ x ≤ 23) → fY p l = true
 | [], _, _, _ => rfl
 | x :: l, p, hu, h => by
  have hu' := List.pairwise_cons.1 hu
  have := h x (by simp)
  simp only [fY, Bool.and_eq_true, decide_eq_true_eq]
  exact ⟨this, vD hu'.2 fun y hy => ⟨hu'.1 y hy, (h y (by simp [hy])).2⟩⟩
theorem fM (o : GOcc) : eK o = true ↔ 1 ≤ o.From ∧ o.From ≤ o.To ∧ o.To ≤ 2000 ∧ 1 ≤ o.Ids.length ∧ cr o.Ids := by
 unfold eK
 simp only [Bool.and_eq_true, decide_eq_true_eq]
 constructor
 ·rintro ⟨⟨⟨⟨a, b⟩, c⟩, d⟩, e⟩
  exact ⟨a, b, c, d, vA e⟩
 ·rintro ⟨a, b, c, d, e⟩
  exact ⟨⟨⟨⟨a, b⟩, c⟩, d⟩, vD e.1 fun x hx => by have := e.2 x hx; omega⟩
theorem yL {l : List GOcc} (h1 : All (fun o => eK o = true) l) (h2 : Asc l) (h3 : l.length ≤ 40) : da l = true := by
 unfold da
 simp only [Bool.and_eq_true, List.all_eq_true, List.mem_range', decide_eq_true_eq]
 refine ⟨?_, h3⟩
 rintro i ⟨j, hj, rfl⟩
 rw [show 0 + 1 * j = j by omega]
 unfold jI
 rw [List.getElem?_eq_getElem hj]
 simp only [Bool.and_eq_true]
 refine ⟨h1 _ (List.getElem_mem hj), ?_⟩
 cases j with
 | zero => rfl
 | succ j =>
  simp only [jO, List.getElem?_eq_getElem (show j < l.length by omega)]
  exact List.pairwise_iff_getElem.1 h2 _ _ _ _ (by omega)
/-- right, and not fb T -/
def lO (T : Int) (o : GOcc) : Prop := eK o = true ∧ o.To ≤ T
/-- events that rise in time -/
def AT (l : List GEv) : Prop := l.Pairwise (fun a b => a.At < b.At) ∧ (∀ e ∈ l, 1 ≤ e.At ∧ e.At ≤ 1000) ∧ l.length ≤ 24
theorem An {l : List GEv} (h : dQ l = true) : AT l := by
 have h24 := fO h
 refine ⟨?_, fun e he => by have := nQ h he; unfold jP at this; simp only [Bool.and_eq_true, decide_eq_true_eq] at this; omega, h24⟩
 unfold dQ at h
 simp only [Bool.and_eq_true, List.all_eq_true, List.mem_range', decide_eq_true_eq] at h
 have step : ∀ i (hi : i + 1 < l.length), l[i].At < l[i + 1].At := fun i hi => by
  have := h.1 (i + 1) ⟨i + 1, by omega, by omega⟩
  unfold iJ at this
  rw [List.getElem?_eq_getElem hi] at this
  simp only [Bool.and_eq_true, ku, List.getElem?_eq_getElem (show i < l.length by omega), decide_eq_true_eq] at this
  exact this.2
 have far : ∀ d i (hi : i + d + 1 < l.length), l[i].At < l[i + d + 1].At := fun d => by
  induction d with
  | zero => intro i hi; exact step i hi
  | succ d ih => intro i hi; have := ih i (by omega); have := step (i + d + 1) hi; simp only [show i + (d + 1) + 1 = i + d + 1 + 1 by omega]; omega
 refine List.pairwise_iff_getElem.2 fun i j hi hj hij => ?_
 have := far (j - i - 1) i (by omega)
 have e : i + (j - i - 1) + 1 = j := by omega
 simp only [e] at this
 exact this
theorem vH (k : Nat) (hk : 1000000000000 ≤ k) (l : List GEv) (hl : l.length ≤ 1000000) : cg.f k l = some (dQ l) := by
 unfold cg.f dQ
 have := lY k l (by omega) l.length k 0 (by omega) (by omega)
 rw [show ((0 : Nat) : Int) = 0 from rfl] at this
 rw [this]
 cases (List.range' 0 l.length).all (iJ l)
 ·simp
 ·simp only [if_true, Option.bind_some, Bool.true_and, Option.some.injEq]
  by_cases h : l.length ≤ 24
  ·have : ¬ (24 : Int) < l.length := by omega
   simp [h, this]
  ·have : (24 : Int) < l.length := by omega
   simp [h, this]
theorem AN {y : Int} (h : (Lit.int .u8 y).wf = true) : 0 ≤ y ∧ y ≤ 255 := by
 simp only [Lit.wf, Bool.and_eq_true, decide_eq_true_eq] at h
 exact h
theorem Cj (a b : Int) (ha : 0 ≤ a ∧ a < 4611686018427387904) (hb : 0 ≤ b ∧ b < 4611686018427387904) : 0 ≤ cE .xor .i64 a b ∧ cE .xor .i64 a b < 4611686018427387904 := by
 obtain ⟨m, rfl⟩ : ∃ m : Nat, a = m := ⟨a.toNat, by omega⟩
 obtain ⟨n, rfl⟩ : ∃ n : Nat, b = n := ⟨b.toNat, by omega⟩
 have h : (BitVec.ofInt 64 (m : Int) ^^^ BitVec.ofInt 64 (n : Int)).toNat = m ^^^ n := by
  rw [BitVec.toNat_xor, BitVec.ofInt_natCast, BitVec.ofInt_natCast, BitVec.toNat_ofNat, BitVec.toNat_ofNat, Nat.mod_eq_of_lt (by omega), Nat.mod_eq_of_lt (by omega)]
 have h2 : m ^^^ n < 2 ^ 62 := Nat.xor_lt_two_pow (by omega) (by omega)
 show 0 ≤ IntKind.wrap .i64 ((BitVec.ofInt 64 (m : Int) ^^^ BitVec.ofInt 64 (n : Int)).toNat : Int) ∧ _
 have e : cE .xor .i64 (m : Int) (n : Int) = IntKind.wrap .i64 ((BitVec.ofInt 64 (m : Int) ^^^ BitVec.ofInt 64 (n : Int)).toNat : Int) := rfl
 rw [e, h, wr _ (by omega)]
 omega
theorem nr (a b : Int) (ha : 0 ≤ a ∧ a < 4611686018427387904) (hb : 1 ≤ b ∧ b < 4611686018427387904) : cE .rem .i64 a b = a % b := by
 show a.tmod b = a % b
 exact Int.tmod_eq_emod_of_nonneg ha.1
theorem rF (a b : Int) (ha : 0 ≤ a ∧ a < 4611686018427387904) (hb : 1 ≤ b ∧ b < 4611686018427387904) : cE .quo .i64 a b = a / b ∧ 0 ≤ a / b ∧ a / b ≤ a := by
 have e : cE .quo .i64 a b = IntKind.wrap .i64 (a.tdiv b) := rfl
 have h1 := Int.ediv_nonneg ha.1 (show 0 ≤ b by omega)
 have h2 := Int.ediv_le_self b ha.1
 rw [e, Int.tdiv_eq_ediv_of_nonneg ha.1, wr _ (by omega)]
 exact ⟨rfl, h1, h2⟩
/-- a reader over bytes that has read no more than m -/
def cK (r : Gl14Rd) (m : Int) : Prop := (∀ x ∈ r.b, 0 ≤ x ∧ x ≤ 255) ∧ r.b.length ≤ 1048576 ∧ 0 ≤ r.p ∧ r.p ≤ m
theorem cK.mono {r : Gl14Rd} {m n : Int} (h : cK r m) (hm : m ≤ n) : cK r n := ⟨h.1, h.2.1, h.2.2.1, by have := h.2.2.2; omega⟩
theorem fE (r : Gl14Rd) (n : Int) (m : Int) (h : cK r m) (hm : m ≤ 1000000000) (hn : n < 4611686018427387904) : ∃ v r', aY.f r n = some (v, r') ∧ 0 ≤ v ∧ (1 ≤ n → v < n) ∧ (n < 1 → v = 0) ∧ cK r' (m + 1) := by
 obtain ⟨hb, hl, h0, h1⟩ := h
 have hw : IntKind.wrap .i64 (r.p + 1) = r.p + 1 := wr _ (by omega)
 have hr' : cK ⟨r.b, r.p + 1⟩ (m + 1) := ⟨hb, hl, by dsimp only; omega, by dsimp only; omega⟩
 unfold aY.f
 simp only [hw]
 by_cases hn1 : n < 1
 ·rw [if_pos hn1]; exact ⟨0, _, rfl, by omega, by omega, fun _ => rfl, hr'⟩
 rw [if_neg hn1]
 by_cases hb0 : (r.b.length : Int) = 0
 ·rw [if_pos hb0]; exact ⟨0, _, rfl, by omega, by omega, fun _ => rfl, hr'⟩
 rw [if_neg hb0]
 have hq : IntKind.wrap .i64 (r.p + 1 - 1) = r.p := by rw [wr _ (by omega)]; omega
 simp only [hq]
 by_cases hp : r.p < (r.b.length : Int)
 ·have hlt : r.p.toNat < r.b.length := by omega
  have he := hb r.b[r.p.toNat] (List.getElem_mem hlt)
  rw [if_pos hp, ae h0, List.getElem?_eq_getElem hlt]
  simp only [Option.bind_some]
  rw [ae (by omega), wr _ (by omega), nr _ _ (by omega) (by omega)]
  have g1 := Int.emod_nonneg r.b[r.p.toNat] (show n ≠ 0 by omega)
  have g2 := Int.emod_lt_of_pos r.b[r.p.toNat] (show 0 < n by omega)
  exact ⟨_, _, rfl, g1, fun _ => g2, fun h => absurd h hn1, hr'⟩
 ·rw [if_neg hp, ae hb0]
  rw [wr (r.p * 7) (by omega), wr (r.p * 7 + 3) (by omega), wr (r.p * 29) (by omega), nr r.p _ (by omega) (by omega), nr (r.p * 7 + 3) _ (by omega) (by omega), (rF r.p _ (by omega) (by omega)).1]
  have q1 := Int.emod_nonneg r.p hb0
  have q2 := Int.emod_lt_of_pos r.p (show 0 < (r.b.length : Int) by omega)
  have q3 := Int.emod_nonneg (r.p * 7 + 3) hb0
  have q4 := Int.emod_lt_of_pos (r.p * 7 + 3) (show 0 < (r.b.length : Int) by omega)
  have q5 := (rF r.p (r.b.length : Int) (by omega) (by omega)).2
  generalize r.p % (r.b.length : Int) = i at *
  generalize (r.p * 7 + 3) % (r.b.length : Int) = j at *
  generalize r.p / (r.b.length : Int) = d at *
  have hi : i.toNat < r.b.length := by omega
  have hj : j.toNat < r.b.length := by omega
  have e1 := hb r.b[i.toNat] (List.getElem_mem hi)
  have e2 := hb r.b[j.toNat] (List.getElem_mem hj)
  rw [ae q1, List.getElem?_eq_getElem hi]
  simp only [Option.bind_some]
  rw [ae hb0, ae q3, List.getElem?_eq_getElem hj]
  simp only [Option.bind_some]
  generalize r.b[i.toNat] = x at *
  generalize r.b[j.toNat] = y at *
  rw [ae hb0, ae (by omega)]
  simp only [wr x (by omega), wr y (by omega), wr (x * 131) (by omega), wr (y * 1117) (by omega), wr (d * 53) (by omega), wr (x * 131 + y * 1117) (by omega), wr (x * 131 + y * 1117 + r.p * 29) (by omega), wr (x * 131 + y * 1117 + r.p * 29 + d * 53) (by omega)]
  have u := rF (x * 131 + y * 1117 + r.p * 29 + d * 53) 64 (by omega) (by omega)
  have v := Cj (x * 131 + y * 1117 + r.p * 29 + d * 53) (cE .quo .i64 (x * 131 + y * 1117 + r.p * 29 + d * 53) 64) (by omega) (by rw [u.1]; omega)
  rw [nr _ n v (by omega)]
  exact ⟨_, _, rfl, Int.emod_nonneg _ (by omega), fun _ => Int.emod_lt_of_pos _ (by omega), fun h => absurd h hn1, hr'⟩
theorem eU (r : Gl14Rd) (l : List Int) (m : Int) (h : cK r m) (hm : m ≤ 1000000000) (hl : 1 ≤ l.length ∧ l.length < 1000) : ∃ v r', aG.f r l = some (v, r') ∧ v ∈ l ∧ cK r' (m + 1) := by
 obtain ⟨v, r', h1, h2, h3, h4, h5⟩ := fE r l.length m h hm (by omega)
 have hv := h3 (by omega)
 unfold aG.f
 rw [h1]
 simp only [Option.bind_some]
 rw [ae h2, List.getElem?_eq_getElem (show v.toNat < l.length by omega)]
 exact ⟨_, _, rfl, List.getElem_mem _, h5⟩
theorem yo (l : List Int) (hl : l.length ≤ 1048576) (hb : ∀ y ∈ l, 0 ≤ y ∧ y ≤ 255) : ∃ r, gS.f l = some r ∧ cK r 0 := by
 unfold gS.f
 by_cases h : 2000 < (l.length : Int)
 ·rw [if_pos h, ae (by omega), ae (by omega), ae (by omega)]
  exact ⟨_, rfl, fun x hx => hb x (List.mem_of_mem_take hx), by simp; omega, by dsimp only; omega, by dsimp only; omega⟩
 ·rw [if_neg h]
  exact ⟨_, rfl, hb, hl, by dsimp only; omega, by dsimp only; omega⟩
theorem iH : ∀ l m : List GEx, bV (l ++ m) = bV l + bV m
 | [], m => by simp [eb]
 | x :: l, m => by rw [List.cons_append, cJ, cJ, iH l m]; omega
theorem jL (x : GEx) : bV [x] = exN x := by rw [cJ, eb]; omega
theorem rn (a b c : Int) : exN ⟨a, b, c, []⟩ = 1 := by rw [cA, eb]
theorem xY (k : Nat) (rec' : Gl14Rd → Int → Option (GEx × Gl14Rd)) (p1 : Int) (B N : Nat) (M : Int)
  (H : ∀ (r : Gl14Rd) (m : Int), cK r m → m ≤ M → ∃ x r', rec' r (IntKind.wrap .i64 (p1 - 1)) = some (x, r') ∧ cK r' (m + B) ∧ exN x ≤ N) :
  ∀ (c n : Nat) (b : List Int) (p m : Int) (acc : List GEx), c < n → c ≤ 3 → cK ⟨b, p⟩ m → m + c * B ≤ M + B → bV acc + c * N ≤ 1000000 →
   ∃ acc' b' p', aW.l0 k rec' p1 n b p acc (c : Int) = some (acc', b', p') ∧ cK ⟨b', p'⟩ (m + c * B) ∧ bV acc' ≤ bV acc + c * N := by
 intro c
 induction c with
 | zero =>
  intro n b p m acc hn hc hr hm ha
  obtain ⟨n, rfl⟩ : ∃ m, n = m + 1 := ⟨n - 1, by omega⟩
  rw [aW.l0, if_neg (by omega)]
  exact ⟨_, _, _, rfl, by simpa using hr, by simp⟩
 | succ c ih =>
  intro n b p m acc hn hc hr hm ha
  obtain ⟨n, rfl⟩ : ∃ m, n = m + 1 := ⟨n - 1, by omega⟩
  have hcB : ((c + 1 : Nat) : Int) * B = c * B + B := by rw [Int.natCast_succ, Int.add_mul]; omega
  have hcN : (c + 1) * N = c * N + N := Nat.succ_mul c N
  have hcB0 : (0 : Int) ≤ c * B := Int.mul_nonneg (by omega) (by omega)
  obtain ⟨x, r', e1, e2, e3⟩ := H ⟨b, p⟩ m hr (by omega)
  have hla := fh acc
  rw [aW.l0, if_pos (by omega), e1]
  simp only [Option.bind_some]
  rw [ae (by omega), wrP c (by omega)]
  obtain ⟨acc', b', p', q1, q2, q3⟩ := ih n r'.b r'.p (m + B) (acc ++ [x]) (by omega) (by omega) e2 (by omega) (by rw [iH, jL]; omega)
  refine ⟨acc', b', p', q1, q2.mono (by omega), ?_⟩
  rw [iH, jL] at q3
  omega
theorem yy (k : Nat) (rec' : Gl14Rd → Int → Option (GEx × Gl14Rd)) (p1 : Int) (B N : Nat) (M : Int)
  (H : ∀ (r : Gl14Rd) (m : Int), cK r m → m ≤ M → ∃ x r', rec' r (IntKind.wrap .i64 (p1 - 1)) = some (x, r') ∧ cK r' (m + B) ∧ exN x ≤ N) :
  ∀ (c n : Nat) (b : List Int) (p m : Int) (acc : List GEx), c < n → c ≤ 3 → cK ⟨b, p⟩ m → m + c * B ≤ M + B → bV acc + c * N ≤ 1000000 →
   ∃ acc' b' p', aW.l1 k rec' p1 n b p acc (c : Int) = some (acc', b', p') ∧ cK ⟨b', p'⟩ (m + c * B) ∧ bV acc' ≤ bV acc + c * N := by
 intro c
 induction c with
 | zero =>
  intro n b p m acc hn hc hr hm ha
  obtain ⟨n, rfl⟩ : ∃ m, n = m + 1 := ⟨n - 1, by omega⟩
  rw [aW.l1, if_neg (by omega)]
  exact ⟨_, _, _, rfl, by simpa using hr, by simp⟩
 | succ c ih =>
  intro n b p m acc hn hc hr hm ha
  obtain ⟨n, rfl⟩ : ∃ m, n = m + 1 := ⟨n - 1, by omega⟩
  have hcB : ((c + 1 : Nat) : Int) * B = c * B + B := by rw [Int.natCast_succ, Int.add_mul]; omega
  have hcN : (c + 1) * N = c * N + N := Nat.succ_mul c N
  have hcB0 : (0 : Int) ≤ c * B := Int.mul_nonneg (by omega) (by omega)
  obtain ⟨x, r', e1, e2, e3⟩ := H ⟨b, p⟩ m hr (by omega)
  have hla := fh acc
  rw [aW.l1, if_pos (by omega), e1]
  simp only [Option.bind_some]
  rw [ae (by omega), wrP c (by omega)]
  obtain ⟨acc', b', p', q1, q2, q3⟩ := ih n r'.b r'.p (m + B) (acc ++ [x]) (by omega) (by omega) e2 (by omega) (by rw [iH, jL]; omega)
  refine ⟨acc', b', p', q1, q2.mono (by omega), ?_⟩
  rw [iH, jL] at q3
  omega
theorem Ai {v : Int} (h : v ∈ ([2, 3, 3, 4, 4, 4, 5, 6, 7] : List Int)) : ∃ c : Nat, j8 v = (c : Int) ∧ c ≤ 3 := by
 simp only [List.mem_cons, List.not_mem_nil, or_false] at h
 rcases h with rfl | rfl | rfl | rfl | rfl | rfl | rfl | rfl | rfl
 all_goals first | exact ⟨2, rfl, by omega⟩ | exact ⟨3, rfl, by omega⟩ | exact ⟨1, rfl, by omega⟩
theorem wy : ∀ (d : Nat), d ≤ 4 → ∀ (k : Nat), 1000000000000 + d ≤ k → ∀ (r : Gl14Rd) (m : Int), cK r m → m ≤ 100000000 - 10 ^ (d + 1) → ∃ x r', aW.f k r (d : Int) = some (x, r') ∧ cK r' (m + (10 ^ (d + 1) : Nat)) ∧ exN x ≤ 4 ^ d := by
 intro d
 induction d with
 | zero =>
  intro hd k hk r m hr hm
  obtain ⟨k, rfl⟩ : ∃ m, k = m + 1 := ⟨k - 1, by omega⟩
  obtain ⟨v, r', h1, h2, h3⟩ := eU r [0, 0, 1, 1, 2, 2, 3, 4] m hr (by omega) (by simp)
  rw [aW.f, if_neg (by omega), h1]
  exact ⟨_, _, rfl, h3.mono (by omega), by rw [rn]; simp⟩
 | succ d ih =>
  intro hd k hk r m hr hm
  obtain ⟨k, rfl⟩ : ∃ m, k = m + 1 := ⟨k - 1, by omega⟩
  have p10 : (10 : Nat) ^ (d + 1 + 1) = 10 ^ (d + 1) * 10 := Nat.pow_succ ..
  have p10i : (10 : Int) ^ (d + 1 + 1) = 10 ^ (d + 1) * 10 := Int.pow_succ ..
  have c10 : ((10 ^ (d + 1) : Nat) : Int) = (10 : Int) ^ (d + 1) := by push_cast; rfl
  have b10 : 10 ≤ (10 : Nat) ^ (d + 1) := by rw [Nat.pow_succ]; have := Nat.one_le_pow d 10 (by omega); omega
  have p4 : (4 : Nat) ^ (d + 1) = 4 ^ d * 4 := Nat.pow_succ ..
  have b4 : 1 ≤ (4 : Nat) ^ d := Nat.one_le_pow d 4 (by omega)
  have t4 : (4 : Nat) ^ d ≤ 4 ^ 3 := Nat.pow_le_pow_right (by omega) (by omega)
  have t10 : (10 : Nat) ^ (d + 1) ≤ 10 ^ 4 := Nat.pow_le_pow_right (by omega) (by omega)
  rw [aW.f]
  by_cases h1 : 1 < ((d + 1 : Nat) : Int)
  rotate_left
  ·rw [if_neg h1]
   obtain ⟨v, r', e1, e2, e3⟩ := eU r [0, 0, 1, 1, 2, 2, 3, 4] m hr (by omega) (by simp)
   rw [e1]
   exact ⟨_, _, rfl, e3.mono (by omega), by rw [rn]; omega⟩
  rw [if_pos h1]
  obtain ⟨v, r1, e1, e2, e3, e4, e5⟩ := fE r 4 m hr (by omega) (by omega)
  rw [e1]
  simp only [Option.bind_some]
  by_cases h2 : v = 0
  ·rw [if_pos h2]
   obtain ⟨v, r', g1, g2, g3⟩ := eU r1 [0, 0, 1, 1, 2, 2, 3, 4] (m + 1) e5 (by omega) (by simp)
   rw [g1]
   exact ⟨_, _, rfl, g3.mono (by omega), by rw [rn]; omega⟩
  rw [if_neg h2]
  obtain ⟨kd, r2, g1, g2, g3⟩ := eU r1 [2, 3, 3, 4, 4, 4, 5, 6, 7] (m + 1) e5 (by omega) (by simp)
  rw [g1]
  simp only [Option.bind_some]
  obtain ⟨c, hc, hc3⟩ := Ai g2
  have H : ∀ (r : Gl14Rd) (m : Int), cK r m → m ≤ 100000000 - 10 ^ (d + 1) → ∃ x r', aW.f k r (IntKind.wrap .i64 (((d + 1 : Nat) : Int) - 1)) = some (x, r') ∧ cK r' (m + (10 ^ (d + 1) : Nat)) ∧ exN x ≤ 4 ^ d := fun r m hr hm => by
   rw [wrP d (by omega)]
   exact ih (by omega) k (by omega) r m hr hm
  have fin : ∀ (acc : List GEx), bV acc ≤ bV [] + c * 4 ^ d → 1 + bV acc ≤ 4 ^ (d + 1) := fun acc h => by
   have : c * 4 ^ d ≤ 3 * 4 ^ d := Nat.mul_le_mul_right _ hc3
   rw [eb] at h
   omega
  have cB : (c : Int) * (10 ^ (d + 1) : Nat) ≤ 3 * (10 ^ (d + 1) : Nat) := Int.mul_le_mul_of_nonneg_right (by omega) (by omega)
  have cN : c * 4 ^ d ≤ 3 * 4 ^ d := Nat.mul_le_mul_right _ hc3
  by_cases h3 : kd = 7
  ·rw [if_pos h3]
   obtain ⟨n, r3, f1, f2, f3⟩ := eU r2 [1, 2, 3, 5, 20] (m + 1 + 1) g3 (by omega) (by simp)
   rw [f1, pC, hc]
   simp only [Option.bind_some]
   obtain ⟨acc, b', p', q1, q2, q3⟩ := xY k (aW.f k) ((d + 1 : Nat) : Int) (10 ^ (d + 1)) (4 ^ d) (100000000 - 10 ^ (d + 1)) H c k r3.b r3.p (m + 1 + 1 + 1) [] (by omega) hc3 f3 (by omega) (by rw [eb]; omega)
   rw [q1]
   exact ⟨_, _, rfl, q2.mono (by omega), by rw [cA]; exact fin acc q3⟩
  ·rw [if_neg h3]
   rw [pC, hc]
   simp only [Option.bind_some]
   obtain ⟨acc, b', p', q1, q2, q3⟩ := yy k (aW.f k) ((d + 1 : Nat) : Int) (10 ^ (d + 1)) (4 ^ d) (100000000 - 10 ^ (d + 1)) H c k r2.b r2.p (m + 1 + 1) [] (by omega) hc3 g3 (by omega) (by rw [eb]; omega)
   rw [q1]
   exact ⟨_, _, rfl, q2.mono (by omega), by rw [cA]; exact fin acc q3⟩
theorem wg (k : Nat) (hk : 2000000000000 ≤ k) (r : Gl14Rd) (m : Int) (hr : cK r m) (hm : m ≤ 90000000) : ∃ x r', gq.f k r = some (x, r') ∧ cK r' (m + 200000) ∧ exN x ≤ 256 := by
 unfold gq.f
 obtain ⟨v, r1, e1, e2, e3, e4, e5⟩ := fE r 4 m hr (by omega) (by omega)
 have hv := e3 (by omega)
 rw [e1]
 simp only [Option.bind_some]
 rw [wr (1 + v) (by omega)]
 obtain ⟨d, hd⟩ : ∃ d : Nat, 1 + v = (d : Int) := ⟨(1 + v).toNat, by omega⟩
 have t4 : (4 : Nat) ^ d ≤ 4 ^ 4 := Nat.pow_le_pow_right (by omega) (by omega)
 have t10 : (10 : Nat) ^ (d + 1) ≤ 10 ^ 5 := Nat.pow_le_pow_right (by omega) (by omega)
 have t10i : ((10 ^ (d + 1) : Nat) : Int) = (10 : Int) ^ (d + 1) := by push_cast; rfl
 obtain ⟨x, r2, g1, g2, g3⟩ := wy d (by omega) k (by omega) r1 (m + 1) e5 (by omega)
 rw [hd, g1]
 simp only [Option.bind_some]
 rw [qk x (by omega) k (by omega)]
 simp only [Option.bind_some]
 split
 ·exact ⟨_, _, rfl, g2.mono (by omega), by omega⟩
 ·obtain ⟨y, r3, f1, f2, f3⟩ := wy 2 (by omega) k (by omega) r2 (m + 1 + (10 ^ (d + 1) : Nat)) g2 (by omega)
  rw [show (2 : Int) = ((2 : Nat) : Int) from rfl, f1]
  exact ⟨_, _, rfl, f2.mono (by omega), by show exN y ≤ 256; omega⟩
theorem wQ (k : Nat) (rec' : GEx → Option GEx) (e : GEx) (hl : e.Kids.length ≤ 1000000) (H : ∀ y ∈ e.Kids, rec' y = some y) : ∀ (d i n : Nat) (acc : List GEx), i + d = e.Kids.length → d < n → acc = e.Kids.take i → bL.l0 k rec' e n acc (i : Int) = some e.Kids := by
 intro d
 induction d with
 | zero =>
  intro i n acc hi hn ha
  obtain ⟨n, rfl⟩ : ∃ m, n = m + 1 := ⟨n - 1, by omega⟩
  rw [bL.l0, if_neg (by omega), ha, List.take_of_length_le (by omega)]
 | succ d ih =>
  intro i n acc hi hn ha
  obtain ⟨n, rfl⟩ : ∃ m, n = m + 1 := ⟨n - 1, by omega⟩
  have h : i < e.Kids.length := by omega
  rw [bL.l0, if_pos (by omega), ae (by omega), Int.toNat_natCast, List.getElem?_eq_getElem h]
  simp only [Option.bind_some, H _ (List.getElem_mem h)]
  have hal : acc.length ≤ e.Kids.length := by rw [ha, List.length_take]; omega
  rw [ae (by omega), wrS i (by omega)]
  refine ih (i + 1) n _ (by omega) (by omega) ?_
  rw [ha, List.take_add_one, List.getElem?_eq_getElem h]; rfl
theorem AH : ∀ e : GEx, exN e ≤ 1000000 → ∀ k : Nat, 1000000000000 + exN e ≤ k → bL.f k e = some e := by
 refine lX fun e ih hn k hk => ?_
 rw [cA] at hn hk
 obtain ⟨k, rfl⟩ : ∃ m, k = m + 1 := ⟨k - 1, by omega⟩
 have hq := fh e.Kids
 have := wQ k (bL.f k) e (by omega) (fun y hy => by have := ec hy; exact ih y hy (by omega) k (by omega)) e.Kids.length 0 k [] (by omega) (by omega) (by simp)
 rw [show ((0 : Nat) : Int) = 0 from rfl] at this
 rw [bL.f, this]; cases e; rfl
theorem xC (k : Nat) : ∀ (c n : Nat) (a b d : Int) (ks : List GEx), c ≤ 5 → c < n → bV ks + c ≤ 100000 → ∃ a' b' d' ks', bx.l0 k n a b d ks (5 - (c : Int)) = some (a', b', d', ks') ∧ bV ks' ≤ bV ks + c := by
 intro c
 induction c with
 | zero =>
  intro n a b d ks hc hn hk
  obtain ⟨n, rfl⟩ : ∃ m, n = m + 1 := ⟨n - 1, by omega⟩
  rw [bx.l0, if_neg (by omega)]
  exact ⟨_, _, _, _, rfl, by omega⟩
 | succ c ih =>
  intro n a b d ks hc hn hk
  obtain ⟨n, rfl⟩ : ∃ m, n = m + 1 := ⟨n - 1, by omega⟩
  rw [bx.l0, if_pos (by omega), wr _ (by omega), show 5 - ((c + 1 : Nat) : Int) + 1 = 5 - (c : Int) by omega]
  have e : bV [(⟨a, b, d, ks⟩ : GEx)] = 1 + bV ks := by rw [jL, cA]
  obtain ⟨a', b', d', ks', h1, h2⟩ := ih n 7 0 1 [⟨a, b, d, ks⟩] (by omega) (by omega) (by omega)
  exact ⟨_, _, _, _, h1, by omega⟩
theorem xX (k : Nat) (hk : 2000000000000 ≤ k) : ∀ (c n : Nat) (a b d : Int) (ks : List GEx), c ≤ 4 → c < n → (bV ks + 3) * 2 ^ c ≤ 100000 → ∃ a' b' d' ks', bx.l1 k n a b d ks (4 - (c : Int)) = some (a', b', d', ks') ∧ bV ks' ≤ 100000 := by
 intro c
 induction c with
 | zero =>
  intro n a b d ks hc hn hk
  obtain ⟨n, rfl⟩ : ∃ m, n = m + 1 := ⟨n - 1, by omega⟩
  rw [bx.l1, if_neg (by omega)]
  exact ⟨_, _, _, _, rfl, by omega⟩
 | succ c ih =>
  intro n a b d ks hc hn hks
  obtain ⟨n, rfl⟩ : ∃ m, n = m + 1 := ⟨n - 1, by omega⟩
  have p2 : (2 : Nat) ^ (c + 1) = 2 ^ c * 2 := Nat.pow_succ ..
  have b2 : 1 ≤ (2 : Nat) ^ c := Nat.one_le_pow c 2 (by omega)
  have e : exN (⟨a, b, d, ks⟩ : GEx) = 1 + bV ks := by rw [cA]
  have m2 : (bV ks + 3) * 2 ^ (c + 1) = (2 * (bV ks + 3)) * 2 ^ c := by rw [p2, Nat.mul_comm (2 ^ c) 2, ← Nat.mul_assoc, Nat.mul_comm (bV ks + 3) 2]
  have m3 : 2 * (bV ks + 3) ≤ 2 * (bV ks + 3) * 2 ^ c := Nat.le_mul_of_pos_right _ (by omega)
  rw [bx.l1, if_pos (by omega), AH _ (by omega) k (by omega), wr _ (by omega), show 4 - ((c + 1 : Nat) : Int) + 1 = 4 - (c : Int) by omega]
  simp only [Option.bind_some]
  have e2 : bV [(⟨a, b, d, ks⟩ : GEx), ⟨a, b, d, ks⟩] = 2 * (bV ks + 1) := by rw [cJ, jL]; omega
  refine ih n 2 0 0 _ (by omega) (by omega) ?_
  rw [e2]
  exact Nat.le_trans (Nat.mul_le_mul_right (m := 2 * (bV ks + 3)) _ (by omega)) (by rw [← m2]; exact hks)
theorem Aj (k : Nat) (hk : 2000000000000 ≤ k) (r : Gl14Rd) (m : Int) (hr : cK r m) (hm : m ≤ 80000000) : ∃ x r', bx.f k r = some (x, r') ∧ cK r' (m + 300000) ∧ exN x ≤ 100001 := by
 unfold bx.f
 obtain ⟨x, r1, e1, e2, e3⟩ := wg k hk r m hr (by omega)
 rw [e1]
 simp only [Option.bind_some]
 obtain ⟨v, r2, g1, g2, g3, g4, g5⟩ := fE r1 60 (m + 200000) e2 (by omega) (by omega)
 rw [g1]
 simp only [Option.bind_some]
 have hx : bV x.Kids ≤ 256 := by rw [cA] at e3; omega
 have fin : ∀ a b c, exN (⟨a, b, c, x.Kids⟩ : GEx) ≤ 100001 := fun a b c => by rw [cA]; show 1 + bV x.Kids ≤ _; omega
 split
 ·obtain ⟨w, r3, f1, f2, f3⟩ := eU r2 [0, 8, 2, 5] (m + 200000 + 1) g5 (by omega) (by simp)
  rw [f1]
  exact ⟨_, _, rfl, f3.mono (by omega), fin _ _ _⟩
 split
 ·obtain ⟨w, r3, f1, f2, f3⟩ := eU r2 [(-1), 5, 1] (m + 200000 + 1) g5 (by omega) (by simp)
  rw [f1]
  exact ⟨_, _, rfl, f3.mono (by omega), fin _ _ _⟩
 split
 ·obtain ⟨w, r3, f1, f2, f3⟩ := eU r2 [(-1), 21, 1, 0] (m + 200000 + 1) g5 (by omega) (by simp)
  rw [f1]
  exact ⟨_, _, rfl, f3.mono (by omega), fin _ _ _⟩
 split
 ·obtain ⟨a', b', d', ks', q1, q2⟩ := xC k 5 k x.Kind x.Sym x.N x.Kids (by omega) (by omega) (by omega)
  rw [show (5 : Int) - ((5 : Nat) : Int) = 0 from rfl] at q1
  rw [q1]
  exact ⟨_, _, rfl, g5.mono (by omega), by rw [cA]; show 1 + bV ks' ≤ _; omega⟩
 split
 ·obtain ⟨a', b', d', ks', q1, q2⟩ := xX k hk 4 k x.Kind x.Sym x.N x.Kids (by omega) (by omega) (by omega)
  rw [show (4 : Int) - ((4 : Nat) : Int) = 0 from rfl] at q1
  rw [q1]
  exact ⟨_, _, rfl, g5.mono (by omega), by rw [cA]; show 1 + bV ks' ≤ _; omega⟩
 ·exact ⟨_, _, rfl, g5.mono (by omega), by show exN x ≤ _; omega⟩
def lr (c : sH) : Bool := decide (0 ≤ c.Sym) && decide (c.Sym < 5) && decide (1 ≤ c.Gap) && decide (c.Gap ≤ 20) && decide (0 ≤ c.Val) && decide (c.Val ≤ 100)
theorem sZ (c : sH) : iz.f c = some (lr c) := by
 unfold iz.f dd.f lr
 simp only [dH, Option.bind_some]
 repeat' split
 all_goals (rw [Option.some.injEq, Bool.eq_iff_iff]; simp_all; try omega)
/- what is drawn -/
/- the engine without rules -/
def vi : List Int := List.replicate 4 0
def bv (l : List GEv) : Int := match l.getLast? with
 | some e => e.At
 | none => 0
theorem AW (l : List GEv) (hl : l.length ≤ 1000) : ii.f l = some (bv l) := by
 unfold ii.f bv
 rcases List.eq_nil_or_concat l with rfl | ⟨m, e, rfl⟩
 ·rfl
 ·rw [List.concat_eq_append] at hl ⊢
  rw [List.length_append, List.length_singleton] at hl ⊢
  rw [if_neg (by omega)]
  rw [wrP m.length (by omega), ae (by omega), Int.toNat_natCast]
  simp
theorem evs_k (k : Nat) (l : List GEv) (hl : l.length ≤ 1000) (hk : 2000 ≤ k) : cg.f k l = some (dQ l) := by
 unfold cg.f dQ
 have := lY k l (by omega) l.length k 0 (by omega) (by omega)
 rw [show ((0 : Nat) : Int) = 0 from rfl] at this
 rw [this]
 cases (List.range' 0 l.length).all (iJ l)
 ·simp
 ·simp only [if_true, Option.bind_some, Bool.true_and, Option.some.injEq]
  by_cases h : l.length ≤ 24
  ·have : ¬ (24 : Int) < l.length := by omega
   simp [h, this]
  ·have : (24 : Int) < l.length := by omega
   simp [h, this]
/- one more event -/
theorem qA (l : List GEv) (e : GEv) (a : Int) : ∀ i, i ≤ l.length → ku (l ++ [e]) a i = ku l a i
 | 0, _ => rfl
 | j + 1, h => by
  show (match (l ++ [e])[j]? with | some d => decide (d.At < a) | none => false) = (match l[j]? with | some d => decide (d.At < a) | none => false)
  rw [List.getElem?_append_left (by omega)]
theorem sS {l : List GEv} {e : GEv} (h : dQ l = true) (hl : l.length < 24) (he : jP e = true) (ha : bv l < e.At) : dQ (l ++ [e]) = true := by
 unfold dQ at h ⊢
 simp only [Bool.and_eq_true, List.all_eq_true, List.mem_range', decide_eq_true_eq, List.length_append, List.length_singleton] at h ⊢
 refine ⟨?_, by omega⟩
 rintro x ⟨i, hi, rfl⟩
 simp only [Nat.zero_add, Nat.one_mul]
 unfold iJ
 by_cases hlt : i < l.length
 ·have := h.1 i ⟨i, hlt, by omega⟩
  unfold iJ at this
  rw [List.getElem?_append_left hlt]
  rw [List.getElem?_eq_getElem hlt] at this ⊢
  simp only [Bool.and_eq_true] at this ⊢
  exact ⟨this.1, by rw [qA l e _ i (by omega)]; exact this.2⟩
 ·have e1 : i = l.length := by omega
  subst e1
  rw [List.getElem?_append_right (by omega), Nat.sub_self]
  simp only [List.getElem?_cons_zero, Bool.and_eq_true]
  refine ⟨he, ?_⟩
  rw [qA l e _ _ (Nat.le_refl _)]
  unfold bv at ha
  cases hn : l.length with
  | zero => rfl
  | succ j =>
   show (match l[j]? with | some d => decide (d.At < e.At) | none => false) = true
   rw [List.getLast?_eq_getElem?, hn, Nat.add_sub_cancel, List.getElem?_eq_getElem (by omega)] at ha
   rw [List.getElem?_eq_getElem (by omega)]
   simpa using ha
theorem j5 (l : List GEv) (e : GEv) : bv (l ++ [e]) = e.At := by unfold bv; simp
def v6 (a b i : Nat) (s : List GOcc × List GOcc × List GOcc) : Prop := Ok (a + i) s.1 ∧ Ok b s.2.1 ∧ Ok (i * b) s.2.2
theorem v6.half {a b i : Nat} {mode : Int} {s : List GOcc × List GOcc × List GOcc} {o : GOcc} (h : v6 a b i s) (ho : cr o.Ids) : v6 a b (i + 1) (eZ mode s o) := by
 obtain ⟨x, y, z⟩ := nT (mode := mode) h.1 h.2.1 h.2.2 ho
 refine ⟨x, y, z.mono ?_⟩
 rw [Nat.succ_mul]; exact Nat.le_refl _
def tH (a b e i : Nat) (s : List GOcc × List GOcc × List GOcc) : Prop := Ok a s.1 ∧ Ok (b + i) s.2.1 ∧ Ok (e + i * a) s.2.2
theorem tH.other {a b e i : Nat} {mode : Int} {s : List GOcc × List GOcc × List GOcc} {o : GOcc} (h : tH a b e i s) (ho : cr o.Ids) : tH a b e (i + 1) (ke mode s o) := by
 obtain ⟨x, y, z⟩ := nT (mode := mode) (s := (s.2.1, s.1, s.2.2)) h.2.1 h.1 h.2.2 ho
 refine ⟨y, x, z.mono ?_⟩
 rw [Nat.succ_mul]; omega
theorem xt {mode : Int} {l r left right : List GOcc} {a b c d : Nat} (h1 : Ok a l) (h2 : Ok b r) (hl : Ids left) (hr : Ids right) (hc : left.length ≤ c) (hd : right.length ≤ d) :
  tH (a + c) b (c * b) d (gF mode l r left right) := by
 have a1 := rq (eZ mode) (v6 a b) left 0 (l, r, []) (fun j s h hI => by rw [Nat.zero_add] at *; exact hI.half (hl _ (List.getElem_mem h))) ⟨h1, h2, by simpa using Ok.nil 0⟩
 rw [Nat.zero_add] at a1
 have a2 := rq (ke mode) (tH (a + c) b (c * b)) right 0 (left.foldl (eZ mode) (l, r, [])) (fun j s h hI => by rw [Nat.zero_add] at *; exact hI.other (hr _ (List.getElem_mem h)))
  ⟨a1.1.mono (by omega), a1.2.1, a1.2.2.mono (by have := Nat.mul_le_mul_right b hc; omega)⟩
 rw [Nat.zero_add] at a2
 exact ⟨a2.1, a2.2.1.mono (by omega), a2.2.2.mono (by have := Nat.mul_le_mul_right (a + c) hd; omega)⟩
theorem xb (k : Nat) (hk : 1000000000000 ≤ k) (mode : Int) (p : GPair) (left right : List GOcc) (a b c d : Nat) (h1 : Ok a p.Left) (h2 : Ok b p.Right) (hl : Ids left) (hr : Ids right) (hc : left.length ≤ c) (hd : right.length ≤ d) (hB : c * b + d * (a + c) + a + b + c + d ≤ 40000000000) :
  aZ.f k p mode left right = some (⟨(gF mode p.Left p.Right left right).1, (gF mode p.Left p.Right left right).2.1⟩, (gF mode p.Left p.Right left right).2.2) := by
 have a1 := gW (fun s : List GOcc × List GOcc × List GOcc => s) left (fun s e => ((aJ.f k mode e s.2.1).bind fun x48 => ((aO.f k s.2.2 x48.1).bind fun x51 => ((bd.f k s.2.1 x48.2).bind fun x54 => ((ek.f k mode s.1 e ((x48.1.length : Int) == 0)).bind fun x57 => some (x57, x54, x51)))))) (fun n s i => aZ.l0 k mode left n s.1 s.2.1 s.2.2 i) (eZ mode) (v6 a b)
  (fun n s => by rw [aZ.l0, if_neg (by omega)])
  (fun n s i h => by
   rw [aZ.l0, if_pos (by omega), ae (by omega), Int.toNat_natCast, List.getElem?_eq_getElem h]
   simp only [Option.bind_some, Option.bind_assoc]
   rw [wrS i (by omega)])
  (fun i s h hI => ⟨ub k hk mode s.1 s.2.1 s.2.2 _ (a + i) b _ (by omega) (by omega) (by have := Nat.mul_le_mul_right b (show i ≤ c by omega); omega) hI.1 hI.2.1 hI.2.2 (hl _ (List.getElem_mem h)), hI.half (hl _ (List.getElem_mem h))⟩)
  k (p.Left, p.Right, []) (by omega) ⟨h1, h2, by simpa using Ok.nil 0⟩
 have a2 := gW (fun s : List GOcc × List GOcc × List GOcc => s) right (fun s e => ((aJ.f k mode e s.1).bind fun x48 => ((aO.f k s.2.2 x48.1).bind fun x51 => ((bd.f k s.1 x48.2).bind fun x54 => ((ek.f k mode s.2.1 e ((x48.1.length : Int) == 0)).bind fun x57 => some (x54, x57, x51)))))) (fun n s i => aZ.l1 k mode right n s.1 s.2.1 s.2.2 i) (ke mode) (tH (a + c) b (c * b))
  (fun n s => by rw [aZ.l1, if_neg (by omega)])
  (fun n s i h => by
   rw [aZ.l1, if_pos (by omega), ae (by omega), Int.toNat_natCast, List.getElem?_eq_getElem h]
   simp only [Option.bind_some, Option.bind_assoc]
   rw [wrS i (by omega)])
  (fun i s h hI => by
   have q := ub k hk mode s.2.1 s.1 s.2.2 _ (b + i) (a + c) _ (by omega) (by omega) (by have := Nat.mul_le_mul_right (a + c) (show i ≤ d by omega); omega) hI.2.1 hI.1 hI.2.2 (hr _ (List.getElem_mem h))
   refine ⟨?_, hI.other (hr _ (List.getElem_mem h))⟩
   have q2 := congrArg (Option.map fun t : List GOcc × List GOcc × List GOcc => (t.2.1, t.1, t.2.2)) q
   simp only [Option.map_bind, Option.map_some, Function.comp_def] at q2
   exact q2)
  k (left.foldl (eZ mode) (p.Left, p.Right, [])) (by omega) ⟨a1.2.1.mono (by omega), a1.2.2.1, a1.2.2.2.mono (by have := Nat.mul_le_mul_right b hc; omega)⟩
 unfold aZ.f
 rw [a1.1]
 simp only [Option.bind_some]
 rw [a2.1]
 rfl
def mc (m n : GNode) : Bool := m.Kind == n.Kind && (m.Sym == n.Sym && (m.N == n.N && m.Kids == n.Kids))
def ng (k s n : Int) (ks : List Int) : GNode := ⟨k, s, n, ks, ⟨[], []⟩, ⟨[], []⟩, [], 0⟩
def rA (ns : List GNode) (x : GNode) : Int × List GNode := match ns.findIdx? (fun m => mc m x) with
 | some i => ((i : Int), ns)
 | none => ((ns.length : Int), ns ++ [x])
mutual
/-- the parts with those of an expression, and the number of its own -/
def ei : GEx → List GNode → Int × List GNode
 | ⟨k, s, n, ks⟩, ns => rA (dz ks ns).2 (ng k s n (dz ks ns).1)
def dz : List GEx → List GNode → List Int × List GNode
 | [], ns => ([], ns)
 | x :: xs, ns => ((ei x ns).1 :: (dz xs (ei x ns).2).1, (dz xs (ei x ns).2).2)
end
theorem w9 (x : GEx) (ns : List GNode) : ei x ns = rA (dz x.Kids ns).2 (ng x.Kind x.Sym x.N (dz x.Kids ns).1) := by cases x; simp only [ei]
theorem uG (ns : List GNode) : dz [] ns = ([], ns) := by simp only [dz]
theorem sw (x : GEx) (xs : List GEx) (ns : List GNode) : dz (x :: xs) ns = ((ei x ns).1 :: (dz xs (ei x ns).2).1, (dz xs (ei x ns).2).2) := by simp only [dz]
def av (found : List (List GOcc)) (n : GNode) (j : Nat) : List GOcc := found.getD (n.Kids.getD j 0).toNat []
def Ar (time n : Int) (due kid : List GOcc) : List GOcc := kid.foldl (fun s o => bZ s (iW n o)) (due.filter fun o => !(o.To == time))
/-- what a part finds at a time, and what becomes of it -/
def aF (mode seen time : Int) (ev : Option Int) (found : List (List GOcc)) (n : GNode) : GNode × List GOcc :=
 if n.Kind = 1 then (n, if ev = some n.Sym then [⟨time, time, [seen]⟩] else [])
 else if n.Kind = 2 then (n, bQ (av found n 0) (av found n 1))
 else if n.Kind = 3 then (⟨n.Kind, n.Sym, n.N, n.Kids, ⟨(gF mode n.Pair.Left n.Pair.Right (av found n 0) (av found n 1)).1, (gF mode n.Pair.Left n.Pair.Right (av found n 0) (av found n 1)).2.1⟩, n.Span, n.Due, n.Many⟩, (gF mode n.Pair.Left n.Pair.Right (av found n 0) (av found n 1)).2.2)
 else if n.Kind = 4 then (⟨n.Kind, n.Sym, n.N, n.Kids, ⟨(kJ mode n.Pair.Left (av found n 0) (av found n 1)).1, n.Pair.Right⟩, n.Span, n.Due, n.Many⟩, (kJ mode n.Pair.Left (av found n 0) (av found n 1)).2)
 else if n.Kind = 5 then (⟨n.Kind, n.Sym, n.N, n.Kids, n.Pair, ⟨(gB mode n.Span.Left n.Span.Mid (av found n 0) (av found n 1) (av found n 2)).1, (gB mode n.Span.Left n.Span.Mid (av found n 0) (av found n 1) (av found n 2)).2.1⟩, n.Due, n.Many⟩, (gB mode n.Span.Left n.Span.Mid (av found n 0) (av found n 1) (av found n 2)).2.2)
 else if n.Kind = 6 then (⟨n.Kind, n.Sym, n.N, n.Kids, n.Pair, ⟨(cL mode n.Span.Left n.Span.Mid (av found n 0) (av found n 1) (av found n 2)).1, (cL mode n.Span.Left n.Span.Mid (av found n 0) (av found n 1) (av found n 2)).2.1⟩, n.Due, n.Many⟩, (cL mode n.Span.Left n.Span.Mid (av found n 0) (av found n 1) (av found n 2)).2.2)
 else (⟨n.Kind, n.Sym, n.N, n.Kids, n.Pair, n.Span, Ar time n.N n.Due (av found n 0), n.Many⟩, atM n.Due time)
def eV (r : GNode × List GOcc) : GNode := ⟨r.1.Kind, r.1.Sym, r.1.N, r.1.Kids, r.1.Pair, r.1.Span, r.1.Due, r.1.Many + (r.2.length : Int)⟩
def mj (mode seen time : Int) (ev : Option Int) (s : List GNode × List (List GOcc)) (n : GNode) : List GNode × List (List GOcc) :=
 (s.1 ++ [eV (aF mode seen time ev s.2 n)], s.2 ++ [(aF mode seen time ev s.2 n).2])
/-- a point in time: all parts in order -/
def aB (mode seen time : Int) (ev : Option Int) (ns : List GNode) : List GNode × List (List GOcc) := ns.foldl (mj mode seen time ev) ([], [])
def dE (ns : List GNode) : Bool := ns.any fun n => decide (40 < n.Many)
/-- a part stands for an expression -/
def kG (es : List GEx) (i : Nat) (n : GNode) (e : GEx) : Prop :=
 n.Kind = e.Kind ∧ n.Sym = e.Sym ∧ n.N = e.N ∧ n.Kids.length = e.Kids.length ∧ ∀ j, j < e.Kids.length → ∃ q : Nat, q < i ∧ n.Kids[j]? = some (q : Int) ∧ es[q]? = e.Kids[j]?
def fT (e : GEx) : Prop := dW e = true ∧ exN e ≤ 12
def Rep (es : List GEx) (ns : List GNode) : Prop := es.length = ns.length ∧ ∀ (i : Nat) (n : GNode), ns[i]? = some n → ∃ e, es[i]? = some e ∧ fT e ∧ kG es i n e
/-- what was found at a time, of an expression so large -/
def FO (t : Int) (s : Nat) (l : List GOcc) : Prop := Asc l ∧ Ids l ∧ (l.length + 40) * (l.length + 40) ≤ 41 ^ (s + 1) ∧ ∀ o ∈ l, o.To = t
def lj (t : Int) (n : GNode) : Prop := Ok 40 n.Pair.Left ∧ Ok 40 n.Pair.Right ∧ Ok 40 n.Span.Left ∧ Ok 40 n.Span.Mid ∧ Ok 40 n.Due ∧ 0 ≤ n.Many ∧ n.Many ≤ 40 ∧
 All (fun o => o.To ≤ t) n.Pair.Left ∧ All (fun o => o.To ≤ t) n.Pair.Right ∧ All (fun o => o.To ≤ t) n.Span.Left ∧ All (fun o => o.To ≤ t) n.Span.Mid
theorem sq_le {x m n : Nat} (h : x * x ≤ m) (hn : m < (n + 1) * (n + 1)) : x ≤ n := by
 rcases Nat.lt_or_ge n x with h1 | h1
 ·have := Nat.mul_le_mul (show n + 1 ≤ x by omega) (show n + 1 ≤ x by omega); omega
 ·exact h1
theorem po {a b : Nat} (h : a ≤ b) : 41 ^ a ≤ 41 ^ b := Nat.pow_le_pow_right (by omega) h
theorem Cr (x y : Nat) : x * y * (x * y) = x * x * (y * y) := by rw [Nat.mul_assoc, Nat.mul_left_comm y x y, ← Nat.mul_assoc]
theorem nj {x y a b c : Nat} (hx : x * x ≤ 41 ^ a) (hy : y * y ≤ 41 ^ b) (h : a + b ≤ c) : x * y * (x * y) ≤ 41 ^ c := by
 rw [Cr]
 exact Nat.le_trans (Nat.mul_le_mul hx hy) (by rw [← Nat.pow_add]; exact po h)
theorem li {x y m : Nat} (h : x ≤ y) (hy : y * y ≤ m) : x * x ≤ m := Nat.le_trans (Nat.mul_le_mul h h) hy
theorem AQ {x : Nat} (h : x * x ≤ 41 ^ 13) : x ≤ 30420000000 := sq_le h (by decide)
theorem FO.small {t : Int} {s : Nat} {l : List GOcc} (h : FO t s l) (hs : s ≤ 12) : l.length ≤ 30420000000 := by
 have := AQ (Nat.le_trans h.2.2.1 (po (show s + 1 ≤ 13 by omega))); omega
theorem FO.ok {t : Int} {s : Nat} {l : List GOcc} (h : FO t s l) : Ok l.length l := ⟨h.1, h.2.1, Nat.le_refl _⟩
/-- two together -/
theorem FO.two {t : Int} {s s' : Nat} {a b : List GOcc} (ha : FO t s a) (hb : FO t s' b) (h : s + s' ≤ 11) : (a.length + 40) * (b.length + 40) ≤ 30420000000 :=
 AQ (nj ha.2.2.1 hb.2.2.1 (by omega))
theorem FO.nil {t : Int} {s : Nat} (h : 1 ≤ s) : FO t s [] := ⟨by simp [Asc], fun x hx => by simp at hx, Nat.le_trans (by decide) (po (show 2 ≤ s + 1 by omega)), fun o ho => by simp at ho⟩
theorem cy {es : List GEx} {i : Nat} {n : GNode} {e : GEx} {found : List (List GOcc)} (h : kG es i n e) (hf : found.length = i) {j : Nat} (hj : j < e.Kids.length) :
  ∃ q : Nat, q < i ∧ n.Kids[j]? = some (q : Int) ∧ found[q]? = some (av found n j) ∧ es[q]? = e.Kids[j]? := by
 obtain ⟨q, h1, h2, h3⟩ := h.2.2.2.2 j hj
 refine ⟨q, h1, h2, ?_, h3⟩
 unfold av
 rw [List.getD_eq_getElem?_getD, List.getD_eq_getElem?_getD, h2]
 simp only [Option.getD_some, Int.toNat_natCast]
 rw [List.getElem?_eq_getElem (by omega)]; rfl
/-- what was found so far -/
def jc (t : Int) (es : List GEx) (found : List (List GOcc)) : Prop := ∀ (j : Nat) (l : List GOcc), found[j]? = some l → ∃ e, es[j]? = some e ∧ FO t (exN e) l
theorem bB {t : Int} {es : List GEx} {i : Nat} {n : GNode} {e : GEx} {found : List (List GOcc)} (h : kG es i n e) (hf : found.length = i) (hF : jc t es found) {j : Nat} {x : GEx} (hj : e.Kids[j]? = some x) :
  FO t (exN x) (av found n j) := by
 have hj' : j < e.Kids.length := (List.getElem?_eq_some_iff.1 hj).1
 obtain ⟨q, h1, h2, h3, h4⟩ := cy h hf hj'
 obtain ⟨e', h5, h6⟩ := hF q _ h3
 rw [h4, hj] at h5
 cases h5
 exact h6
theorem eQ (e : GEx) : 1 ≤ exN e := by rw [cA]; omega
theorem tF {α : Type} {l : List α} (h : l.length = 1) : ∃ a, l = [a] := by
 match l, h with
 | [a], _ => exact ⟨a, rfl⟩
theorem gx {α : Type} {l : List α} (h : l.length = 2) : ∃ a b, l = [a, b] := by
 match l, h with
 | [a, b], _ => exact ⟨a, b, rfl⟩
theorem iZ {α : Type} {l : List α} (h : l.length = 3) : ∃ a b c, l = [a, b, c] := by
 match l, h with
 | [a, b, c], _ => exact ⟨a, b, c, rfl⟩
theorem tY {e x : GEx} (h : e.Kids = [x]) : exN e = exN x + 1 := by rw [cA, h, cJ, eb]; omega
theorem gA {e x y : GEx} (h : e.Kids = [x, y]) : exN e = exN x + exN y + 1 := by rw [cA, h, cJ, cJ, eb]; omega
theorem ja {e x y z : GEx} (h : e.Kids = [x, y, z]) : exN e = exN x + exN y + exN z + 1 := by rw [cA, h, cJ, cJ, cJ, eb]; omega
theorem pL {t : Int} {a b : GOcc} (ha : a.To = t) (hb : b.To ≤ t) : (dy a b).To = t := by show max a.To b.To = t; omega
theorem yH {t : Int} : ∀ {l : List GOcc} {o : GOcc}, (∀ x ∈ l, x.To ≤ t) → o.To = t → (rb o l).To = t
 | [], _, _, h => h
 | x :: l, o, hl, h => yH (l := l) (o := dy o x) (fun y hy => hl y (by simp [hy])) (pL h (hl x (by simp)))
theorem xc {t : Int} {o : GOcc} (ho : o.To = t) : ∀ (l acc : List GOcc), (∀ x ∈ l, x.To ≤ t) → (∀ x ∈ acc, x.To = t) → ∀ x ∈ l.foldl (fun s e => bZ s (dy o e)) acc, x.To = t
 | [], _, _, h => h
 | y :: l, acc, hl, h => xc ho l (bZ acc (dy o y)) (fun z hz => hl z (by simp [hz])) (fun z hz => by
   rcases eC.1 hz with h1 | rfl
   ·exact h z h1
   ·exact pL ho (hl y (by simp)))
theorem qZ {t : Int} {mode : Int} {o : GOcc} {l : List GOcc} (hl : ∀ x ∈ l, x.To ≤ t) (ho : o.To = t) : ∀ x ∈ eg mode o l, x.To = t := by
 unfold eg
 by_cases h0 : l.length = 0
 ·rw [if_pos h0]; simp
 rw [if_neg h0]
 split
 ·intro x hx; rw [List.mem_singleton.1 hx, List.getElem?_eq_getElem (show l.length - 1 < l.length by omega)]; exact pL ho (hl _ (List.getElem_mem _))
 split
 ·intro x hx; rw [List.mem_singleton.1 hx, List.getElem?_eq_getElem (show 0 < l.length by omega)]; exact pL ho (hl _ (List.getElem_mem _))
 split
 ·intro x hx; rw [List.mem_singleton.1 hx]; exact yH hl ho
 ·exact xc ho l [] hl (by simp)
theorem nJ {t : Int} {a b : List GOcc} (ha : ∀ x ∈ a, x.To = t) (hb : ∀ x ∈ b, x.To = t) : ∀ x ∈ bQ a b, x.To = t := fun x hx => by
 rcases ju.1 hx with h | h
 ·exact ha x h
 ·exact hb x h
theorem lJ {t : Int} {a b : List GOcc} (ha : ∀ x ∈ a, x.To ≤ t) (hb : ∀ x ∈ b, x.To ≤ t) : ∀ x ∈ bQ a b, x.To ≤ t := fun x hx => by
 rcases ju.1 hx with h | h
 ·exact ha x h
 ·exact hb x h
theorem yQ {t : Int} {a g : List GOcc} (ha : ∀ x ∈ a, x.To ≤ t) : ∀ x ∈ tz a g, x.To ≤ t := fun x hx => ha x (List.mem_filter.1 hx).1
/-- those on the right of a sequence or an absence -/
theorem nv {t : Int} {mode : Int} {p : GOcc → GOcc → Bool} : ∀ (r : List GOcc) (s : List GOcc × List GOcc), (∀ x ∈ r, x.To = t) → (∀ x ∈ s.1, x.To ≤ t) → (∀ x ∈ s.2, x.To = t) →
  (∀ x ∈ (r.foldl (en mode p) s).1, x.To ≤ t) ∧ (∀ x ∈ (r.foldl (en mode p) s).2, x.To = t)
 | [], s, _, h1, h2 => ⟨h1, h2⟩
 | o :: r, s, hr, h1, h2 => by
  rw [List.foldl_cons]
  exact nv r _ (fun x hx => hr x (by simp [hx])) (yQ h1) (nJ h2 (qZ (fun x hx => h1 x (List.mem_filter.1 hx).1) (hr o (by simp))))
theorem zR {t : Int} {mode : Int} {own : List GOcc} {o : GOcc} {b : Bool} (h : ∀ x ∈ own, x.To ≤ t) (ho : o.To ≤ t) : ∀ x ∈ jo mode own o b, x.To ≤ t := by
 have hp : ∀ x ∈ bZ own o, x.To ≤ t := fun x hx => by
  rcases eC.1 hx with h1 | rfl
  ·exact h x h1
  ·exact ho
 unfold jo
 split
 ·intro x hx; rw [List.mem_singleton.1 hx]; exact ho
 split
 ·exact hp
 split
 ·exact hp
 ·exact h
def ToS (t : Int) (s : List GOcc × List GOcc × List GOcc) : Prop := (∀ x ∈ s.1, x.To ≤ t) ∧ (∀ x ∈ s.2.1, x.To ≤ t) ∧ ∀ x ∈ s.2.2, x.To = t
theorem ToS.half {t : Int} {mode : Int} {s : List GOcc × List GOcc × List GOcc} {o : GOcc} (h : ToS t s) (ho : o.To = t) : ToS t (eZ mode s o) :=
 ⟨zR h.1 (by omega), yQ h.2.1, nJ h.2.2 (qZ h.2.1 ho)⟩
theorem ToS.other {t : Int} {mode : Int} {s : List GOcc × List GOcc × List GOcc} {o : GOcc} (h : ToS t s) (ho : o.To = t) : ToS t (ke mode s o) := by
 obtain ⟨a, b, c⟩ := ToS.half (mode := mode) (s := (s.2.1, s.1, s.2.2)) ⟨h.2.1, h.1, h.2.2⟩ ho
 exact ⟨b, a, c⟩
theorem zP {t : Int} {mode : Int} {l r left right : List GOcc} (h1 : ∀ x ∈ l, x.To ≤ t) (h2 : ∀ x ∈ r, x.To ≤ t) (hl : ∀ x ∈ left, x.To = t) (hr : ∀ x ∈ right, x.To = t) : ToS t (gF mode l r left right) := by
 unfold gF
 exact gX (ToS t) _ right _ (fun s x hx hs => hs.other (hr x hx)) (gX (ToS t) _ left _ (fun s x hx hs => hs.half (hl x hx)) ⟨h1, h2, by simp⟩)
theorem zw {t : Int} {mode : Int} {l mid : List GOcc} (h1 : ∀ x ∈ l, x.To ≤ t) : ∀ (b acc : List GOcc), (∀ x ∈ b, x.To = t) → (∀ x ∈ acc, x.To = t) → ∀ x ∈ b.foldl (fun s o => bQ s (eg mode o (l.filter (eJ mid o)))) acc, x.To = t
 | [], _, _, h => h
 | o :: b, acc, hb, h => zw h1 b _ (fun x hx => hb x (by simp [hx])) (nJ h (qZ (fun x hx => h1 x (List.mem_filter.1 hx).1) (hb o (by simp))))
theorem rg {n : Int} {o : GOcc} (h : cr o.Ids) : cr (iW n o).Ids := h
/-- what waits, with what comes later -/
theorem zc {n : Int} : ∀ (kid : List GOcc) (acc : List GOcc) (m : Nat), Ok m acc → Ids kid → Ok (m + kid.length) (kid.foldl (fun s o => bZ s (iW n o)) acc)
 | [], acc, m, h, _ => h
 | o :: kid, acc, m, h, hk => by
  rw [List.foldl_cons]
  have := zc (n := n) kid (bZ acc (iW n o)) (m + 1) (h.put (rg (hk o (by simp)))) (fun x hx => hk x (by simp [hx]))
  exact this.mono (by simp; omega)
theorem cq (a b : Nat) : (a + 40) * (b + 40) = a * b + 40 * a + 40 * b + 1600 := by
 rw [Nat.add_mul, Nat.mul_add, Nat.mul_add]; omega
theorem FO.of {t : Int} {s : Nat} {l : List GOcc} {m : Nat} (h : Ok m l) (hm : (m + 40) * (m + 40) ≤ 41 ^ (s + 1)) (ht : ∀ o ∈ l, o.To = t) : FO t s l :=
 ⟨h.1, h.2.1, li (show l.length + 40 ≤ m + 40 by have := h.2.2; omega) hm, ht⟩
theorem tN {t seen mode : Int} {ev : Option Int} {es : List GEx} {i : Nat} {n : GNode} {e : GEx} {found : List (List GOcc)} (hx : fT e) (hR : kG es i n e) (hS : lj t n) (hf : found.length = i) (hF : jc t es found) (hs : 0 ≤ seen ∧ seen ≤ 23) :
  FO t (exN e) (aF mode seen t ev found n).2 := by
 obtain ⟨S1, S2, S3, S4, S5, _, _, T1, T2, T3, T4⟩ := hS
 have hp := eQ e
 have h12 := hx.2
 unfold aF
 rcases ir (gR hx.1).1 with ⟨hk, hl⟩ | ⟨hk, hl⟩ | ⟨hk, hl⟩ | ⟨hk, hl⟩ | ⟨hk, hl⟩ | ⟨hk, hl⟩ | ⟨hk, hl⟩ <;> rw [← hR.1] at hk
 ·rw [if_pos hk]
  simp only
  split
  ·refine ⟨by simp [Asc], fun o ho => ?_, Nat.le_trans (by decide : (1 + 40) * (1 + 40) ≤ 41 ^ 2) (po (by omega)), fun o ho => by rw [List.mem_singleton.1 ho]⟩
   rw [List.mem_singleton.1 ho]
   exact ⟨by simp [Up], fun x hx => by rw [List.mem_singleton.1 hx]; exact hs⟩
  ·exact FO.nil hp
 ·obtain ⟨x, y, hK⟩ := gx hl
  have a := bB hR hf hF (j := 0) (x := x) (by rw [hK]; rfl)
  have b := bB hR hf hF (j := 1) (x := y) (by rw [hK]; rfl)
  rw [if_neg (by omega), if_pos hk]
  refine FO.of (a.ok.merge b.ok) ?_ (nJ a.2.2.2 b.2.2.2)
  rw [gA hK]
  exact li (by rw [cq]; omega) (nj a.2.2.1 b.2.2.1 (by omega))
 ·obtain ⟨x, y, hK⟩ := gx hl
  have a := bB hR hf hF (j := 0) (x := x) (by rw [hK]; rfl)
  have b := bB hR hf hF (j := 1) (x := y) (by rw [hK]; rfl)
  rw [if_neg (by omega), if_neg (by omega), if_pos hk]
  refine FO.of (xt (mode := mode) S1 S2 a.2.1 b.2.1 (Nat.le_refl _) (Nat.le_refl _)).2.2 ?_ (zP T1 T2 a.2.2.2 b.2.2.2).2.2
  rw [gA hK]
  refine li ?_ (nj a.2.2.1 b.2.2.1 (show exN x + 1 + (exN y + 1) ≤ exN x + exN y + 1 + 1 by omega))
  rw [cq, Nat.mul_add, Nat.mul_comm (av found n 1).length (av found n 0).length]
  omega
 ·obtain ⟨x, y, hK⟩ := gx hl
  have a := bB hR hf hF (j := 0) (x := x) (by rw [hK]; rfl)
  have b := bB hR hf hF (j := 1) (x := y) (by rw [hK]; rfl)
  have hN := gA hK
  have h2 := a.two b (by omega)
  rw [cq] at h2
  rw [if_neg (by omega), if_neg (by omega), if_neg (by omega), if_pos hk]
  refine FO.of (sX 1000000000000 (Nat.le_refl _) mode n.Pair _ _ 40 (av found n 1).length (by omega) (by omega) (by omega) S1 a.2.1 b.2.1 (by omega) (Nat.le_refl _)).2.2 ?_ (nv _ (n.Pair.Left, []) b.2.2.2 T1 (by simp)).2
  rw [hN]
  refine li ?_ (nj a.2.2.1 b.2.2.1 (show exN x + 1 + (exN y + 1) ≤ exN x + exN y + 1 + 1 by omega))
  rw [cq]; omega
 ·obtain ⟨x, y, z, hK⟩ := iZ hl
  have a := bB hR hf hF (j := 0) (x := x) (by rw [hK]; rfl)
  have b := bB hR hf hF (j := 1) (x := y) (by rw [hK]; rfl)
  have c := bB hR hf hF (j := 2) (x := z) (by rw [hK]; rfl)
  have hN := ja hK
  have py := eQ y
  have h2 := a.two c (by omega)
  have h3 := b.small (by omega)
  rw [cq] at h2
  rw [if_neg (by omega), if_neg (by omega), if_neg (by omega), if_neg (by omega), if_pos hk]
  refine FO.of (tJ 1000000000000 (Nat.le_refl _) mode n.Span _ _ _ 40 (av found n 2).length (by omega) (by omega) (by omega) S3 S4 a.2.1 b.2.1 c.2.1 (by omega) (by omega) (Nat.le_refl _)).2.2.2 ?_ (nv _ (n.Span.Left, []) c.2.2.2 T3 (by simp)).2
  rw [hN]
  refine li ?_ (nj a.2.2.1 c.2.2.1 (show exN x + 1 + (exN z + 1) ≤ exN x + exN y + exN z + 1 + 1 by omega))
  rw [cq]; omega
 ·obtain ⟨x, y, z, hK⟩ := iZ hl
  have a := bB hR hf hF (j := 0) (x := x) (by rw [hK]; rfl)
  have b := bB hR hf hF (j := 1) (x := y) (by rw [hK]; rfl)
  have c := bB hR hf hF (j := 2) (x := z) (by rw [hK]; rfl)
  have hN := ja hK
  have pz := eQ z
  have h2 := a.two b (by omega)
  have h3 := c.small (by omega)
  rw [cq] at h2
  rw [if_neg (by omega), if_neg (by omega), if_neg (by omega), if_neg (by omega), if_neg (by omega), if_pos hk]
  refine FO.of (ri 1000000000000 (Nat.le_refl _) mode n.Span _ _ _ 40 (av found n 1).length (by omega) (by omega) (by omega) S3 S4 a.2.1 b.2.1 c.2.1 (by omega) (Nat.le_refl _) (by omega)).2.2.2 ?_ (zw T3 _ _ b.2.2.2 (by simp))
  rw [hN]
  refine li ?_ (nj a.2.2.1 b.2.2.1 (show exN x + 1 + (exN y + 1) ≤ exN x + exN y + exN z + 1 + 1 by omega))
  rw [cq]; omega
 ·obtain ⟨x, hK⟩ := tF hl.1
  rw [if_neg (by omega), if_neg (by omega), if_neg (by omega), if_neg (by omega), if_neg (by omega), if_neg (by omega)]
  have hN := tY hK
  have px := eQ x
  refine FO.of (S5.filter _) (Nat.le_trans (by decide : (40 + 40) * (40 + 40) ≤ 41 ^ 3) (po (by omega))) (fun o ho => ?_)
  have := (List.mem_filter.1 ho).2
  simpa using this
end Go.Proofs.YtlbnmldopjadoaaGreat
