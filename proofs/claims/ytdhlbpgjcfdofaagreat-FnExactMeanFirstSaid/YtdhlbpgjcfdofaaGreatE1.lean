/- Trees: which are well formed, in both programs. -/
import Derived.Test.YtdhlbpgjcfdofaaGreatE0
namespace Go.Proofs.YtdhlbpgjcfdofaaGreat
open Go Go.Vm
set_option linter.unusedVariables false
def kidsN (a : Int) : Int := if a = 1 then 0 else if a = 7 then 1 else if a = 2 then 2 else if a = 3 then 2 else if a = 4 then 2 else if a = 5 then 3 else if a = 6 then 3 else -1
theorem l2Kids_eq (a : Int) : spec_l2Kids.f a = some (kidsN a) := by
  unfold spec_l2Kids.f kidsN
  repeat' split
  all_goals rfl
def exHere (e : GEx) : Bool := decide (kidsN e.Kind = (e.Kids.length : Int)) && decide (0 ≤ e.Sym) && decide (e.Sym < 5) && (decide (e.Kind = 1) || decide (e.Sym = 0)) && (if e.Kind = 7 then decide (1 ≤ e.N) && decide (e.N ≤ 20) else decide (e.N = 0))
mutual
def exForm : GEx → Bool
  | ⟨a, b, c, ks⟩ => exHere ⟨a, b, c, ks⟩ && exForms ks
def exForms : List GEx → Bool
  | [] => true
  | x :: xs => exForm x && exForms xs
end
mutual
def exD : GEx → Nat
  | ⟨_, _, _, ks⟩ => 1 + exDs ks
def exDs : List GEx → Nat
  | [] => 0
  | x :: xs => max (exD x) (exDs xs)
end
theorem exForm_eq (e : GEx) : exForm e = (exHere e && exForms e.Kids) := by cases e; simp only [exForm]
theorem exD_eq (e : GEx) : exD e = 1 + exDs e.Kids := by cases e; simp only [exD]
theorem exForms_all : ∀ l : List GEx, exForms l = l.all exForm
  | [] => by simp only [exForms]; rfl
  | x :: xs => by simp only [exForms, exForms_all xs, List.all_cons]
theorem exDs_le : ∀ (l : List GEx) (d : Nat), exDs l ≤ d ↔ ∀ x ∈ l, exD x ≤ d
  | [], d => by simp [exDs]
  | x :: xs, d => by
    simp only [exDs, Nat.max_le, exDs_le xs d, List.mem_cons]
    exact ⟨fun h y hy => hy.elim (fun e => e ▸ h.1) (h.2 y), fun h => ⟨h x (.inl rfl), fun y hy => h y (.inr hy)⟩⟩
/-- well formed, no deeper than d -/
def formD : Nat → GEx → Bool
  | 0, _ => false
  | d + 1, e => exHere e && e.Kids.all (formD d)
theorem formD_eq : ∀ (d : Nat) (e : GEx), formD d e = (decide (exD e ≤ d) && exForm e)
  | 0, e => by rw [exD_eq]; simp [formD]
  | d + 1, e => by
    rw [formD, exForm_eq, exForms_all, exD_eq]
    have h : e.Kids.all (formD d) = (decide (1 + exDs e.Kids ≤ d + 1) && e.Kids.all exForm) := by
      rw [Bool.eq_iff_iff]
      simp only [List.all_eq_true, Bool.and_eq_true, decide_eq_true_eq, formD_eq d]
      constructor
      · intro h
        refine ⟨?_, fun x hx => (h x hx).2⟩
        have := (exDs_le e.Kids d).2 fun x hx => (h x hx).1
        omega
      · rintro ⟨h1, h2⟩ x hx
        exact ⟨(exDs_le e.Kids d).1 (by omega) x hx, h2 x hx⟩
    rw [h]
    cases exHere e <;> cases decide (1 + exDs e.Kids ≤ d + 1) <;> rfl
theorem l2Form_loops (k : Nat) (rec' : GEx → Int → Option Bool) (e : GEx) (q : Int) (g : GEx → Bool) (hl : e.Kids.length < 4611686018427387904) (H : ∀ x ∈ e.Kids, rec' x (IntKind.wrap .i64 (q - 1)) = some (g x)) :
    ∀ (d n i : Nat), i + d = e.Kids.length → d < n →
      spec_l2Form.l0 k rec' e q n (i : Int) = some (if (e.Kids.drop i).all g then .ok () else .error false) ∧
      spec_l2Form.l1 k rec' e q n (i : Int) = some (if (e.Kids.drop i).all g then .ok () else .error false) ∧
      spec_l2Form.l2 k rec' e q n (i : Int) = some (if (e.Kids.drop i).all g then .ok () else .error false) ∧
      spec_l2Form.l3 k rec' e q n (i : Int) = some (if (e.Kids.drop i).all g then .ok () else .error false) := by
  intro d
  induction d with
  | zero =>
    intro n i hi hn
    obtain ⟨n, rfl⟩ : ∃ m, n = m + 1 := ⟨n - 1, by omega⟩
    rw [List.drop_eq_nil_of_le (by omega)]
    exact ⟨by rw [spec_l2Form.l0, if_neg (by omega)]; rfl, by rw [spec_l2Form.l1, if_neg (by omega)]; rfl, by rw [spec_l2Form.l2, if_neg (by omega)]; rfl, by rw [spec_l2Form.l3, if_neg (by omega)]; rfl⟩
  | succ d ih =>
    intro n i hi hn
    obtain ⟨n, rfl⟩ : ∃ m, n = m + 1 := ⟨n - 1, by omega⟩
    have hlt : i < e.Kids.length := by omega
    obtain ⟨i0, i1, i2, i3⟩ := ih n (i + 1) (by omega) (by omega)
    rw [List.drop_eq_getElem_cons hlt, List.all_cons]
    refine ⟨?_, ?_, ?_, ?_⟩
    · rw [spec_l2Form.l0, if_pos (by omega), req_pos (by omega), Int.toNat_natCast, List.getElem?_eq_getElem hlt]
      simp only [Option.bind_some, H e.Kids[i] (List.getElem_mem hlt)]
      cases g e.Kids[i]
      · rfl
      · rw [if_pos rfl, wrS i (by omega), i0, Bool.true_and]
    · rw [spec_l2Form.l1, if_pos (by omega), req_pos (by omega), Int.toNat_natCast, List.getElem?_eq_getElem hlt]
      simp only [Option.bind_some, H e.Kids[i] (List.getElem_mem hlt)]
      cases g e.Kids[i]
      · rfl
      · rw [if_pos rfl, wrS i (by omega), i1, Bool.true_and]
    · rw [spec_l2Form.l2, if_pos (by omega), req_pos (by omega), Int.toNat_natCast, List.getElem?_eq_getElem hlt]
      simp only [Option.bind_some, H e.Kids[i] (List.getElem_mem hlt)]
      cases g e.Kids[i]
      · rfl
      · rw [if_pos rfl, wrS i (by omega), i2, Bool.true_and]
    · rw [spec_l2Form.l3, if_pos (by omega), req_pos (by omega), Int.toNat_natCast, List.getElem?_eq_getElem hlt]
      simp only [Option.bind_some, H e.Kids[i] (List.getElem_mem hlt)]
      cases g e.Kids[i]
      · rfl
      · rw [if_pos rfl, wrS i (by omega), i3, Bool.true_and]
theorem l2Form_k : ∀ (d : Nat) (e : GEx) (k : Nat), d ≤ 5 → exN e ≤ 1048577 → 3 * exN e ≤ k → spec_l2Form.f k e (d : Int) = some (formD d e)
  | 0, e, k, hd, hs, hk => by
    rw [exN_eq] at hk
    obtain ⟨k, rfl⟩ : ∃ m, k = m + 1 := ⟨k - 1, by omega⟩
    rw [spec_l2Form.f, if_pos (by decide)]; rfl
  | d + 1, e, k, hd, hs, hk => by
    rw [exN_eq] at hk hs
    have hq := exNs_len e.Kids
    obtain ⟨k, rfl⟩ : ∃ m, k = m + 1 := ⟨k - 1, by omega⟩
    have hw : IntKind.wrap .i64 (((d + 1 : Nat) : Int) - 1) = (d : Int) := wrP d (by omega)
    have H : ∀ x ∈ e.Kids, spec_l2Form.f k x (IntKind.wrap .i64 (((d + 1 : Nat) : Int) - 1)) = some (formD d x) := fun x hx => by
      have := exNs_mem hx
      rw [hw]; exact l2Form_k d x k (by omega) (by omega) (by omega)
    obtain ⟨i0, i1, i2, i3⟩ := l2Form_loops k (spec_l2Form.f k) e ((d + 1 : Nat) : Int) (formD d) (by omega) H e.Kids.length k 0 (by omega) (by omega)
    rw [show ((0 : Nat) : Int) = 0 from rfl, List.drop_zero] at i0 i1 i2 i3
    rw [spec_l2Form.f, if_neg (by omega), l2Kids_eq]
    simp only [Option.bind_some, i0, i1, i2, i3, formD, exHere]
    cases hA : e.Kids.all (formD d) <;> (repeat' split) <;> simp_all <;> omega
theorem l2Many_loop (k : Nat) (rec' : GEx → Int → Option Int) (e : GEx) (q : Int) (hq : 0 < q) (hl : e.Kids.length < 4611686018427387904) (H : ∀ x ∈ e.Kids, rec' x (IntKind.wrap .i64 (q - 1)) = some (exN x : Int)) :
    ∀ (d n i : Nat) (s : Int), i + d = e.Kids.length → d < n → 0 ≤ s → s + exNs (e.Kids.drop i) ≤ 100000000 →
      spec_l2Many.l0 k rec' e q n s (i : Int) = some (s + exNs (e.Kids.drop i)) := by
  intro d
  induction d with
  | zero =>
    intro n i s hi hn h0 h1
    obtain ⟨n, rfl⟩ : ∃ m, n = m + 1 := ⟨n - 1, by omega⟩
    rw [spec_l2Many.l0, if_neg (by omega), List.drop_eq_nil_of_le (by omega), exNs_nil]; simp
  | succ d ih =>
    intro n i s hi hn h0 h1
    obtain ⟨n, rfl⟩ : ∃ m, n = m + 1 := ⟨n - 1, by omega⟩
    have hlt : i < e.Kids.length := by omega
    rw [List.drop_eq_getElem_cons hlt, exNs_cons] at h1 ⊢
    rw [spec_l2Many.l0, if_pos (by omega), if_pos hq, req_pos (by omega), Int.toNat_natCast, List.getElem?_eq_getElem hlt]
    simp only [Option.bind_some, H e.Kids[i] (List.getElem_mem hlt)]
    push_cast at h1
    rw [wrS i (by omega), wr (s + _) (by omega), ih n (i + 1) _ (by omega) (by omega) (by omega) (by omega)]
    congr 1; push_cast; omega
theorem l2Many_k : ∀ (d : Nat) (e : GEx) (k : Nat), d ≤ 5 → exD e ≤ d → exN e ≤ 1048577 → 3 * exN e ≤ k → spec_l2Many.f k e (d : Int) = some (exN e : Int)
  | 0, e, k, _, hd, _, _ => by rw [exD_eq] at hd; omega
  | d + 1, e, k, hd5, hd, hs, hk => by
    rw [exD_eq] at hd
    rw [exN_eq] at hk hs ⊢
    have hq := exNs_len e.Kids
    obtain ⟨k, rfl⟩ : ∃ m, k = m + 1 := ⟨k - 1, by omega⟩
    have hdd := (exDs_le e.Kids d).1 (by omega)
    have := l2Many_loop k (spec_l2Many.f k) e ((d + 1 : Nat) : Int) (by omega) (by omega) (fun x hx => by
      have := exNs_mem hx
      rw [wrP d (by omega)]; exact l2Many_k d x k (by omega) (hdd x hx) (by omega) (by omega)) e.Kids.length k 0 1 (by omega) (by omega) (by omega) (by simp only [List.drop_zero]; omega)
    rw [show ((0 : Nat) : Int) = 0 from rfl, List.drop_zero] at this
    rw [spec_l2Many.f, this]
    simp
theorem exD_le : ∀ e : GEx, exD e ≤ exN e := by
  refine exInd fun e ih => ?_
  rw [exD_eq, exN_eq]
  have := (exDs_le e.Kids (exNs e.Kids)).2 fun x hx => by
    have := ih x hx; have := exNs_mem hx; omega
  omega
theorem exDs_cons (x : GEx) (xs : List GEx) : exDs (x :: xs) = max (exD x) (exDs xs) := by simp only [exDs]
theorem size_loop (k : Nat) (rec' : GEx → Option (Int × Int)) (e : GEx) (hl : e.Kids.length < 4611686018427387904) (H : ∀ x ∈ e.Kids, rec' x = some ((exN x : Int), (exD x : Int))) (hb : exNs e.Kids ≤ 1048577) :
    ∀ (d n i : Nat) (s t : Int), i + d = e.Kids.length → d < n → 0 ≤ s → s + exNs (e.Kids.drop i) ≤ 100000000 → 1 ≤ t →
      impl_Ex_size.l0 k rec' e n s t (i : Int) = some (s + exNs (e.Kids.drop i), max t (1 + exDs (e.Kids.drop i) : Nat)) := by
  intro d
  induction d with
  | zero =>
    intro n i s t hi hn h0 h1 h2
    obtain ⟨n, rfl⟩ : ∃ m, n = m + 1 := ⟨n - 1, by omega⟩
    rw [impl_Ex_size.l0, if_neg (by omega), List.drop_eq_nil_of_le (by omega), exNs_nil, show exDs [] = 0 by simp only [exDs]]
    congr 2
    · simp
    · push_cast; omega
  | succ d ih =>
    intro n i s t hi hn h0 h1 h2
    obtain ⟨n, rfl⟩ : ∃ m, n = m + 1 := ⟨n - 1, by omega⟩
    have hlt : i < e.Kids.length := by omega
    have hd := exD_le e.Kids[i]
    have hm := exNs_mem (List.getElem_mem hlt : e.Kids[i] ∈ e.Kids)
    rw [List.drop_eq_getElem_cons hlt, exNs_cons] at h1 ⊢
    rw [exDs_cons, impl_Ex_size.l0, if_pos (by omega), req_pos (by omega), Int.toNat_natCast, List.getElem?_eq_getElem hlt]
    simp only [Option.bind_some, H e.Kids[i] (List.getElem_mem hlt)]
    push_cast at h1
    rw [wrS i (by omega), wr (s + _) (by omega), wr ((exD e.Kids[i] : Int) + 1) (by omega)]
    by_cases h : t < (exD e.Kids[i] : Int) + 1
    · rw [if_pos h, ih n (i + 1) _ _ (by omega) (by omega) (by omega) (by omega) (by omega)]
      congr 2
      · push_cast; omega
      · push_cast; omega
    · rw [if_neg h, ih n (i + 1) _ _ (by omega) (by omega) (by omega) (by omega) (by omega)]
      congr 2
      · push_cast; omega
      · push_cast; omega
theorem size_k : ∀ e : GEx, exN e ≤ 1048577 → ∀ k : Nat, 3 * exN e ≤ k → impl_Ex_size.f k e = some ((exN e : Int), (exD e : Int)) := by
  refine exInd fun e ih hs k hk => ?_
  rw [exN_eq] at hk hs ⊢
  rw [exD_eq]
  have hq := exNs_len e.Kids
  obtain ⟨k, rfl⟩ : ∃ m, k = m + 1 := ⟨k - 1, by omega⟩
  have := size_loop k (impl_Ex_size.f k) e (by omega) (fun x hx => ih x hx (by have := exNs_mem hx; omega) k (by have := exNs_mem hx; omega)) (by omega) e.Kids.length k 0 1 1 (by omega) (by omega) (by omega) (by simp only [List.drop_zero]; omega) (by omega)
  rw [show ((0 : Nat) : Int) = 0 from rfl, List.drop_zero] at this
  rw [impl_Ex_size.f, this]
  simp only [Option.bind_some]
  congr 2
  push_cast; omega
theorem xindex_loop (k : Nat) (g : GEx → Option Bool) (h : GEx → Bool) (l : List GEx) (hl : l.length < 4611686018427387904) (H : ∀ x ∈ l, g x = some (h x)) :
    ∀ (d n i : Nat), i + d = l.length → d < n → ∃ r, slices_IndexFunc.l0 k g l n (i : Int) = some r ∧ ((∃ j : Int, r = .error j ∧ 0 ≤ j ∧ (l.drop i).any h = true) ∨ (r = .ok () ∧ (l.drop i).any h = false)) := by
  intro d
  induction d with
  | zero =>
    intro n i hi hn
    obtain ⟨n, rfl⟩ : ∃ m, n = m + 1 := ⟨n - 1, by omega⟩
    rw [slices_IndexFunc.l0, if_neg (by omega), List.drop_eq_nil_of_le (by omega)]
    exact ⟨_, rfl, .inr ⟨rfl, rfl⟩⟩
  | succ d ih =>
    intro n i hi hn
    obtain ⟨n, rfl⟩ : ∃ m, n = m + 1 := ⟨n - 1, by omega⟩
    have hlt : i < l.length := by omega
    rw [slices_IndexFunc.l0, if_pos (by omega), req_pos (by omega), Int.toNat_natCast, List.getElem?_eq_getElem hlt, List.drop_eq_getElem_cons hlt, List.any_cons]
    simp only [Option.bind_some, H l[i] (List.getElem_mem hlt)]
    cases hh : h l[i] with
    | true => rw [if_pos rfl]; exact ⟨_, rfl, .inl ⟨_, rfl, by omega, rfl⟩⟩
    | false =>
      rw [if_neg (by decide), wrS i (by omega), Bool.false_or]
      exact ih n (i + 1) (by omega) (by omega)
theorem xcontains_k (k : Nat) (g : GEx → Option Bool) (h : GEx → Bool) (l : List GEx) (hl : l.length < 4611686018427387904) (H : ∀ x ∈ l, g x = some (h x)) (hk : l.length < k) : slices_ContainsFunc.f g k l = some (l.any h) := by
  obtain ⟨r, h1, h2⟩ := xindex_loop k g h l hl H l.length k 0 (by omega) hk
  rw [show ((0 : Nat) : Int) = 0 from rfl] at h1
  rw [List.drop_zero] at h2
  unfold slices_ContainsFunc.f slices_IndexFunc.f
  rw [h1]
  rcases h2 with ⟨j, rfl, h3, h4⟩ | ⟨rfl, h4⟩
  · simp only [Option.bind_some, h4, Option.some.injEq, Bool.not_eq_true', decide_eq_false_iff_not]; omega
  · simp only [Option.bind_some, h4]; rfl
theorem kids_tab (a : Int) (h : 1 ≤ a ∧ a ≤ 7) : impl_kids.f a = some (kidsN a) := by
  have : a = 1 ∨ a = 2 ∨ a = 3 ∨ a = 4 ∨ a = 5 ∨ a = 6 ∨ a = 7 := by omega
  rcases this with h | h | h | h | h | h | h <;> subst h <;> rfl
theorem kidsN_out (a : Int) (h : ¬ (1 ≤ a ∧ a ≤ 7)) : kidsN a = -1 := by
  unfold kidsN
  repeat rw [if_neg (by omega)]
theorem in_k (a b c : Int) : impl_in.f a b c = some (decide (b ≤ a) && decide (a ≤ c)) := in_eq a b c
theorem any_not (l : List GEx) : (!(l.any fun x => !exForm x)) = exForms l := by
  rw [exForms_all]
  induction l with
  | nil => rfl
  | cons x xs ih => simp only [List.any_cons, List.all_cons, ← ih]; cases exForm x <;> simp
theorem formed_k : ∀ e : GEx, exN e ≤ 1048577 → ∀ k : Nat, 3 * exN e ≤ k → impl_Ex_formed.f k e = some (exForm e) := by
  refine exInd fun e ih hs k hk => ?_
  rw [exN_eq] at hk hs
  have hq := exNs_len e.Kids
  obtain ⟨k, rfl⟩ : ∃ m, k = m + 2 := ⟨k - 2, by omega⟩
  have hc : slices_ContainsFunc.f (fun y0 => impl_Ex_formed_1.f (k + 1) y0) (k + 1) e.Kids = some (e.Kids.any fun x => !exForm x) := by
    refine xcontains_k (k + 1) _ _ _ (by omega) (fun x hx => ?_) (by omega)
    have := exNs_mem hx
    rw [impl_Ex_formed_1.f, ih x hx (by omega) k (by omega)]; rfl
  rw [impl_Ex_formed.f, exForm_eq, ← any_not]
  simp only [impl_isKind.f, impl_isSym.f, in_k, hc, Option.bind_some]
  by_cases hk7 : 1 ≤ e.Kind ∧ e.Kind ≤ 7
  · simp only [kids_tab e.Kind hk7, Option.bind_some, exHere]
    cases hA : e.Kids.any (fun x => !exForm x) <;> (repeat' split) <;> simp_all <;> omega
  · have h0 := kidsN_out e.Kind hk7
    have h1 : exHere e = false := by unfold exHere; rw [h0]; have : ¬ ((-1 : Int) = (e.Kids.length : Int)) := by omega
                                     simp [this]
    have h2 : (decide (1 ≤ e.Kind) && decide (e.Kind ≤ 7)) = false := by
      rw [Bool.eq_false_iff]; simp only [ne_eq, Bool.and_eq_true, decide_eq_true_eq]; exact hk7
    rw [h1, h2]; rfl
def exOk (e : GEx) : Bool := decide (exN e ≤ 12) && decide (exD e ≤ 5) && exForm e
theorem spec_ExOk_k (e : GEx) (hs : exN e ≤ 1048577) (k : Nat) (hk : 3 * exN e ≤ k) : spec_ExOk.f k e = some (exOk e) := by
  unfold spec_ExOk.f
  rw [show (5 : Int) = ((5 : Nat) : Int) from rfl, l2Form_k 5 e k (by omega) hs hk, formD_eq]
  simp only [Option.bind_some, exOk]
  by_cases hd : exD e ≤ 5
  · rw [l2Many_k 5 e k (by omega) hd hs hk]
    cases exForm e
    · simp
    · simp only [hd, decide_true, Bool.and_self, if_true, Option.bind_some, Bool.and_true]
      by_cases h : exN e ≤ 12
      · simp [h]; omega
      · simp [h]; omega
  · simp [hd]
theorem impl_ExOk_k (e : GEx) (hs : exN e ≤ 1048577) (k : Nat) (hk : 3 * exN e ≤ k) : impl_ExOk.f k e = some (exOk e) := by
  unfold impl_ExOk.f
  rw [size_k e hs k hk, formed_k e hs k hk]
  simp only [Option.bind_some, exOk]
  by_cases h : 12 < (exN e : Int)
  · rw [if_pos h]; simp; omega
  · rw [if_neg h]
    by_cases h2 : 5 < (exD e : Int)
    · rw [if_pos h2]; simp; omega
    · rw [if_neg h2]
      have a1 : exN e ≤ 12 := by omega
      have a2 : exD e ≤ 5 := by omega
      simp [a1, a2]
end Go.Proofs.YtdhlbpgjcfdofaaGreat
