/- Trees: both programs find the same ones well formed. -/
import Derived.Test.YtgbgabkdbfeibaaM7
namespace Go.Proofs.Ytgbgabkdbfeibaa
open Go Go.Vm
set_option linter.unusedVariables false
def kidsN (a : Int) : Int := if a = 1 then 0 else if a = 7 then 1 else if a = 2 then 2 else if a = 3 then 2 else if a = 4 then 2 else if a = 5 then 3 else if a = 6 then 3 else -1
theorem l2Kids_eq (a : Int) : spec_l2Kids.f a = some (kidsN a) := by
  unfold spec_l2Kids.f kidsN
  repeat' split
  all_goals rfl
def exHere (e : GEx) : Bool := decide (kidsN e.Kind = (e.Kids.length : Int)) && decide (0 ≤ e.Sym) && decide (e.Sym < 5) && (decide (e.Kind = 1) || decide (e.Sym = 0)) && (if e.Kind = 7 then decide (1 ≤ e.N) && decide (e.N ≤ 20) else decide (e.N = 0))
mutual
def exForm : GEx → Bool
  | ⟨a, b, c, ks⟩ => exHere ⟨a, b, c, ks⟩ && exForms ks
def exForms : List GEx → Bool
  | [] => true
  | x :: xs => exForm x && exForms xs
end
mutual
def exD : GEx → Nat
  | ⟨_, _, _, ks⟩ => 1 + exDs ks
def exDs : List GEx → Nat
  | [] => 0
  | x :: xs => max (exD x) (exDs xs)
end
theorem exForm_eq (e : GEx) : exForm e = (exHere e && exForms e.Kids) := by cases e; simp only [exForm]
theorem exD_eq (e : GEx) : exD e = 1 + exDs e.Kids := by cases e; simp only [exD]
theorem exForms_all : ∀ l : List GEx, exForms l = l.all exForm
  | [] => by simp only [exForms]; rfl
  | x :: xs => by simp only [exForms, exForms_all xs, List.all_cons]
theorem exDs_le : ∀ (l : List GEx) (d : Nat), exDs l ≤ d ↔ ∀ x ∈ l, exD x ≤ d
  | [], d => by simp [exDs]
  | x :: xs, d => by
    simp only [exDs, Nat.max_le, exDs_le xs d, List.mem_cons]
    exact ⟨fun h y hy => hy.elim (fun e => e ▸ h.1) (h.2 y), fun h => ⟨h x (.inl rfl), fun y hy => h y (.inr hy)⟩⟩
/-- well formed, no deeper than d -/
def formD : Nat → GEx → Bool
  | 0, _ => false
  | d + 1, e => exHere e && e.Kids.all (formD d)
theorem formD_eq : ∀ (d : Nat) (e : GEx), formD d e = (decide (exD e ≤ d) && exForm e)
  | 0, e => by rw [exD_eq]; simp [formD]
  | d + 1, e => by
    rw [formD, exForm_eq, exForms_all, exD_eq]
    have h : e.Kids.all (formD d) = (decide (1 + exDs e.Kids ≤ d + 1) && e.Kids.all exForm) := by
      rw [Bool.eq_iff_iff]
      simp only [List.all_eq_true, Bool.and_eq_true, decide_eq_true_eq, formD_eq d]
      constructor
      · intro h
        refine ⟨?_, fun x hx => (h x hx).2⟩
        have := (exDs_le e.Kids d).2 fun x hx => (h x hx).1
        omega
      · rintro ⟨h1, h2⟩ x hx
        exact ⟨(exDs_le e.Kids d).1 (by omega) x hx, h2 x hx⟩
    rw [h]
    cases exHere e <;> cases decide (1 + exDs e.Kids ≤ d + 1) <;> rfl
theorem l2Form_loops (k : Nat) (rec' : GEx → Int → Option Bool) (e : GEx) (q : Int) (g : GEx → Bool) (hl : e.Kids.length < 4611686018427387904) (H : ∀ x ∈ e.Kids, rec' x (IntKind.wrap .i64 (q - 1)) = some (g x)) :
    ∀ (d n i : Nat), i + d = e.Kids.length → d < n →
      spec_l2Form.l0 k rec' e q n (i : Int) = some (if (e.Kids.drop i).all g then .ok () else .error false) ∧
      spec_l2Form.l1 k rec' e q n (i : Int) = some (if (e.Kids.drop i).all g then .ok () else .error false) ∧
      spec_l2Form.l2 k rec' e q n (i : Int) = some (if (e.Kids.drop i).all g then .ok () else .error false) ∧
      spec_l2Form.l3 k rec' e q n (i : Int) = some (if (e.Kids.drop i).all g then .ok () else .error false) := by
  intro d
  induction d with
  | zero =>
    intro n i hi hn
    obtain ⟨n, rfl⟩ : ∃ m, n = m + 1 := ⟨n - 1, by omega⟩
    rw [List.drop_eq_nil_of_le (by omega)]
    exact ⟨by rw [spec_l2Form.l0, if_neg (by omega)]; rfl, by rw [spec_l2Form.l1, if_neg (by omega)]; rfl, by rw [spec_l2Form.l2, if_neg (by omega)]; rfl, by rw [spec_l2Form.l3, if_neg (by omega)]; rfl⟩
  | succ d ih =>
    intro n i hi hn
    obtain ⟨n, rfl⟩ : ∃ m, n = m + 1 := ⟨n - 1, by omega⟩
    have hlt : i < e.Kids.length := by omega
    obtain ⟨i0, i1, i2, i3⟩ := ih n (i + 1) (by omega) (by omega)
    rw [List.drop_eq_getElem_cons hlt, List.all_cons]
    refine ⟨?_, ?_, ?_, ?_⟩
    · rw [spec_l2Form.l0, if_pos (by omega), req_pos (by omega), Int.toNat_natCast, List.getElem?_eq_getElem hlt]
      simp only [Option.bind_some, H e.Kids[i] (List.getElem_mem hlt)]
      cases g e.Kids[i]
      · rfl
      · rw [if_pos rfl, wrS i (by omega), i0, Bool.true_and]
    · rw [spec_l2Form.l1, if_pos (by omega), req_pos (by omega), Int.toNat_natCast, List.getElem?_eq_getElem hlt]
      simp only [Option.bind_some, H e.Kids[i] (List.getElem_mem hlt)]
      cases g e.Kids[i]
      · rfl
      · rw [if_pos rfl, wrS i (by omega), i1, Bool.true_and]
    · rw [spec_l2Form.l2, if_pos (by omega), req_pos (by omega), Int.toNat_natCast, List.getElem?_eq_getElem hlt]
      simp only [Option.bind_some, H e.Kids[i] (List.getElem_mem hlt)]
      cases g e.Kids[i]
      · rfl
      · rw [if_pos rfl, wrS i (by omega), i2, Bool.true_and]
    · rw [spec_l2Form.l3, if_pos (by omega), req_pos (by omega), Int.toNat_natCast, List.getElem?_eq_getElem hlt]
      simp only [Option.bind_some, H e.Kids[i] (List.getElem_mem hlt)]
      cases g e.Kids[i]
      · rfl
      · rw [if_pos rfl, wrS i (by omega), i3, Bool.true_and]
theorem l2Form_k : ∀ (d : Nat) (e : GEx) (k : Nat), d ≤ 5 → exN e ≤ 1048577 → 3 * exN e ≤ k → spec_l2Form.f k e (d : Int) = some (formD d e)
  | 0, e, k, hd, hs, hk => by
    rw [exN_eq] at hk
    obtain ⟨k, rfl⟩ : ∃ m, k = m + 1 := ⟨k - 1, by omega⟩
    rw [spec_l2Form.f, if_pos (by decide)]; rfl
  | d + 1, e, k, hd, hs, hk => by
    rw [exN_eq] at hk hs
    have hq := exNs_len e.Kids
    obtain ⟨k, rfl⟩ : ∃ m, k = m + 1 := ⟨k - 1, by omega⟩
    have hw : IntKind.wrap .i64 (((d + 1 : Nat) : Int) - 1) = (d : Int) := wrP d (by omega)
    have H : ∀ x ∈ e.Kids, spec_l2Form.f k x (IntKind.wrap .i64 (((d + 1 : Nat) : Int) - 1)) = some (formD d x) := fun x hx => by
      have := exNs_mem hx
      rw [hw]; exact l2Form_k d x k (by omega) (by omega) (by omega)
    obtain ⟨i0, i1, i2, i3⟩ := l2Form_loops k (spec_l2Form.f k) e ((d + 1 : Nat) : Int) (formD d) (by omega) H e.Kids.length k 0 (by omega) (by omega)
    rw [show ((0 : Nat) : Int) = 0 from rfl, List.drop_zero] at i0 i1 i2 i3
    rw [spec_l2Form.f, if_neg (by omega), l2Kids_eq]
    simp only [Option.bind_some, i0, i1, i2, i3, formD, exHere]
    cases hA : e.Kids.all (formD d) <;> (repeat' split) <;> simp_all <;> omega
end Go.Proofs.Ytgbgabkdbfeibaa
