/- Trees: how many nodes, induction. -/
import Derived.Test.YtdhlbpgjcfdofaaGreatM0a
namespace Go.Proofs.YtdhlbpgjcfdofaaGreat
open Go Go.Vm
set_option linter.unusedVariables false
mutual
/-- how many nodes -/
def exN : GEx → Nat
  | ⟨_, _, _, ks⟩ => 1 + exNs ks
def exNs : List GEx → Nat
  | [] => 0
  | x :: xs => exN x + exNs xs
end
theorem exNs_nil : exNs [] = 0 := by simp only [exNs]
theorem exNs_cons (x : GEx) (xs : List GEx) : exNs (x :: xs) = exN x + exNs xs := by simp only [exNs]
theorem exN_eq (e : GEx) : exN e = 1 + exNs e.Kids := by cases e; simp only [exN]
theorem exNs_len : ∀ l : List GEx, l.length ≤ exNs l
  | [] => by simp [exNs_nil]
  | x :: xs => by have := exNs_len xs; rw [exNs_cons, exN_eq]; simp only [List.length_cons]; omega
theorem exNs_mem {e : GEx} : ∀ {l : List GEx}, e ∈ l → exN e ≤ exNs l
  | x :: xs, h => by
    rw [exNs_cons]
    rcases List.mem_cons.1 h with rfl | h
    · omega
    · have := exNs_mem h; omega
mutual
theorem exInd {P : GEx → Prop} (h : ∀ e : GEx, (∀ x ∈ e.Kids, P x) → P e) : ∀ e, P e
  | ⟨a, b, c, ks⟩ => h ⟨a, b, c, ks⟩ (exIndS h ks)
theorem exIndS {P : GEx → Prop} (h : ∀ e : GEx, (∀ x ∈ e.Kids, P x) → P e) : ∀ l : List GEx, ∀ x ∈ l, P x
  | [], _, hx => by simp at hx
  | y :: ys, x, hx => by
    rcases List.mem_cons.1 hx with e | hx
    · rw [e]; exact exInd h y
    · exact exIndS h ys x hx
end
mutual
/-- lengths that memory can hold, all the way down -/
def exSm : GEx → Prop
  | ⟨_, _, _, ks⟩ => ks.length < 4611686018427387904 ∧ exSms ks
def exSms : List GEx → Prop
  | [] => True
  | x :: xs => exSm x ∧ exSms xs
end
theorem exSms_mem {e : GEx} : ∀ {l : List GEx}, exSms l → e ∈ l → exSm e
  | x :: xs, hs, h => by
    simp only [exSms] at hs
    rcases List.mem_cons.1 h with rfl | h
    · exact hs.1
    · exact exSms_mem hs.2 h
theorem exSm_eq {e : GEx} (h : exSm e) : e.Kids.length < 4611686018427387904 ∧ ∀ x ∈ e.Kids, exSm x := by
  cases e; simp only [exSm] at h; exact ⟨h.1, fun x hx => exSms_mem h.2 hx⟩
end Go.Proofs.YtdhlbpgjcfdofaaGreat
