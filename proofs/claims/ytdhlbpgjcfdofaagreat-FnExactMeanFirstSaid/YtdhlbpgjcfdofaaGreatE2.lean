/- Trees: sizes, copies. -/
import Derived.Test.YtdhlbpgjcfdofaaGreatE0
namespace Go.Proofs.YtdhlbpgjcfdofaaGreat
open Go Go.Vm
set_option linter.unusedVariables false
theorem szExS_loop (k : Nat) (rec' : GEx → Int → Option Int) (l : List GEx)
    (H : ∀ e ∈ l, ∀ s : Int, 0 ≤ s → s ≤ 1048576 → rec' e s = some (if (exNs e.Kids : Int) ≤ s then s - exNs e.Kids else -1)) (hl : l.length < 4611686018427387904) :
    ∀ (d n i : Nat) (s : Int), i + d = l.length → d < n → 0 ≤ s → s ≤ 1048576 →
      laws_szExS.l0 k rec' l n s (i : Int) = some (if ((exNs (l.drop i) : Nat) : Int) - ((l.drop i).length : Nat) ≤ s then .ok (s - (((exNs (l.drop i) : Nat) : Int) - ((l.drop i).length : Nat))) else .error (-1)) := by
  intro d
  induction d with
  | zero =>
    intro n i s hi hn h0 h1
    obtain ⟨n, rfl⟩ : ∃ m, n = m + 1 := ⟨n - 1, by omega⟩
    rw [laws_szExS.l0, if_neg (by omega), List.drop_eq_nil_of_le (by omega), exNs_nil]
    simp [h0]
  | succ d ih =>
    intro n i s hi hn h0 h1
    obtain ⟨n, rfl⟩ : ∃ m, n = m + 1 := ⟨n - 1, by omega⟩
    have hlt : i < l.length := by omega
    rw [laws_szExS.l0, if_pos (by omega), req_pos (by omega), Int.toNat_natCast, List.getElem?_eq_getElem hlt, List.drop_eq_getElem_cons hlt, exNs_cons, exN_eq]
    simp only [Option.bind_some, H l[i] (List.getElem_mem hlt) s h0 h1, List.length_cons]
    have hq := exNs_len (l.drop (i + 1))
    by_cases h : (exNs l[i].Kids : Int) ≤ s
    · rw [if_pos h, if_neg (by omega), wrS i (by omega), ih n (i + 1) _ (by omega) (by omega) (by omega) (by omega)]
      by_cases h2 : ((exNs (l.drop (i + 1)) : Nat) : Int) - ((l.drop (i + 1)).length : Nat) ≤ s - exNs l[i].Kids
      · rw [if_pos h2, if_pos (by push_cast; omega)]
        congr 2; push_cast; omega
      · rw [if_neg h2, if_neg (by push_cast; omega)]
    · rw [if_neg h, if_pos (by decide), if_neg (by push_cast; omega)]
theorem szExS_k (l : List GEx) (hl : l.length < 4611686018427387904)
    (H : ∀ e ∈ l, ∀ (k : Nat) (s : Int), 3 * exN e ≤ k → 0 ≤ s → s ≤ 1048576 → laws_szEx.f k e s = some (if (exNs e.Kids : Int) ≤ s then s - exNs e.Kids else -1)) :
    ∀ (k : Nat) (s : Int), 3 * exNs l + 2 ≤ k → 0 ≤ s → s ≤ 1048576 → laws_szExS.f k l s = some (if (exNs l : Int) ≤ s then s - exNs l else -1) := by
  intro k s hk h0 h1
  obtain ⟨k, rfl⟩ : ∃ m, k = m + 1 := ⟨k - 1, by omega⟩
  have hq := exNs_len l
  rw [laws_szExS.f, wr (s - _) (by omega)]
  by_cases h : s - (l.length : Int) < 0
  · rw [if_pos h, if_neg (by omega)]
  · rw [if_neg h]
    have := szExS_loop k (laws_szEx.f k) l (fun e he s g0 g1 => H e he k s (by have := exNs_mem he; omega) g0 g1) hl l.length k 0 (s - l.length) (by omega) (by omega) (by omega) (by omega)
    rw [show ((0 : Nat) : Int) = 0 from rfl, List.drop_zero] at this
    rw [this]
    by_cases h2 : (exNs l : Int) ≤ s
    · rw [if_pos (by omega), if_pos h2]
      simp only [Option.bind_some, Option.some.injEq]; omega
    · rw [if_neg (by omega), if_neg h2]; rfl
theorem szEx_k : ∀ e : GEx, exSm e → ∀ (k : Nat) (s : Int), 3 * exN e ≤ k → 0 ≤ s → s ≤ 1048576 → laws_szEx.f k e s = some (if (exNs e.Kids : Int) ≤ s then s - exNs e.Kids else -1) := by
  refine exInd fun e ih hs k s hk h0 h1 => ?_
  obtain ⟨hl, hks⟩ := exSm_eq hs
  rw [exN_eq] at hk
  obtain ⟨k, rfl⟩ : ∃ m, k = m + 1 := ⟨k - 1, by omega⟩
  rw [laws_szEx.f, szExS_k e.Kids hl (fun x hx k s => ih x hx (hks x hx) k s) k s (by omega) h0 h1]
  simp only [Option.bind_some]
  by_cases h : (exNs e.Kids : Int) ≤ s
  · rw [if_pos h, if_neg (by omega)]
  · rw [if_neg h, if_pos (by decide)]
/- copies -/
theorem toExS_loop (k : Nat) (rec' : GEx → Option GEx) (l : List GEx) (hl : l.length < 4611686018427387904) (H : ∀ e ∈ l, rec' e = some e) :
    ∀ (d n i : Nat) (acc : List GEx), i + d = l.length → d < n → acc.length = l.length → acc.take i = l.take i → laws_toExS.l0 k rec' l n acc (i : Int) = some l := by
  intro d
  induction d with
  | zero =>
    intro n i acc hi hn ha ht
    obtain ⟨n, rfl⟩ : ∃ m, n = m + 1 := ⟨n - 1, by omega⟩
    rw [laws_toExS.l0, if_neg (by omega)]
    rw [show i = l.length by omega, List.take_length, ← ha, List.take_length] at ht
    rw [ht]
  | succ d ih =>
    intro n i acc hi hn ha ht
    obtain ⟨n, rfl⟩ : ∃ m, n = m + 1 := ⟨n - 1, by omega⟩
    have hlt : i < l.length := by omega
    rw [laws_toExS.l0, if_pos (by omega), req_pos (by omega), Int.toNat_natCast, List.getElem?_eq_getElem hlt]
    simp only [Option.bind_some, H l[i] (List.getElem_mem hlt)]
    rw [req_pos (by omega), req_pos (by omega), List.getElem?_eq_getElem (show i < acc.length by omega)]
    simp only [Option.bind_some]
    rw [wrS i (by omega)]
    refine ih n (i + 1) _ (by omega) (by omega) (by simpa using ha) ?_
    rw [List.take_add_one, List.take_set_of_le (Nat.le_refl _), ht, List.take_add_one]
    simp [hlt, ha]
theorem toEx_k : ∀ e : GEx, exN e ≤ 1048577 → ∀ k : Nat, 3 * exN e ≤ k → laws_toEx.f k e = some e := by
  refine exInd fun e ih hs k hk => ?_
  rw [exN_eq] at hk hs
  have hq := exNs_len e.Kids
  obtain ⟨k, rfl⟩ : ∃ m, k = m + 2 := ⟨k - 2, by omega⟩
  rw [laws_toEx.f, laws_toExS.f, req_pos (by omega), req_pos (by omega), req_pos (by omega)]
  have := toExS_loop k (laws_toEx.f k) e.Kids (by omega) (fun x hx => ih x hx (by have := exNs_mem hx; omega) k (by have := exNs_mem hx; omega)) e.Kids.length k 0 (List.replicate e.Kids.length ⟨0, 0, 0, []⟩) (by omega) (by omega) (by simp) (by simp)
  rw [show ((0 : Nat) : Int) = 0 from rfl] at this
  rw [this]; cases e; rfl
theorem eqExS_loop (k : Nat) (rec' : GEx → GEx → Option Bool) (l : List GEx) (hl : l.length < 4611686018427387904) (H : ∀ e ∈ l, rec' e e = some true) :
    ∀ (d n i : Nat), i + d = l.length → d < n → laws_eqExS.l0 k rec' l l n (i : Int) = some (.ok ()) := by
  intro d
  induction d with
  | zero =>
    intro n i hi hn
    obtain ⟨n, rfl⟩ : ∃ m, n = m + 1 := ⟨n - 1, by omega⟩
    rw [laws_eqExS.l0, if_neg (by omega)]
  | succ d ih =>
    intro n i hi hn
    obtain ⟨n, rfl⟩ : ∃ m, n = m + 1 := ⟨n - 1, by omega⟩
    have hlt : i < l.length := by omega
    rw [laws_eqExS.l0, if_pos (by omega), req_pos (by omega), Int.toNat_natCast, List.getElem?_eq_getElem hlt]
    simp only [Option.bind_some]
    rw [req_pos (by omega)]
    simp only [H l[i] (List.getElem_mem hlt), Option.bind_some, if_true]
    rw [wrS i (by omega)]
    exact ih n (i + 1) (by omega) (by omega)
theorem eqEx_k : ∀ e : GEx, exN e ≤ 1048577 → ∀ k : Nat, 3 * exN e ≤ k → laws_eqEx.f k e e = some true := by
  refine exInd fun e ih hs k hk => ?_
  rw [exN_eq] at hk hs
  have hq := exNs_len e.Kids
  obtain ⟨k, rfl⟩ : ∃ m, k = m + 2 := ⟨k - 2, by omega⟩
  rw [laws_eqEx.f, if_pos rfl, if_pos rfl, if_pos rfl, laws_eqExS.f, if_pos rfl]
  have := eqExS_loop k (laws_eqEx.f k) e.Kids (by omega) (fun x hx => ih x hx (by have := exNs_mem hx; omega) k (by have := exNs_mem hx; omega)) e.Kids.length k 0 (by omega) (by omega)
  rw [show ((0 : Nat) : Int) = 0 from rfl] at this
  rw [this]; rfl
/- marks -/
end Go.Proofs.YtdhlbpgjcfdofaaGreat
