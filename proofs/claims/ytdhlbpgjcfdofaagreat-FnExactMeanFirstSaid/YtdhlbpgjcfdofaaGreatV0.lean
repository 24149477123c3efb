/- Events: copies, and both alike. -/
import Derived.Test.YtdhlbpgjcfdofaaGreatM0a
namespace Go.Proofs.YtdhlbpgjcfdofaaGreat
open Go Go.Vm
set_option linter.unusedVariables false
/- copies, comparisons, marks -/
theorem toEvS_loop (k : Nat) (l : List GEv) (hl : l.length < 4611686018427387904) : ∀ (d n i : Nat) (acc : List GEv), i + d = l.length → d < n → acc.length = l.length → acc.take i = l.take i →
    laws_toEvS.l0 k l n acc (i : Int) = some l := by
  intro d
  induction d with
  | zero =>
    intro n i acc hi hn ha ht
    obtain ⟨n, rfl⟩ : ∃ m, n = m + 1 := ⟨n - 1, by omega⟩
    rw [laws_toEvS.l0, if_neg (by omega)]
    rw [show i = l.length by omega, List.take_length, ← ha, List.take_length] at ht
    rw [ht]
  | succ d ih =>
    intro n i acc hi hn ha ht
    obtain ⟨n, rfl⟩ : ∃ m, n = m + 1 := ⟨n - 1, by omega⟩
    have hlt : i < l.length := by omega
    rw [laws_toEvS.l0, if_pos (by omega), req_pos (by omega), Int.toNat_natCast, List.getElem?_eq_getElem hlt]
    simp only [Option.bind_some, laws_toEv.f]
    rw [req_pos (by omega), req_pos (by omega), List.getElem?_eq_getElem (show i < acc.length by omega)]
    simp only [Option.bind_some]
    rw [wrS i (by omega)]
    refine ih n (i + 1) _ (by omega) (by omega) (by simpa using ha) ?_
    rw [List.take_add_one, List.take_set_of_le (Nat.le_refl _), ht, List.take_add_one]
    simp [hlt, ha]
theorem toEvS_eq (l : List GEv) (hl : l.length * 24 ≤ reachBytes) : Evn (fun k => laws_toEvS.f k l) l := by
  refine ⟨l.length + 1, fun k hk => ?_⟩
  dsimp only
  unfold laws_toEvS.f
  have hb := reach_le hl
  rw [req_pos (by omega), req_pos (by omega), req_pos (by omega)]
  have := toEvS_loop k l (reach_lt hl (by omega)) l.length k 0 (List.replicate l.length ⟨0, 0, 0⟩) (by omega) (by omega) (by simp) (by simp)
  rw [show ((0 : Nat) : Int) = 0 from rfl] at this
  rw [this]; rfl
theorem eqEv_refl (e : GEv) : laws_eqEv.f e e = some true := by unfold laws_eqEv.f; simp
theorem eqEvS_loop (k : Nat) (l : List GEv) (hl : l.length < 4611686018427387904) : ∀ (d n i : Nat), i + d = l.length → d < n → laws_eqEvS.l0 k l l n (i : Int) = some (.ok ()) := by
  intro d
  induction d with
  | zero =>
    intro n i hi hn
    obtain ⟨n, rfl⟩ : ∃ m, n = m + 1 := ⟨n - 1, by omega⟩
    rw [laws_eqEvS.l0, if_neg (by omega)]
  | succ d ih =>
    intro n i hi hn
    obtain ⟨n, rfl⟩ : ∃ m, n = m + 1 := ⟨n - 1, by omega⟩
    have hlt : i < l.length := by omega
    rw [laws_eqEvS.l0, if_pos (by omega), req_pos (by omega), Int.toNat_natCast, List.getElem?_eq_getElem hlt]
    simp only [Option.bind_some]
    rw [req_pos (by omega)]
    simp only [eqEv_refl, Option.bind_some, if_true]
    rw [wrS i (by omega)]
    exact ih n (i + 1) (by omega) (by omega)
theorem eqEvS_refl (l : List GEv) (hl : l.length < 4611686018427387904) : Evn (fun k => laws_eqEvS.f k l l) true := by
  refine ⟨l.length + 1, fun k hk => ?_⟩
  dsimp only
  unfold laws_eqEvS.f
  have := eqEvS_loop k l hl l.length k 0 (by omega) (by omega)
  rw [show ((0 : Nat) : Int) = 0 from rfl] at this
  rw [if_pos rfl, this]; rfl
end Go.Proofs.YtdhlbpgjcfdofaaGreat
