/- A conjunction at a point in time: both programs. -/
import Derived.Test.YtdhlbpgjcfdofaaGreatN6
namespace Go.Proofs.YtdhlbpgjcfdofaaGreat
open Go Go.Vm
set_option linter.unusedVariables false
theorem fold_put_mem {f : GOcc → GOcc} {z : GOcc} : ∀ {l acc : List GOcc}, z ∈ acc → z ∈ l.foldl (fun s e => putM s (f e)) acc
  | [], _, h => h
  | x :: l, acc, h => fold_put_mem (l := l) (mem_putM.2 (.inl h))
theorem found_len (mode : Int) (o : GOcc) (l : List GOcc) : (foundM mode o l).length = 0 ↔ l.length = 0 := by
  unfold foundM
  by_cases h0 : l.length = 0
  · simp [h0]
  · rw [if_neg h0]
    split
    · simp [h0]
    split
    · simp [h0]
    split
    · simp [h0]
    · cases l with
      | nil => simp at h0
      | cons x l =>
        have : joinM o x ∈ eachM o (x :: l) := by
          unfold eachM
          rw [List.foldl_cons]
          exact fold_put_mem (mem_putM.2 (.inr rfl))
        have := List.length_pos_of_mem this
        simp at h0 ⊢
        intro e
        rw [e] at this
        simp at this
theorem filter_all (l : List GOcc) : l.filter (fun _ => true) = l := List.filter_eq_self.2 fun _ _ => rfl
def storeM (mode : Int) (own : List GOcc) (o : GOcc) (alone : Bool) : List GOcc := if mode = 1 then [o] else if mode = 0 then putM own o else if alone = true then putM own o else own
theorem store_eq (k : Nat) (hk : 1000000000000 ≤ k) (mode : Int) (own : List GOcc) (o : GOcc) (alone : Bool) (m : Nat) (hm : m ≤ 1000000) (h : Ok m own) : impl_store.f k mode own o alone = some (storeM mode own o alone) := by
  unfold impl_store.f storeM
  have := h.2.2
  rw [impl_put_eq k hk own o (by omega) h.2.1.few h.1]
  simp only [Option.bind_some]
  split
  · rfl
  split
  · rfl
  split <;> rfl
theorem Ok.store {m : Nat} {mode : Int} {own : List GOcc} {o : GOcc} {alone : Bool} (h : Ok m own) (ho : IdsOk o.Ids) : Ok (m + 1) (storeM mode own o alone) := by
  unfold storeM
  split
  · exact ⟨by simp [Asc], fun y hy => by rw [List.mem_singleton.1 hy]; exact ho, by simp⟩
  split
  · exact h.put ho
  split
  · exact h.put ho
  · exact h.mono (by omega)
/-- one met with those of the other side: its own side, the other side, what was found -/
def halfM (mode : Int) (s : List GOcc × List GOcc × List GOcc) (o : GOcc) : List GOcc × List GOcc × List GOcc :=
  (storeM mode s.1 o (decide (s.2.1.length = 0)), remM s.2.1 (if s.2.1.length = 0 then [] else goneM mode s.2.1), mergeM s.2.2 (foundM mode o s.2.1))
theorem halfM_ok {mode : Int} {s : List GOcc × List GOcc × List GOcc} {o : GOcc} {a b c : Nat} (h1 : Ok a s.1) (h2 : Ok b s.2.1) (h3 : Ok c s.2.2) (ho : IdsOk o.Ids) : Ok (a + 1) (halfM mode s o).1 ∧ Ok b (halfM mode s o).2.1 ∧ Ok (c + b) (halfM mode s o).2.2 :=
  ⟨h1.store ho, h2.rem, h3.merge (h2.found ho)⟩
/-- the program's half -/
theorem impl_half (k : Nat) (hk : 1000000000000 ≤ k) (mode : Int) (own other out : List GOcc) (o : GOcc) (a b c : Nat) (ha : a ≤ 100000) (hb : b ≤ 100000) (hc : c ≤ 5000000) (h1 : Ok a own) (h2 : Ok b other) (h3 : Ok c out) (ho : IdsOk o.Ids) :
    ((impl_combine.f k mode o other).bind fun x48 => ((impl_putAll.f k out x48.1).bind fun x51 => ((impl_without.f k other x48.2).bind fun x54 => ((impl_store.f k mode own o ((x48.1.length : Int) == 0)).bind fun x57 => some (x57, x54, x51))))) = some (halfM mode (own, other, out) o) := by
  have hfo := h2.found (mode := mode) ho
  have hg := h2.gone (mode := mode)
  have := h1.2.2; have := h2.2.2; have := h3.2.2; have := hfo.2.2; have := hg.2.2
  rw [combine_eq k hk mode o other (by omega) h2.2.1 ho]
  simp only [Option.bind_some]
  rw [impl_putAll_eq k hk _ _ (by omega) h3.2.1.few hfo.2.1.few h3.1]
  simp only [Option.bind_some]
  rw [without_eq k hk _ _ (by omega) (by omega) hg.2.1.few hg.1]
  simp only [Option.bind_some]
  have e : (((foundM mode o other).length : Int) == 0) = decide (other.length = 0) := by
    rw [Bool.eq_iff_iff]
    simp only [beq_iff_eq, decide_eq_true_eq]
    rw [← found_len mode o other]
    omega
  rw [e, store_eq k hk mode own o _ a (by omega) h1]
  rfl
/-- the reference's half -/
theorem spec_half (k : Nat) (hk : 1000000000000 ≤ k) (mode : Int) (hmo : 0 ≤ mode ∧ mode ≤ 4) (own other out : List GOcc) (o : GOcc) (a b c : Nat) (ha : a ≤ 100000) (hb : b ≤ 100000) (hc : c ≤ 5000000) (h1 : Ok a own) (h2 : Ok b other) (h3 : Ok c out) (ho : IdsOk o.Ids) :
    ((spec_l4One.f k mode other own o).bind fun x36 => ((spec_l4Merge.f k out x36.2.2).bind fun x39 => some (x36.2.1, x36.1, x39))) = some (halfM mode (own, other, out) o) := by
  have hfo := h2.found (mode := mode) ho
  have := h1.2.2; have := h2.2.2; have := h3.2.2; have := hfo.2.2
  have hfew : Few o := by have := idsOk_len ho; omega
  unfold spec_l4One.f
  rw [whole_eq k hk other (by omega)]
  simp only [Option.bind_some]
  rw [pick_eq k hk mode hmo other _ (by omega) h2.2.1.few]
  simp only [Option.bind_some]
  rw [make_eq k hk mode o other _ (by omega) h2.2.1 ho, spec_put_eq k hk own o (by omega) h1.2.1.few hfew]
  simp only [Option.bind_some, filter_all]
  have mg := spec_merge_eq k hk out (foundM mode o other) (by omega) h3.2.1.few hfo.2.1.few
  unfold halfM storeM
  by_cases m0 : mode = 0
  · rw [if_pos m0]
    simp only [Option.bind_some, mg]
    rw [if_neg (show ¬ mode = 1 by omega), if_pos m0]
  rw [if_neg m0]
  by_cases m1 : mode = 1
  · rw [if_pos m1]
    simp only [Option.bind_some, mg]
    rw [if_pos m1]
  rw [if_neg m1]
  have e : ((pickM mode other fun _ => true).length : Int) = 0 ↔ other.length = 0 := by
    unfold pickM
    rw [filter_all, if_neg m1]
    split
    · rw [List.length_take]; omega
    · omega
  by_cases h0 : other.length = 0
  · rw [if_pos (e.2 h0)]
    simp only [Option.bind_some, mg]
    rw [if_neg m1, if_neg m0, if_pos (show decide (other.length = 0) = true by simpa using h0)]
  · rw [if_neg (fun x => h0 (e.1 x))]
    simp only [Option.bind_some, mg]
    rw [if_neg m1, if_neg m0, if_neg (show ¬ decide (other.length = 0) = true by simpa using h0)]
end Go.Proofs.YtdhlbpgjcfdofaaGreat
