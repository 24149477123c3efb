/- Points in time, in the reference's words. -/
import Derived.Test.YtdhlbpgjcfdofaaGreatN5
namespace Go.Proofs.YtdhlbpgjcfdofaaGreat
open Go Go.Vm
set_option linter.unusedVariables false
theorem loop_set {α : Type} (l : List α) (p : α → Bool) (L : Nat → List Bool → Int → Option (List Bool)) (hend : ∀ n s, L (n + 1) s (l.length : Int) = some s)
    (hstep : ∀ n s (i : Nat) (h : i < l.length), s.length = l.length → L (n + 1) s (i : Int) = L n (s.set i (p l[i])) ((i + 1 : Nat) : Int)) :
    ∀ (d i n : Nat) (s : List Bool), i + d = l.length → d < n → s.length = l.length → s.take i = (l.map p).take i → L n s (i : Int) = some (l.map p) := by
  intro d
  induction d with
  | zero =>
    intro i n s hi hn hs ht
    obtain ⟨n, rfl⟩ : ∃ m, n = m + 1 := ⟨n - 1, by omega⟩
    have e : i = l.length := by omega
    subst e
    rw [hend, Option.some.injEq]
    rwa [List.take_of_length_le (by omega), List.take_of_length_le (by simp)] at ht
  | succ d ih =>
    intro i n s hi hn hs ht
    obtain ⟨n, rfl⟩ : ∃ m, n = m + 1 := ⟨n - 1, by omega⟩
    have hlt : i < l.length := by omega
    rw [hstep n s i hlt hs]
    refine ih (i + 1) n _ (by omega) (by omega) (by simpa using hs) ?_
    rw [List.take_add_one, List.take_set_of_le (Nat.le_refl _), ht, List.take_add_one]
    simp [hlt, hs]
theorem before_eq (k : Nat) (hk : 1000000000000 ≤ k) (l : List GOcc) (o : GOcc) (hl : l.length ≤ 1000000) : spec_l4Before.f k l o = some (l.map (before o)) := by
  unfold spec_l4Before.f
  rw [req_pos (by omega), req_pos (by omega), req_pos (by omega)]
  have := loop_set l (before o) (spec_l4Before.l0 k l o) (fun n s => by rw [spec_l4Before.l0, if_neg (by omega)])
    (fun n s i h hs => by
      rw [spec_l4Before.l0, if_pos (by omega), req_pos (by omega), Int.toNat_natCast, List.getElem?_eq_getElem h]
      simp only [Option.bind_some]
      rw [req_pos (by omega), req_pos (by omega), List.getElem?_eq_getElem (show i < s.length by omega)]
      simp only [Option.bind_some]
      rw [wrS i (by omega)]
      rfl)
    l.length 0 k (List.replicate l.length false) (by omega) (by omega) (by simp) (by simp)
  rw [show ((0 : Nat) : Int) = 0 from rfl] at this
  rw [this]; rfl
theorem whole_eq (k : Nat) (hk : 1000000000000 ≤ k) (l : List GOcc) (hl : l.length ≤ 1000000) : spec_l4Whole.f k l = some (l.map fun _ => true) := by
  unfold spec_l4Whole.f
  rw [req_pos (by omega), req_pos (by omega), req_pos (by omega)]
  have := loop_set l (fun _ => true) (spec_l4Whole.l0 k l) (fun n s => by rw [spec_l4Whole.l0, if_neg (by omega)])
    (fun n s i h hs => by
      rw [spec_l4Whole.l0, if_pos (by omega), req_pos (by omega), req_pos (by omega), Int.toNat_natCast, List.getElem?_eq_getElem (show i < s.length by omega)]
      simp only [Option.bind_some]
      rw [wrS i (by omega)])
    l.length 0 k (List.replicate l.length false) (by omega) (by omega) (by simp) (by simp)
  rw [show ((0 : Nat) : Int) = 0 from rfl] at this
  rw [this]; rfl
theorem spec_seq_loop (k : Nat) (hk : 1000000000000 ≤ k) (mode : Int) (hmo : 0 ≤ mode ∧ mode ≤ 4) (right : List GOcc) (left : List GOcc) (m c : Nat) (hm : m ≤ 20000) (hc : right.length ≤ c) (hc2 : c ≤ 100) (hl : Ok m left) (hr : Ids right) :
    spec_l4Seq.l0 k mode right k left [] 0 = some (right.foldl (oneM mode before) (left, [])) := by
  have := loop_ret0 (fun s : List GOcc × List GOcc => s) right (fun s e => (spec_l4Before.f k s.1 e).bind fun x52 => ((spec_l4Pick.f k mode s.1 x52).bind fun x55 => ((spec_l4Make.f k mode x55.1 e).bind fun x61 => ((spec_l4Merge.f k s.2 x61).bind fun x64 => some (x55.2, x64))))) (fun n s i => spec_l4Seq.l0 k mode right n s.1 s.2 i) (oneM mode before) (fun i s => Ok m s.1 ∧ Ok (i * m) s.2)
    (fun n s => by rw [spec_l4Seq.l0, if_neg (by omega)])
    (fun n s i h => by
      rw [spec_l4Seq.l0, if_pos (by omega), req_pos (by omega), Int.toNat_natCast, List.getElem?_eq_getElem h]
      simp only [Option.bind_some, Option.bind_assoc]
      simp only [req_pos (show (0 : Int) ≤ (i : Int) by omega), wrS i (show i < 4611686018427387904 by omega)])
    (fun i s h hI => by
      obtain ⟨h1, h2⟩ := hI
      have ho := hr _ (List.getElem_mem h)
      have hb : i * m ≤ 100 * 20000 := Nat.mul_le_mul (by omega) hm
      have hf := h1.filter (before right[i])
      have hfo := hf.found (mode := mode) ho
      have := h1.2.2; have := h2.2.2; have := hf.2.2; have := hfo.2.2
      refine ⟨?_, ?_⟩
      · rw [before_eq k hk _ _ (by omega)]
        simp only [Option.bind_some]
        rw [pick_eq k hk mode hmo _ _ (by omega) h1.2.1.few]
        simp only [Option.bind_some]
        rw [make_eq k hk mode _ _ _ (by omega) h1.2.1 ho]
        simp only [Option.bind_some]
        rw [spec_merge_eq k hk _ _ (by omega) h2.2.1.few hfo.2.1.few]
        rfl
      · have := oneM_ok (mode := mode) (p := before) h1 h2 ho
        refine ⟨this.1, ?_⟩
        rw [Nat.succ_mul]
        exact this.2)
    k (left, []) (by omega) ⟨hl, by simpa using Ok.nil 0⟩
  exact this.1
end Go.Proofs.YtdhlbpgjcfdofaaGreat
