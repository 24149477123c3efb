/- An absence at a point in time: both programs. -/
import Derived.Test.YtdhlbpgjcfdofaaGreatN11
namespace Go.Proofs.YtdhlbpgjcfdofaaGreat
open Go Go.Vm
set_option linter.unusedVariables false
theorem not_loop (k : Nat) (hk : 1000000000000 ≤ k) (mode : Int) (sp : GSpan) (right : List GOcc) (m : Nat) (hm : m ≤ 20000) (hc : right.length ≤ 100) (hl : Ok m sp.Left) (hmid : sp.Mid.length ≤ 1000000) (hr : Ids right) :
    impl_Span_not.l0 k sp mode right k sp.Left [] 0 = some (right.foldl (oneM mode (openM sp.Mid)) (sp.Left, [])) ∧ Ok m (right.foldl (oneM mode (openM sp.Mid)) (sp.Left, [])).1 ∧ Ok (100 * m) (right.foldl (oneM mode (openM sp.Mid)) (sp.Left, [])).2 := by
  have := loop_ret0 (fun s : List GOcc × List GOcc => s) right (fun s e => (impl_Span_open.f k ⟨s.1, sp.Mid⟩ e).bind fun x46 => ((impl_combine.f k mode e x46).bind fun x49 => ((impl_putAll.f k s.2 x49.1).bind fun x52 => ((impl_without.f k s.1 x49.2).bind fun x55 => some (x55, x52))))) (fun n s i => impl_Span_not.l0 k sp mode right n s.1 s.2 i) (oneM mode (openM sp.Mid)) (fun i s => Ok m s.1 ∧ Ok (i * m) s.2)
    (fun n s => by rw [impl_Span_not.l0, if_neg (by omega)])
    (fun n s i h => by
      rw [impl_Span_not.l0, if_pos (by omega), req_pos (by omega), Int.toNat_natCast, List.getElem?_eq_getElem h]
      simp only [Option.bind_some, Option.bind_assoc]
      rw [wrS i (by omega)])
    (fun i s h hI => by
      obtain ⟨h1, h2⟩ := hI
      have ho := hr _ (List.getElem_mem h)
      have hb : i * m ≤ 100 * 20000 := Nat.mul_le_mul (by omega) hm
      have hf := h1.filter (openM sp.Mid right[i])
      have hfo := hf.found (mode := mode) ho
      have hg := hf.gone (mode := mode)
      have := h1.2.2; have := h2.2.2; have := hf.2.2; have := hfo.2.2; have := hg.2.2
      refine ⟨?_, ?_⟩
      · rw [open_eq k hk ⟨s.1, sp.Mid⟩ _ (show s.1.length ≤ 1000000 by omega) hmid]
        simp only [Option.bind_some]
        rw [combine_eq k hk mode _ _ (by omega) hf.2.1 ho]
        simp only [Option.bind_some]
        rw [impl_putAll_eq k hk _ _ (by omega) h2.2.1.few hfo.2.1.few h2.1]
        simp only [Option.bind_some]
        rw [without_eq k hk _ _ (by omega) (by omega) hg.2.1.few hg.1]
        rfl
      · have := oneM_ok (mode := mode) (p := openM sp.Mid) h1 h2 ho
        refine ⟨this.1, ?_⟩
        rw [Nat.succ_mul]
        exact this.2)
    k (sp.Left, []) (by omega) ⟨hl, by simpa using Ok.nil 0⟩
  exact ⟨this.1, this.2.1, this.2.2.mono (Nat.mul_le_mul_right _ hc)⟩
theorem spec_not_loop (k : Nat) (hk : 1000000000000 ≤ k) (mode : Int) (hmo : 0 ≤ mode ∧ mode ≤ 4) (sp : GSpan) (right : List GOcc) (m : Nat) (hm : m ≤ 20000) (hc : right.length ≤ 100) (hl : Ok m sp.Left) (hmid : sp.Mid.length ≤ 1000000) (hr : Ids right) :
    spec_l5Not.l0 k mode sp right k sp.Left [] 0 = some (right.foldl (oneM mode (openM sp.Mid)) (sp.Left, [])) := by
  have := loop_ret0 (fun s : List GOcc × List GOcc => s) right (fun s e => (spec_l5Open.f k ⟨s.1, sp.Mid⟩ e).bind fun x52 => ((spec_l4Pick.f k mode s.1 x52).bind fun x55 => ((spec_l4Make.f k mode x55.1 e).bind fun x61 => ((spec_l4Merge.f k s.2 x61).bind fun x64 => some (x55.2, x64))))) (fun n s i => spec_l5Not.l0 k mode sp right n s.1 s.2 i) (oneM mode (openM sp.Mid)) (fun i s => Ok m s.1 ∧ Ok (i * m) s.2)
    (fun n s => by rw [spec_l5Not.l0, if_neg (by omega)])
    (fun n s i h => by
      rw [spec_l5Not.l0, if_pos (by omega), req_pos (by omega), Int.toNat_natCast, List.getElem?_eq_getElem h]
      simp only [Option.bind_some, Option.bind_assoc]
      simp only [req_pos (show (0 : Int) ≤ (i : Int) by omega), wrS i (show i < 4611686018427387904 by omega)])
    (fun i s h hI => by
      obtain ⟨h1, h2⟩ := hI
      have ho := hr _ (List.getElem_mem h)
      have hb : i * m ≤ 100 * 20000 := Nat.mul_le_mul (by omega) hm
      have hf := h1.filter (openM sp.Mid right[i])
      have hfo := hf.found (mode := mode) ho
      have := h1.2.2; have := h2.2.2; have := hf.2.2; have := hfo.2.2
      refine ⟨?_, ?_⟩
      · rw [l5Open_eq k hk ⟨s.1, sp.Mid⟩ _ (show s.1.length ≤ 1000000 by omega) hmid]
        simp only [Option.bind_some]
        rw [pick_eq k hk mode hmo _ _ (by omega) h1.2.1.few]
        simp only [Option.bind_some]
        rw [make_eq k hk mode _ _ _ (by omega) h1.2.1 ho]
        simp only [Option.bind_some]
        rw [spec_merge_eq k hk _ _ (by omega) h2.2.1.few hfo.2.1.few]
        rfl
      · have := oneM_ok (mode := mode) (p := openM sp.Mid) h1 h2 ho
        refine ⟨this.1, ?_⟩
        rw [Nat.succ_mul]
        exact this.2)
    k (sp.Left, []) (by omega) ⟨hl, by simpa using Ok.nil 0⟩
  exact this.1
end Go.Proofs.YtdhlbpgjcfdofaaGreat
