/- A repetition at a point in time: both programs. -/
import Derived.Test.YtdhlbpgjcfdofaaGreatN14
namespace Go.Proofs.YtdhlbpgjcfdofaaGreat
open Go Go.Vm
set_option linter.unusedVariables false
def foundAll (mode : Int) (l mid b : List GOcc) : List GOcc := b.foldl (fun s o => mergeM s (foundM mode o (l.filter (openM mid o)))) []
def eachStep (mode : Int) (l mid a b c : List GOcc) : List GOcc × List GOcc × List GOcc := (mergeM l a, mergeM mid c, foundAll mode l mid b)
theorem each_eq (k : Nat) (hk : 1000000000000 ≤ k) (mode : Int) (sp : GSpan) (a b c : List GOcc) (m : Nat) (hm : m ≤ 20000) (h1 : Ok m sp.Left) (h2 : Ok m sp.Mid) (ha : Ids a) (hb : Ids b) (hc : Ids c) (na : a.length ≤ 100) (nb : b.length ≤ 100) (nc : c.length ≤ 100) :
    impl_Span_each.f k sp mode a b c = some (⟨(eachStep mode sp.Left sp.Mid a b c).1, (eachStep mode sp.Left sp.Mid a b c).2.1⟩, (eachStep mode sp.Left sp.Mid a b c).2.2) ∧ Ok (m + a.length) (eachStep mode sp.Left sp.Mid a b c).1 ∧ Ok (m + c.length) (eachStep mode sp.Left sp.Mid a b c).2.1 ∧ Ok (100 * m) (eachStep mode sp.Left sp.Mid a b c).2.2 := by
  have q1 := h1.2.2
  have q2 := h2.2.2
  have := loop_fold0 b (fun s e => (impl_Span_open.f k sp e).bind fun x38 => ((impl_combine.f k mode e x38).bind fun x41 => impl_putAll.f k s x41.1)) (impl_Span_each.l0 k sp mode b) (fun s o => mergeM s (foundM mode o (sp.Left.filter (openM sp.Mid o)))) (fun i s => Ok (i * m) s)
    (fun n s => by rw [impl_Span_each.l0, if_neg (by omega)])
    (fun n s i h => by
      rw [impl_Span_each.l0, if_pos (by omega), req_pos (by omega), Int.toNat_natCast, List.getElem?_eq_getElem h]
      simp only [Option.bind_some, Option.bind_assoc]
      rw [wrS i (by omega)])
    (fun i s h hI => by
      have ho := hb _ (List.getElem_mem h)
      have hbm : i * m ≤ 100 * 20000 := Nat.mul_le_mul (by omega) hm
      have hf := h1.filter (openM sp.Mid b[i])
      have hfo := hf.found (mode := mode) ho
      have := hI.2.2; have := hf.2.2; have := hfo.2.2
      refine ⟨?_, ?_⟩
      · rw [open_eq k hk sp _ (by omega) (by omega)]
        simp only [Option.bind_some]
        rw [combine_eq k hk mode _ _ (by omega) hf.2.1 ho]
        simp only [Option.bind_some]
        rw [impl_putAll_eq k hk _ _ (by omega) hI.2.1.few hfo.2.1.few hI.1]
      · rw [Nat.succ_mul]
        exact hI.merge hfo)
    k [] (by omega) (by simpa using Ok.nil 0)
  refine ⟨?_, ⟨asc_mergeM h1.1, ids_merge h1.2.1 ha, Nat.le_trans (length_mergeM _ _) (by omega)⟩, ⟨asc_mergeM h2.1, ids_merge h2.2.1 hc, Nat.le_trans (length_mergeM _ _) (by omega)⟩, this.2.mono (Nat.mul_le_mul_right _ nb)⟩
  unfold impl_Span_each.f
  rw [this.1]
  simp only [Option.bind_some]
  rw [impl_putAll_eq k hk _ _ (by omega) h1.2.1.few ha.few h1.1]
  simp only [Option.bind_some]
  rw [impl_putAll_eq k hk _ _ (by omega) h2.2.1.few hc.few h2.1]
  rfl
end Go.Proofs.YtdhlbpgjcfdofaaGreat
