/- An absence whole; a repetition in the program. -/
import Derived.Test.YtdhlbpgjcfdofaaGreatN12
namespace Go.Proofs.YtdhlbpgjcfdofaaGreat
open Go Go.Vm
set_option linter.unusedVariables false
def notM (mode : Int) (l mid a b c : List GOcc) : List GOcc × List GOcc × List GOcc := (mergeM (c.foldl (oneM mode (openM mid)) (l, [])).1 a, mergeM mid b, (c.foldl (oneM mode (openM mid)) (l, [])).2)
theorem not_eq (k : Nat) (hk : 1000000000000 ≤ k) (mode : Int) (sp : GSpan) (a b c : List GOcc) (m : Nat) (hm : m ≤ 20000) (h1 : Ok m sp.Left) (h2 : Ok m sp.Mid) (ha : Ids a) (hb : Ids b) (hc : Ids c) (na : a.length ≤ 100) (nb : b.length ≤ 100) (nc : c.length ≤ 100) :
    impl_Span_not.f k sp mode a b c = some (⟨(notM mode sp.Left sp.Mid a b c).1, (notM mode sp.Left sp.Mid a b c).2.1⟩, (notM mode sp.Left sp.Mid a b c).2.2) ∧ Ok (m + a.length) (notM mode sp.Left sp.Mid a b c).1 ∧ Ok (m + b.length) (notM mode sp.Left sp.Mid a b c).2.1 ∧ Ok (100 * m) (notM mode sp.Left sp.Mid a b c).2.2 := by
  have q := h2.2.2
  obtain ⟨x, y, z⟩ := not_loop k hk mode sp c m hm nc h1 (by omega) hc
  have := y.2.2
  refine ⟨?_, ⟨asc_mergeM y.1, ids_merge y.2.1 ha, Nat.le_trans (length_mergeM _ _) (by omega)⟩, ⟨asc_mergeM h2.1, ids_merge h2.2.1 hb, Nat.le_trans (length_mergeM _ _) (by omega)⟩, z⟩
  unfold impl_Span_not.f
  rw [x]
  simp only [Option.bind_some]
  rw [impl_putAll_eq k hk _ _ (by omega) y.2.1.few ha.few y.1]
  simp only [Option.bind_some]
  rw [impl_putAll_eq k hk _ _ (by omega) h2.2.1.few hb.few h2.1]
  rfl
theorem spec_not_eq (k : Nat) (hk : 1000000000000 ≤ k) (mode : Int) (hmo : 0 ≤ mode ∧ mode ≤ 4) (sp : GSpan) (a b c : List GOcc) (m : Nat) (hm : m ≤ 20000) (h1 : Ok m sp.Left) (h2 : Ok m sp.Mid) (ha : Ids a) (hb : Ids b) (hc : Ids c) (na : a.length ≤ 100) (nb : b.length ≤ 100) (nc : c.length ≤ 100) :
    spec_l5Not.f k mode sp a b c = some (⟨(notM mode sp.Left sp.Mid a b c).1, (notM mode sp.Left sp.Mid a b c).2.1⟩, (notM mode sp.Left sp.Mid a b c).2.2) := by
  have q := h2.2.2
  obtain ⟨_, y, _⟩ := not_loop k hk mode sp c m hm nc h1 (by omega) hc
  have := y.2.2
  unfold spec_l5Not.f
  rw [spec_not_loop k hk mode hmo sp c m hm nc h1 (by omega) hc]
  simp only [Option.bind_some]
  rw [spec_merge_eq k hk _ _ (by omega) y.2.1.few ha.few]
  simp only [Option.bind_some]
  rw [spec_merge_eq k hk _ _ (by omega) h2.2.1.few hb.few]
  rfl
end Go.Proofs.YtdhlbpgjcfdofaaGreat
