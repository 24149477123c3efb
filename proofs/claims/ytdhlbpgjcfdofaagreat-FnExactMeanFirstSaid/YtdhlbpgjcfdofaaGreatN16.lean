/- A repetition at a point in time, in the reference's words. -/
import Derived.Test.YtdhlbpgjcfdofaaGreatN15
namespace Go.Proofs.YtdhlbpgjcfdofaaGreat
open Go Go.Vm
set_option linter.unusedVariables false
theorem spec_each_eq (k : Nat) (hk : 1000000000000 ≤ k) (mode : Int) (sp : GSpan) (a b c : List GOcc) (m : Nat) (hm : m ≤ 20000) (h1 : Ok m sp.Left) (h2 : Ok m sp.Mid) (ha : Ids a) (hb : Ids b) (hc : Ids c) (na : a.length ≤ 100) (nb : b.length ≤ 100) (nc : c.length ≤ 100) :
    spec_l5Each.f k mode sp a b c = some (⟨(eachStep mode sp.Left sp.Mid a b c).1, (eachStep mode sp.Left sp.Mid a b c).2.1⟩, (eachStep mode sp.Left sp.Mid a b c).2.2) := by
  have q1 := h1.2.2
  have q2 := h2.2.2
  have := loop_ret0 (fun s : List GOcc => (sp.Left, s)) b (fun s e => (spec_l4Make.f k mode (pickM mode sp.Left (openM sp.Mid e)) e).bind fun x63 => spec_l4Merge.f k s x63) (fun n s i => spec_l5Each.l0 k mode sp b n sp.Left s i) (fun s o => mergeM s (foundM mode o (sp.Left.filter (openM sp.Mid o)))) (fun i s => Ok (i * m) s)
    (fun n s => by rw [spec_l5Each.l0, if_neg (by omega)])
    (fun n s i h => by
      rw [spec_l5Each.l0, if_pos (by omega), req_pos (by omega), Int.toNat_natCast, List.getElem?_eq_getElem h]
      simp only [Option.bind_some, Option.bind_assoc]
      rw [l5Open_eq k hk ⟨sp.Left, sp.Mid⟩ _ (show sp.Left.length ≤ 1000000 by omega) (show sp.Mid.length ≤ 1000000 by omega)]
      simp only [Option.bind_some]
      rw [pickd_eq k hk mode _ _ (by omega) h1.2.1.few]
      simp only [Option.bind_some]
      rw [req_pos trivial, req_pos (by omega), wrS i (by omega)])
    (fun i s h hI => by
      have ho := hb _ (List.getElem_mem h)
      have hbm : i * m ≤ 100 * 20000 := Nat.mul_le_mul (by omega) hm
      have hf := h1.filter (openM sp.Mid b[i])
      have hfo := hf.found (mode := mode) ho
      have := hI.2.2; have := hf.2.2; have := hfo.2.2
      refine ⟨?_, ?_⟩
      · rw [make_eq k hk mode _ _ _ (by omega) h1.2.1 ho]
        simp only [Option.bind_some]
        rw [spec_merge_eq k hk _ _ (by omega) hI.2.1.few hfo.2.1.few]
      · rw [Nat.succ_mul]
        exact hI.merge hfo)
    k [] (by omega) (by simpa using Ok.nil 0)
  unfold spec_l5Each.f
  rw [this.1]
  simp only [Option.bind_some]
  rw [spec_merge_eq k hk _ _ (by omega) h1.2.1.few ha.few]
  simp only [Option.bind_some]
  rw [spec_merge_eq k hk _ _ (by omega) h2.2.1.few hc.few]
  rfl
end Go.Proofs.YtdhlbpgjcfdofaaGreat
