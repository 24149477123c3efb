/- Absences and repetitions of all that was found: both programs. -/
import Derived.Test.YtdhlbpgjcfdofaaGreatN20
namespace Go.Proofs.YtdhlbpgjcfdofaaGreat
open Go Go.Vm
set_option linter.unusedVariables false
def Does3 (k : Nat) (mode : Int) (f : Two → List GOcc → List GOcc → List GOcc → Two × List GOcc) (g : GSpan → Int → List GOcc → List GOcc → List GOcc → Option (GSpan × List GOcc)) : Prop :=
  ∀ (m : Nat) (p : Two) (a b c : List GOcc), m ≤ 19000 → Ok m p.1 → Ok m p.2 → Ids a → Ids b → Ids c → a.length ≤ 40 → b.length ≤ 40 → c.length ≤ 40 → g ⟨p.1, p.2⟩ mode a b c = some (⟨(f p a b c).1.1, (f p a b c).1.2⟩, (f p a b c).2)
theorem spanOf_eq (k : Nat) (hk : 1000000000000 ≤ k) (mode : Int) (hmo : 0 ≤ mode ∧ mode ≤ 4) {f : Two → List GOcc → List GOcc → List GOcc → Two × List GOcc} (hf : Step3Ok f) {g : GSpan → Int → List GOcc → List GOcc → List GOcc → Option (GSpan × List GOcc)} (hg : Does3 k mode f g)
    (a b c : List GOcc) (sa : Small a) (sb : Small b) (sc : Small c) : impl_spanOf.f g k mode a b c = some (spanOfM f a b c) := by
  unfold impl_spanOf.f spanOfM
  rw [(spanFits_eq k hk mode hmo a b c sa sb sc).1]
  simp only [Option.bind_some]
  by_cases h : occsOk a = true ∧ occsOk b = true ∧ occsOk c = true
  · obtain ⟨ha, hb, hc⟩ := h
    have hl := times_len3 ha hb hc
    have := occsOk_len ha; have := occsOk_len hb; have := occsOk_len hc
    rw [if_pos (by simp [ha, hb, hc]), if_pos ⟨ha, hb, hc⟩, (times_three k hk ha hb hc).1]
    simp only [Option.bind_some]
    have q := loop_inv0 (fun s : Two × List GOcc => s.2) (timesM [a, b, c]) (fun n s i => impl_spanOf.l0 k g mode a b c (timesM [a, b, c]) n s.1.1 s.1.2 s.2 i) (runM fun p t => f p (atM a t) (atM b t) (atM c t)) RunInv
      (fun n s => by rw [impl_spanOf.l0, if_neg (by omega)])
      (fun n s i h hI => by
        obtain ⟨q1, q2⟩ := hI.span hf ha hb hc (t := (timesM [a, b, c])[i]) (by omega)
        refine ⟨?_, q1⟩
        have := atM_len a (timesM [a, b, c])[i]; have := atM_len b (timesM [a, b, c])[i]; have := atM_len c (timesM [a, b, c])[i]
        have := hI.2.2.2.2; have := q2.2.2
        rw [impl_spanOf.l0, if_pos (by omega), req_pos (by omega), Int.toNat_natCast, List.getElem?_eq_getElem h]
        simp only [Option.bind_some]
        rw [impl_at_eq k hk a _ (by omega)]
        simp only [Option.bind_some]
        rw [impl_at_eq k hk b _ (by omega)]
        simp only [Option.bind_some]
        rw [impl_at_eq k hk c _ (by omega)]
        simp only [Option.bind_some]
        rw [hg (100 * i) s.1 _ _ _ (by omega) hI.1 hI.2.1 (atM_ids (ids_of_ok ha) _) (atM_ids (ids_of_ok hb) _) (atM_ids (ids_of_ok hc) _) (by omega) (by omega) (by omega)]
        simp only [Option.bind_some]
        rw [impl_putAll_eq k hk _ _ (by omega) hI.2.2.2.1.few q2.2.1.few hI.2.2.1, wrS i (by omega)]
        rfl) k (([], []), []) (by omega) RunInv.start
    have o := span_ok hf ha hb hc
    have := o.2.2
    have q' : impl_spanOf.l0 k g mode a b c (timesM [a, b, c]) k [] [] [] 0 = some (spanM f a b c) := q.1
    rw [q']
    simp only [Option.bind_some]
    rw [few_k k hk _ (by omega) o.2.1.few]
    rfl
  · rw [if_neg (by simpa using h), if_neg h]
theorem spec_span_loop (k : Nat) (hk : 1000000000000 ≤ k) (mode : Int) (hmo : 0 ≤ mode ∧ mode ≤ 4) {a b c : List GOcc} (ha : occsOk a = true) (hb : occsOk b = true) (hc : occsOk c = true) :
    spec_l5All.l0 k mode a b c (timesM [a, b, c]) k true [] [] [] 0 = some (spanM (notF mode) a b c) ∧ spec_l5All.l0 k mode a b c (timesM [a, b, c]) k false [] [] [] 0 = some (spanM (eachF mode) a b c) := by
  have hl := times_len3 ha hb hc
  have := occsOk_len ha; have := occsOk_len hb; have := occsOk_len hc
  refine ⟨?_, ?_⟩
  · exact (loop_inv0 (fun s : Two × List GOcc => s.2) (timesM [a, b, c]) (fun n s i => spec_l5All.l0 k mode a b c (timesM [a, b, c]) n true s.1.1 s.1.2 s.2 i) (runM fun p t => notF mode p (atM a t) (atM b t) (atM c t)) RunInv
      (fun n s => by rw [spec_l5All.l0, if_neg (by omega)])
      (fun n s i h hI => by
        obtain ⟨q1, q2⟩ := hI.span (notF_ok mode) ha hb hc (t := (timesM [a, b, c])[i]) (by omega)
        refine ⟨?_, q1⟩
        have := atM_len a (timesM [a, b, c])[i]; have := atM_len b (timesM [a, b, c])[i]; have := atM_len c (timesM [a, b, c])[i]
        have := hI.2.2.2.2; have := q2.2.2
        rw [spec_l5All.l0, if_pos (by omega), req_pos (by omega), req_pos (by omega), Int.toNat_natCast, List.getElem?_eq_getElem h]
        simp only [Option.bind_some]
        rw [if_pos trivial, spec_at_eq k hk a _ (by omega)]
        simp only [Option.bind_some]
        rw [spec_at_eq k hk b _ (by omega)]
        simp only [Option.bind_some]
        rw [spec_at_eq k hk c _ (by omega)]
        simp only [Option.bind_some]
        rw [spec_not_eq k hk mode hmo ⟨s.1.1, s.1.2⟩ _ _ _ (100 * i) (by omega) hI.1 hI.2.1 (atM_ids (ids_of_ok ha) _) (atM_ids (ids_of_ok hb) _) (atM_ids (ids_of_ok hc) _) (by omega) (by omega) (by omega)]
        simp only [Option.bind_some]
        have q3 := spec_merge_eq k hk s.2 (notF mode s.1 (atM a (timesM [a, b, c])[i]) (atM b (timesM [a, b, c])[i]) (atM c (timesM [a, b, c])[i])).2 (by omega) hI.2.2.2.1.few q2.2.1.few
        rw [show (notM mode s.1.1 s.1.2 (atM a (timesM [a, b, c])[i]) (atM b (timesM [a, b, c])[i]) (atM c (timesM [a, b, c])[i])).2.2 = (notF mode s.1 (atM a (timesM [a, b, c])[i]) (atM b (timesM [a, b, c])[i]) (atM c (timesM [a, b, c])[i])).2 from rfl, q3, wrS i (by omega)]
        rfl) k (([], []), []) (by omega) RunInv.start).1
  · exact (loop_inv0 (fun s : Two × List GOcc => s.2) (timesM [a, b, c]) (fun n s i => spec_l5All.l0 k mode a b c (timesM [a, b, c]) n false s.1.1 s.1.2 s.2 i) (runM fun p t => eachF mode p (atM a t) (atM b t) (atM c t)) RunInv
      (fun n s => by rw [spec_l5All.l0, if_neg (by omega)])
      (fun n s i h hI => by
        obtain ⟨q1, q2⟩ := hI.span (eachF_ok mode) ha hb hc (t := (timesM [a, b, c])[i]) (by omega)
        refine ⟨?_, q1⟩
        have := atM_len a (timesM [a, b, c])[i]; have := atM_len b (timesM [a, b, c])[i]; have := atM_len c (timesM [a, b, c])[i]
        have := hI.2.2.2.2; have := q2.2.2
        rw [spec_l5All.l0, if_pos (by omega), req_pos (by omega), req_pos (by omega), Int.toNat_natCast, List.getElem?_eq_getElem h]
        simp only [Option.bind_some]
        rw [if_neg (by simp), spec_at_eq k hk a _ (by omega)]
        simp only [Option.bind_some]
        rw [spec_at_eq k hk b _ (by omega)]
        simp only [Option.bind_some]
        rw [spec_at_eq k hk c _ (by omega)]
        simp only [Option.bind_some]
        rw [spec_each_eq k hk mode ⟨s.1.1, s.1.2⟩ _ _ _ (100 * i) (by omega) hI.1 hI.2.1 (atM_ids (ids_of_ok ha) _) (atM_ids (ids_of_ok hb) _) (atM_ids (ids_of_ok hc) _) (by omega) (by omega) (by omega)]
        simp only [Option.bind_some]
        have q3 := spec_merge_eq k hk s.2 (eachF mode s.1 (atM a (timesM [a, b, c])[i]) (atM b (timesM [a, b, c])[i]) (atM c (timesM [a, b, c])[i])).2 (by omega) hI.2.2.2.1.few q2.2.1.few
        rw [show (eachStep mode s.1.1 s.1.2 (atM a (timesM [a, b, c])[i]) (atM b (timesM [a, b, c])[i]) (atM c (timesM [a, b, c])[i])).2.2 = (eachF mode s.1 (atM a (timesM [a, b, c])[i]) (atM b (timesM [a, b, c])[i]) (atM c (timesM [a, b, c])[i])).2 from rfl, q3, wrS i (by omega)]
        rfl) k (([], []), []) (by omega) RunInv.start).1
theorem impl_NotOf_eq (k : Nat) (hk : 1000000000000 ≤ k) (mode : Int) (hmo : 0 ≤ mode ∧ mode ≤ 4) (a b c : List GOcc) (sa : Small a) (sb : Small b) (sc : Small c) : impl_NotOf.f k mode a b c = some (spanOfM (notF mode) a b c) := by
  unfold impl_NotOf.f
  rw [spanOf_eq k hk mode hmo (notF_ok mode) (fun m p a b c hm h1 h2 ha hb hc na nb nc => (not_eq k hk mode ⟨p.1, p.2⟩ a b c m (by omega) h1 h2 ha hb hc (by omega) (by omega) (by omega)).1) a b c sa sb sc]
  rfl
theorem impl_EachOf_eq (k : Nat) (hk : 1000000000000 ≤ k) (mode : Int) (hmo : 0 ≤ mode ∧ mode ≤ 4) (a b c : List GOcc) (sa : Small a) (sb : Small b) (sc : Small c) : impl_EachOf.f k mode a b c = some (spanOfM (eachF mode) a b c) := by
  unfold impl_EachOf.f
  rw [spanOf_eq k hk mode hmo (eachF_ok mode) (fun m p a b c hm h1 h2 ha hb hc na nb nc => (each_eq k hk mode ⟨p.1, p.2⟩ a b c m (by omega) h1 h2 ha hb hc (by omega) (by omega) (by omega)).1) a b c sa sb sc]
  rfl
theorem spec_NotOf_eq (k : Nat) (hk : 1000000000000 ≤ k) (mode : Int) (hmo : 0 ≤ mode ∧ mode ≤ 4) (a b c : List GOcc) (sa : Small a) (sb : Small b) (sc : Small c) : spec_NotOf.f k mode a b c = some (spanOfM (notF mode) a b c) := by
  unfold spec_NotOf.f spanOfM spec_l5All.f
  rw [(spanFits_eq k hk mode hmo a b c sa sb sc).2]
  simp only [Option.bind_some]
  by_cases h : occsOk a = true ∧ occsOk b = true ∧ occsOk c = true
  · obtain ⟨ha, hb, hc⟩ := h
    have o := span_ok (notF_ok mode) ha hb hc
    have := o.2.2
    rw [if_pos (by simp [ha, hb, hc]), if_pos ⟨ha, hb, hc⟩, (times_three k hk ha hb hc).2]
    simp only [Option.bind_some]
    rw [(spec_span_loop k hk mode hmo ha hb hc).1]
    simp only [Option.bind_some]
    rw [told_k k hk _ (by omega) o.2.1.few]
    rfl
  · rw [if_neg (by simpa using h), if_neg h]
theorem spec_EachOf_eq (k : Nat) (hk : 1000000000000 ≤ k) (mode : Int) (hmo : 0 ≤ mode ∧ mode ≤ 4) (a b c : List GOcc) (sa : Small a) (sb : Small b) (sc : Small c) : spec_EachOf.f k mode a b c = some (spanOfM (eachF mode) a b c) := by
  unfold spec_EachOf.f spanOfM spec_l5All.f
  rw [(spanFits_eq k hk mode hmo a b c sa sb sc).2]
  simp only [Option.bind_some]
  by_cases h : occsOk a = true ∧ occsOk b = true ∧ occsOk c = true
  · obtain ⟨ha, hb, hc⟩ := h
    have o := span_ok (eachF_ok mode) ha hb hc
    have := o.2.2
    rw [if_pos (by simp [ha, hb, hc]), if_pos ⟨ha, hb, hc⟩, (times_three k hk ha hb hc).2]
    simp only [Option.bind_some]
    rw [(spec_span_loop k hk mode hmo ha hb hc).2]
    simp only [Option.bind_some]
    rw [told_k k hk _ (by omega) o.2.1.few]
    rfl
  · rw [if_neg (by simpa using h), if_neg h]
end Go.Proofs.YtdhlbpgjcfdofaaGreat
