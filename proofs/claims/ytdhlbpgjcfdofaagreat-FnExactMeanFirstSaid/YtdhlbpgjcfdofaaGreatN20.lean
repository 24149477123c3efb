/- Sequences and conjunctions of all that was found: both programs. -/
import Derived.Test.YtdhlbpgjcfdofaaGreatN19
namespace Go.Proofs.YtdhlbpgjcfdofaaGreat
open Go Go.Vm
set_option linter.unusedVariables false
theorem fold_inv {α σ : Type} (g : σ → α → σ) (Inv : Nat → σ → Prop) : ∀ (l : List α) (i : Nat) (s : σ), (∀ j s (h : j < l.length), Inv (i + j) s → Inv (i + j + 1) (g s l[j])) → Inv i s → Inv (i + l.length) (l.foldl g s)
  | [], i, s, _, h => h
  | x :: l, i, s, hs, h => by
    have h1 := hs 0 s (by simp) h
    have := fold_inv g Inv l (i + 1) (g s x) (fun j s' hj hI => by
      have := hs (j + 1) s' (by simp; omega) (by rw [show i + (j + 1) = i + 1 + j by omega]; exact hI)
      rw [show i + (j + 1) + 1 = i + 1 + j + 1 by omega] at this
      exact this) h1
    rw [List.foldl_cons, List.length_cons, show i + (l.length + 1) = i + 1 + l.length by omega]
    exact this
theorem pair_ok {f : Two → List GOcc → List GOcc → Two × List GOcc} (hf : StepOk f) {a b : List GOcc} (ha : occsOk a = true) (hb : occsOk b = true) : Ok 200000000 (pairM f a b) := by
  have hl := times_len2 ha hb
  have := fold_inv (runM fun p t => f p (atM a t) (atM b t)) RunInv (timesM [a, b]) 0 (([], []), []) (fun j s h hI => (hI.pair hf ha hb (by omega)).1) RunInv.start
  exact this.2.2.mono (by omega)
theorem span_ok {f : Two → List GOcc → List GOcc → List GOcc → Two × List GOcc} (hf : Step3Ok f) {a b c : List GOcc} (ha : occsOk a = true) (hb : occsOk b = true) (hc : occsOk c = true) : Ok 300000000 (spanM f a b c) := by
  have hl := times_len3 ha hb hc
  have := fold_inv (runM fun p t => f p (atM a t) (atM b t) (atM c t)) RunInv (timesM [a, b, c]) 0 (([], []), []) (fun j s h hI => (hI.span hf ha hb hc (by omega)).1) RunInv.start
  exact this.2.2.mono (by omega)
def pairOfM (f : Two → List GOcc → List GOcc → Two × List GOcc) (a b : List GOcc) : List GOcc × Bool := if occsOk a = true ∧ occsOk b = true then told (pairM f a b) else ([], false)
def spanOfM (f : Two → List GOcc → List GOcc → List GOcc → Two × List GOcc) (a b c : List GOcc) : List GOcc × Bool := if occsOk a = true ∧ occsOk b = true ∧ occsOk c = true then told (spanM f a b c) else ([], false)
theorem isMode_eq (mode : Int) : impl_isMode.f mode = some (decide (0 ≤ mode) && decide (mode ≤ 4)) ∧ spec_l4Mode.f mode = some (decide (0 ≤ mode) && decide (mode ≤ 4)) := by
  refine ⟨?_, ?_⟩
  · unfold impl_isMode.f
    rw [in_eq]; rfl
  · unfold spec_l4Mode.f
    split
    · have : ¬ 0 ≤ mode := by omega
      simp [this]
    · have : 0 ≤ mode := by omega
      simp [this]
      omega
theorem isMode_ok {mode : Int} (hmo : 0 ≤ mode ∧ mode ≤ 4) : impl_isMode.f mode = some true ∧ spec_l4Mode.f mode = some true := by
  obtain ⟨a, b⟩ := isMode_eq mode
  rw [a, b]
  simp [hmo]
theorem occsOk_nil : occsOk [] = true := by decide
theorem small_nil : Small [] := ⟨by simp, fun x hx => by simp at hx⟩
theorem small_of_ok {l : List GOcc} (h : occsOk l = true) : Small l := ⟨by have := occsOk_len h; omega, fews_of_ok h⟩
theorem pairFits_eq (k : Nat) (hk : 1000000000000 ≤ k) (mode : Int) (hmo : 0 ≤ mode ∧ mode ≤ 4) (a b : List GOcc) (ha : Small a) (hb : Small b) : impl_pairFits.f k mode ⟨[], []⟩ a b = some (occsOk a && occsOk b) := by
  unfold impl_pairFits.f impl_PairOk.f
  rw [(isMode_ok hmo).1]
  simp only [Option.bind_some]
  rw [if_pos trivial, impl_ok_k k hk [] small_nil, occsOk_nil]
  simp only [Option.bind_some]
  rw [if_pos trivial]
  simp only [Option.bind_some]
  rw [if_pos trivial, impl_ok_k k hk a ha, impl_ok_k k hk b hb]
  simp only [Option.bind_some]
  cases occsOk a <;> rfl
theorem spanFits_eq (k : Nat) (hk : 1000000000000 ≤ k) (mode : Int) (hmo : 0 ≤ mode ∧ mode ≤ 4) (a b c : List GOcc) (ha : Small a) (hb : Small b) (hc : Small c) : impl_spanFits.f k mode ⟨[], []⟩ a b c = some (occsOk a && (occsOk b && occsOk c)) ∧ spec_l5Fits.f k mode ⟨[], []⟩ a b c = some (occsOk a && (occsOk b && occsOk c)) := by
  refine ⟨?_, ?_⟩
  · unfold impl_spanFits.f impl_SpanOk.f
    rw [(isMode_ok hmo).1]
    simp only [Option.bind_some]
    rw [if_pos trivial, impl_ok_k k hk [] small_nil, occsOk_nil]
    simp only [Option.bind_some]
    rw [if_pos trivial]
    simp only [Option.bind_some]
    rw [if_pos trivial, impl_ok_k k hk a ha, impl_ok_k k hk b hb, impl_ok_k k hk c hc]
    simp only [Option.bind_some]
    cases occsOk a <;> cases occsOk b <;> rfl
  · unfold spec_l5Fits.f spec_SpanOk.f
    rw [(isMode_ok hmo).2]
    simp only [Option.bind_some]
    rw [if_pos trivial, spec_ok_k k hk [] small_nil, occsOk_nil]
    simp only [Option.bind_some]
    rw [if_pos trivial]
    simp only [Option.bind_some]
    rw [if_pos trivial, spec_ok_k k hk a ha, spec_ok_k k hk b hb, spec_ok_k k hk c hc]
    simp only [Option.bind_some]
    cases occsOk a <;> cases occsOk b <;> rfl
theorem times_two (k : Nat) (hk : 1000000000000 ≤ k) {a b : List GOcc} (ha : occsOk a = true) (hb : occsOk b = true) : impl_times.f k [a, b] = some (timesM [a, b]) ∧ spec_l4Times.f k [a, b] = some (timesM [a, b]) := by
  have := occsOk_len ha; have := occsOk_len hb
  refine ⟨times_eq k hk _ (by simp) (fun l hl => ?_) (fun l hl => ?_), l4Times_eq k hk _ (by simp) (fun l hl => ?_)⟩ <;>
  · simp only [List.mem_cons, List.not_mem_nil, or_false] at hl
    rcases hl with rfl | rfl
    · first | omega | exact tos_ok ha
    · first | omega | exact tos_ok hb
theorem times_three (k : Nat) (hk : 1000000000000 ≤ k) {a b c : List GOcc} (ha : occsOk a = true) (hb : occsOk b = true) (hc : occsOk c = true) : impl_times.f k [a, b, c] = some (timesM [a, b, c]) ∧ spec_l4Times.f k [a, b, c] = some (timesM [a, b, c]) := by
  have := occsOk_len ha; have := occsOk_len hb; have := occsOk_len hc
  refine ⟨times_eq k hk _ (by simp) (fun l hl => ?_) (fun l hl => ?_), l4Times_eq k hk _ (by simp) (fun l hl => ?_)⟩ <;>
  · simp only [List.mem_cons, List.not_mem_nil, or_false] at hl
    rcases hl with rfl | rfl | rfl
    · first | omega | exact tos_ok ha
    · first | omega | exact tos_ok hb
    · first | omega | exact tos_ok hc
/-- the program's step is f -/
def Does (k : Nat) (mode : Int) (f : Two → List GOcc → List GOcc → Two × List GOcc) (g : GPair → Int → List GOcc → List GOcc → Option (GPair × List GOcc)) : Prop :=
  ∀ (m : Nat) (p : Two) (l r : List GOcc), m ≤ 19000 → Ok m p.1 → Ok m p.2 → Ids l → Ids r → l.length ≤ 40 → r.length ≤ 40 → g ⟨p.1, p.2⟩ mode l r = some (⟨(f p l r).1.1, (f p l r).1.2⟩, (f p l r).2)
theorem pairOf_eq (k : Nat) (hk : 1000000000000 ≤ k) (mode : Int) (hmo : 0 ≤ mode ∧ mode ≤ 4) {f : Two → List GOcc → List GOcc → Two × List GOcc} (hf : StepOk f) {g : GPair → Int → List GOcc → List GOcc → Option (GPair × List GOcc)} (hg : Does k mode f g)
    (a b : List GOcc) (sa : Small a) (sb : Small b) : impl_pairOf.f g k mode a b = some (pairOfM f a b) := by
  unfold impl_pairOf.f pairOfM
  rw [pairFits_eq k hk mode hmo a b sa sb]
  simp only [Option.bind_some]
  by_cases h : occsOk a = true ∧ occsOk b = true
  · obtain ⟨ha, hb⟩ := h
    have hl := times_len2 ha hb
    have := occsOk_len ha; have := occsOk_len hb
    rw [if_pos (by simp [ha, hb]), if_pos ⟨ha, hb⟩, (times_two k hk ha hb).1]
    simp only [Option.bind_some]
    have q := loop_inv0 (fun s : Two × List GOcc => s.2) (timesM [a, b]) (fun n s i => impl_pairOf.l0 k g mode a b (timesM [a, b]) n s.1.1 s.1.2 s.2 i) (runM fun p t => f p (atM a t) (atM b t)) RunInv
      (fun n s => by rw [impl_pairOf.l0, if_neg (by omega)])
      (fun n s i h hI => by
        obtain ⟨q1, q2⟩ := hI.pair hf ha hb (t := (timesM [a, b])[i]) (by omega)
        refine ⟨?_, q1⟩
        have := atM_len a (timesM [a, b])[i]; have := atM_len b (timesM [a, b])[i]
        have := hI.2.2.2.2; have := q2.2.2
        rw [impl_pairOf.l0, if_pos (by omega), req_pos (by omega), Int.toNat_natCast, List.getElem?_eq_getElem h]
        simp only [Option.bind_some]
        rw [impl_at_eq k hk a _ (by omega)]
        simp only [Option.bind_some]
        rw [impl_at_eq k hk b _ (by omega)]
        simp only [Option.bind_some]
        rw [hg (100 * i) s.1 _ _ (by omega) hI.1 hI.2.1 (atM_ids (ids_of_ok ha) _) (atM_ids (ids_of_ok hb) _) (by omega) (by omega)]
        simp only [Option.bind_some]
        rw [impl_putAll_eq k hk _ _ (by omega) hI.2.2.2.1.few q2.2.1.few hI.2.2.1, wrS i (by omega)]
        rfl) k (([], []), []) (by omega) RunInv.start
    have o := pair_ok hf ha hb
    have := o.2.2
    have q' : impl_pairOf.l0 k g mode a b (timesM [a, b]) k [] [] [] 0 = some (pairM f a b) := q.1
    rw [q']
    simp only [Option.bind_some]
    rw [few_k k hk _ (by omega) o.2.1.few]
    rfl
  · rw [if_neg (by simpa using h), if_neg h]
theorem spec_pair_loop (k : Nat) (hk : 1000000000000 ≤ k) (mode : Int) (hmo : 0 ≤ mode ∧ mode ≤ 4) {a b : List GOcc} (ha : occsOk a = true) (hb : occsOk b = true) :
    spec_l4Both.l0 k mode a b (timesM [a, b]) k true [] [] [] 0 = some (pairM (seqF mode) a b) ∧ spec_l4Both.l0 k mode a b (timesM [a, b]) k false [] [] [] 0 = some (pairM (andF mode) a b) := by
  have hl := times_len2 ha hb
  have := occsOk_len ha; have := occsOk_len hb
  refine ⟨?_, ?_⟩
  · exact (loop_inv0 (fun s : Two × List GOcc => s.2) (timesM [a, b]) (fun n s i => spec_l4Both.l0 k mode a b (timesM [a, b]) n true s.1.1 s.1.2 s.2 i) (runM fun p t => seqF mode p (atM a t) (atM b t)) RunInv
      (fun n s => by rw [spec_l4Both.l0, if_neg (by omega)])
      (fun n s i h hI => by
        obtain ⟨q1, q2⟩ := hI.pair (seqF_ok mode) ha hb (t := (timesM [a, b])[i]) (by omega)
        refine ⟨?_, q1⟩
        have := atM_len a (timesM [a, b])[i]; have := atM_len b (timesM [a, b])[i]
        have := hI.2.2.2.2; have := q2.2.2
        rw [spec_l4Both.l0, if_pos (by omega), if_pos rfl, req_pos (by omega), req_pos (by omega), Int.toNat_natCast, List.getElem?_eq_getElem h]
        simp only [Option.bind_some]
        rw [spec_at_eq k hk a _ (by omega)]
        simp only [Option.bind_some]
        rw [req_pos (by omega), req_pos (by omega), spec_at_eq k hk b _ (by omega)]
        simp only [Option.bind_some]
        rw [spec_seq_eq k hk mode hmo ⟨s.1.1, s.1.2⟩ _ _ (100 * i) (by omega) hI.1 (atM_ids (ids_of_ok ha) _) (atM_ids (ids_of_ok hb) _) (by omega) (by omega)]
        simp only [Option.bind_some]
        have q3 := spec_merge_eq k hk s.2 (seqF mode s.1 (atM a (timesM [a, b])[i]) (atM b (timesM [a, b])[i])).2 (by omega) hI.2.2.2.1.few q2.2.1.few
        rw [show (seqM mode s.1.1 (atM a (timesM [a, b])[i]) (atM b (timesM [a, b])[i])).2 = (seqF mode s.1 (atM a (timesM [a, b])[i]) (atM b (timesM [a, b])[i])).2 from rfl, q3, wrS i (by omega)]
        rfl) k (([], []), []) (by omega) RunInv.start).1
  · exact (loop_inv0 (fun s : Two × List GOcc => s.2) (timesM [a, b]) (fun n s i => spec_l4Both.l0 k mode a b (timesM [a, b]) n false s.1.1 s.1.2 s.2 i) (runM fun p t => andF mode p (atM a t) (atM b t)) RunInv
      (fun n s => by rw [spec_l4Both.l0, if_neg (by omega)])
      (fun n s i h hI => by
        obtain ⟨q1, q2⟩ := hI.pair (andF_ok mode) ha hb (t := (timesM [a, b])[i]) (by omega)
        refine ⟨?_, q1⟩
        have := atM_len a (timesM [a, b])[i]; have := atM_len b (timesM [a, b])[i]
        have := hI.2.2.2.2; have := q2.2.2
        rw [spec_l4Both.l0, if_pos (by omega), if_neg (by simp), req_pos (by omega), req_pos (by omega), Int.toNat_natCast, List.getElem?_eq_getElem h]
        simp only [Option.bind_some]
        rw [spec_at_eq k hk a _ (by omega)]
        simp only [Option.bind_some]
        rw [req_pos (by omega), req_pos (by omega), spec_at_eq k hk b _ (by omega)]
        simp only [Option.bind_some]
        rw [spec_and_eq k hk mode hmo ⟨s.1.1, s.1.2⟩ _ _ (100 * i) (by omega) hI.1 hI.2.1 (atM_ids (ids_of_ok ha) _) (atM_ids (ids_of_ok hb) _) (by omega)]
        simp only [Option.bind_some]
        have q3 := spec_merge_eq k hk s.2 (andF mode s.1 (atM a (timesM [a, b])[i]) (atM b (timesM [a, b])[i])).2 (by omega) hI.2.2.2.1.few q2.2.1.few
        rw [show (andM mode s.1.1 s.1.2 (atM a (timesM [a, b])[i]) (atM b (timesM [a, b])[i])).2.2 = (andF mode s.1 (atM a (timesM [a, b])[i]) (atM b (timesM [a, b])[i])).2 from rfl, q3, wrS i (by omega)]
        rfl) k (([], []), []) (by omega) RunInv.start).1
theorem impl_SeqOf_eq (k : Nat) (hk : 1000000000000 ≤ k) (mode : Int) (hmo : 0 ≤ mode ∧ mode ≤ 4) (a b : List GOcc) (sa : Small a) (sb : Small b) : impl_SeqOf.f k mode a b = some (pairOfM (seqF mode) a b) := by
  unfold impl_SeqOf.f
  rw [pairOf_eq k hk mode hmo (seqF_ok mode) (fun m p l r hm h1 h2 hl hr nl nr => (seq_eq k hk mode ⟨p.1, p.2⟩ l r m (by omega) h1 hl hr (by omega) (by omega)).1) a b sa sb]
  rfl
theorem impl_AndOf_eq (k : Nat) (hk : 1000000000000 ≤ k) (mode : Int) (hmo : 0 ≤ mode ∧ mode ≤ 4) (a b : List GOcc) (sa : Small a) (sb : Small b) : impl_AndOf.f k mode a b = some (pairOfM (andF mode) a b) := by
  unfold impl_AndOf.f
  rw [pairOf_eq k hk mode hmo (andF_ok mode) (fun m p l r hm h1 h2 hl hr nl nr => (and_eq k hk mode ⟨p.1, p.2⟩ l r m (by omega) h1 h2 hl hr (by omega)).1) a b sa sb]
  rfl
theorem spec_SeqOf_eq (k : Nat) (hk : 1000000000000 ≤ k) (mode : Int) (hmo : 0 ≤ mode ∧ mode ≤ 4) (a b : List GOcc) (sa : Small a) (sb : Small b) : spec_SeqOf.f k mode a b = some (pairOfM (seqF mode) a b) := by
  unfold spec_SeqOf.f pairOfM spec_l4Both.f
  rw [(isMode_ok hmo).2]
  simp only [Option.bind_some]
  rw [if_pos trivial, spec_ok_k k hk a sa, spec_ok_k k hk b sb]
  simp only [Option.bind_some]
  by_cases ha : occsOk a = true
  · rw [if_pos ha]
    by_cases hb : occsOk b = true
    · have o := pair_ok (seqF_ok mode) ha hb
      have := o.2.2
      rw [if_pos hb, if_pos ⟨ha, hb⟩, (times_two k hk ha hb).2]
      simp only [Option.bind_some]
      rw [(spec_pair_loop k hk mode hmo ha hb).1]
      simp only [Option.bind_some]
      rw [told_k k hk _ (by omega) o.2.1.few]
      rfl
    · rw [if_neg hb, if_neg (fun h => hb h.2)]
  · rw [if_neg ha, if_neg (fun h => ha h.1)]
theorem spec_AndOf_eq (k : Nat) (hk : 1000000000000 ≤ k) (mode : Int) (hmo : 0 ≤ mode ∧ mode ≤ 4) (a b : List GOcc) (sa : Small a) (sb : Small b) : spec_AndOf.f k mode a b = some (pairOfM (andF mode) a b) := by
  unfold spec_AndOf.f pairOfM spec_l4Both.f
  rw [(isMode_ok hmo).2]
  simp only [Option.bind_some]
  rw [if_pos trivial, spec_ok_k k hk a sa, spec_ok_k k hk b sb]
  simp only [Option.bind_some]
  by_cases ha : occsOk a = true
  · rw [if_pos ha]
    by_cases hb : occsOk b = true
    · have o := pair_ok (andF_ok mode) ha hb
      have := o.2.2
      rw [if_pos hb, if_pos ⟨ha, hb⟩, (times_two k hk ha hb).2]
      simp only [Option.bind_some]
      rw [(spec_pair_loop k hk mode hmo ha hb).2]
      simp only [Option.bind_some]
      rw [told_k k hk _ (by omega) o.2.1.few]
      rfl
    · rw [if_neg hb, if_neg (fun h => hb h.2)]
  · rw [if_neg ha, if_neg (fun h => ha h.1)]
end Go.Proofs.YtdhlbpgjcfdofaaGreat
