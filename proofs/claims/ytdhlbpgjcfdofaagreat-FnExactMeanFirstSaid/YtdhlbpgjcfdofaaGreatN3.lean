/- One occurrence and those that wait: both programs. -/
import Derived.Test.YtdhlbpgjcfdofaaGreatN2
namespace Go.Proofs.YtdhlbpgjcfdofaaGreat
open Go Go.Vm
set_option linter.unusedVariables false
/-- a loop over a list, its state told in another way -/
theorem loop_ret {α σ τ : Type} (ret : σ → τ) (l : List α) (body : σ → α → Option σ) (L : Nat → σ → Int → Option τ) (g : σ → α → σ) (Inv : Nat → σ → Prop)
    (hend : ∀ n s, L (n + 1) s (l.length : Int) = some (ret s))
    (hstep : ∀ n s (i : Nat) (h : i < l.length), L (n + 1) s (i : Int) = (body s l[i]).bind fun s' => L n s' ((i + 1 : Nat) : Int))
    (hbody : ∀ i s (h : i < l.length), Inv i s → body s l[i] = some (g s l[i]) ∧ Inv (i + 1) (g s l[i])) :
    ∀ (d i n : Nat) (s : σ), i + d = l.length → d < n → Inv i s → L n s (i : Int) = some (ret ((l.drop i).foldl g s)) ∧ Inv l.length ((l.drop i).foldl g s) := by
  intro d
  induction d with
  | zero =>
    intro i n s hi hn hI
    obtain ⟨n, rfl⟩ : ∃ m, n = m + 1 := ⟨n - 1, by omega⟩
    have e : i = l.length := by omega
    subst e
    rw [hend, List.drop_length]
    exact ⟨rfl, hI⟩
  | succ d ih =>
    intro i n s hi hn hI
    obtain ⟨n, rfl⟩ : ∃ m, n = m + 1 := ⟨n - 1, by omega⟩
    have hlt : i < l.length := by omega
    obtain ⟨h1, h2⟩ := hbody i s hlt hI
    rw [hstep n s i hlt, h1, List.drop_eq_getElem_cons hlt]
    exact ih (i + 1) n _ (by omega) (by omega) h2
theorem loop_ret0 {α σ τ : Type} (ret : σ → τ) (l : List α) (body : σ → α → Option σ) (L : Nat → σ → Int → Option τ) (g : σ → α → σ) (Inv : Nat → σ → Prop)
    (hend : ∀ n s, L (n + 1) s (l.length : Int) = some (ret s))
    (hstep : ∀ n s (i : Nat) (h : i < l.length), L (n + 1) s (i : Int) = (body s l[i]).bind fun s' => L n s' ((i + 1 : Nat) : Int))
    (hbody : ∀ i s (h : i < l.length), Inv i s → body s l[i] = some (g s l[i]) ∧ Inv (i + 1) (g s l[i])) (n : Nat) (s : σ) (hn : l.length < n) (hI : Inv 0 s) :
    L n s 0 = some (ret (l.foldl g s)) ∧ Inv l.length (l.foldl g s) := by
  have := loop_ret ret l body L g Inv hend hstep hbody l.length 0 n s (by omega) hn hI
  simpa using this
/-- those of a list that hold, kept in order -/
theorem fold_filter {α : Type} (p : α → Bool) : ∀ (l acc : List α), l.foldl (fun s e => if p e = true then s ++ [e] else s) acc = acc ++ l.filter p
  | [], acc => by simp
  | x :: l, acc => by
    rw [List.foldl_cons, fold_filter p l]
    by_cases h : p x = true
    · rw [if_pos h, List.filter_cons_of_pos h]; simp
    · rw [if_neg h, List.filter_cons_of_neg h]
/-- all numbers of a list of occurrences are right -/
def Ids (l : List GOcc) : Prop := ∀ o ∈ l, IdsOk o.Ids
theorem Ids.few {l : List GOcc} (h : Ids l) : Fews l := fun o ho => by have := idsOk_len (h o ho); omega
theorem ids_put {l : List GOcc} {o : GOcc} (h : Ids l) (ho : IdsOk o.Ids) : Ids (putM l o) := fun x hx => by
  rcases mem_putM.1 hx with h1 | rfl
  · exact h x h1
  · exact ho
theorem ids_merge {l m : List GOcc} (h : Ids l) (hm : Ids m) : Ids (mergeM l m) := fun x hx => by
  rcases mem_mergeM.1 hx with h1 | h1
  · exact h x h1
  · exact hm x h1
theorem ids_join {a b : GOcc} (ha : IdsOk a.Ids) (hb : IdsOk b.Ids) : IdsOk (joinM a b).Ids := idsOk_union ha hb
theorem ids_of_ok {l : List GOcc} (h : occsOk l = true) : Ids l := fun o ho => by
  obtain ⟨i, hi, rfl⟩ := List.mem_iff_getElem.1 ho
  have := (occsOk_at h hi).1
  unfold occOk at this
  simp only [Bool.and_eq_true, decide_eq_true_eq] at this
  exact idsOk_of this.2
/-- what is found of one and of those that wait -/
def sumM (o : GOcc) (l : List GOcc) : GOcc := l.foldl joinM o
def eachM (o : GOcc) (l : List GOcc) : List GOcc := l.foldl (fun s e => putM s (joinM o e)) []
def foundM (mode : Int) (o : GOcc) (l : List GOcc) : List GOcc :=
  if l.length = 0 then [] else if mode = 1 then [joinM o (l[l.length - 1]?.getD o)] else if mode = 2 then [joinM o (l[0]?.getD o)] else if mode = 4 then [sumM o l] else eachM o l
def goneM (mode : Int) (l : List GOcc) : List GOcc := if mode = 1 then [] else if mode = 2 then l.take 1 else if mode = 4 then l else if mode = 3 then l else []
theorem ids_sum : ∀ {l : List GOcc} {o : GOcc}, Ids l → IdsOk o.Ids → IdsOk (sumM o l).Ids
  | [], _, _, h => h
  | x :: l, o, hl, h => ids_sum (l := l) (o := joinM o x) (fun y hy => hl y (by simp [hy])) (ids_join h (hl x (by simp)))
theorem each_facts (o : GOcc) (ho : IdsOk o.Ids) : ∀ (l acc : List GOcc), Ids l → Ids acc → Asc acc → Ids (l.foldl (fun s e => putM s (joinM o e)) acc) ∧ Asc (l.foldl (fun s e => putM s (joinM o e)) acc) ∧ (l.foldl (fun s e => putM s (joinM o e)) acc).length ≤ acc.length + l.length
  | [], acc, _, h, h2 => ⟨h, h2, by simp⟩
  | x :: l, acc, hl, h, h2 => by
    obtain ⟨a, b, c⟩ := each_facts o ho l (putM acc (joinM o x)) (fun y hy => hl y (by simp [hy])) (ids_put h (ids_join ho (hl x (by simp)))) (asc_putM h2)
    have := length_putM (joinM o x) acc
    exact ⟨a, b, by simp only [List.foldl_cons, List.length_cons]; omega⟩
theorem combine_sum (k : Nat) (hk : 1000000000000 ≤ k) (o : GOcc) (l : List GOcc) (hl : l.length ≤ 1000000) (hi : Ids l) (ho : IdsOk o.Ids) :
    impl_combine.l0 k l k o.From o.To o.Ids 0 = some ((sumM o l).From, (sumM o l).To, (sumM o l).Ids) := by
  have := loop_ret0 (fun s : GOcc => (s.From, s.To, s.Ids)) l (fun s e => impl_join.f k s e) (fun n s i => impl_combine.l0 k l n s.From s.To s.Ids i) joinM (fun i s => IdsOk s.Ids)
    (fun n s => by rw [impl_combine.l0, if_neg (by omega)])
    (fun n s i h => by
      rw [impl_combine.l0, if_pos (by omega), req_pos (by omega), Int.toNat_natCast, List.getElem?_eq_getElem h]
      simp only [Option.bind_some]
      rw [wrS i (by omega)])
    (fun i s h hI => ⟨impl_join_eq k hk s _ hI (hi _ (List.getElem_mem h)), ids_join hI (hi _ (List.getElem_mem h))⟩) k o (by omega) ho
  exact this.1
theorem combine_each (k : Nat) (hk : 1000000000000 ≤ k) (o : GOcc) (l : List GOcc) (hl : l.length ≤ 1000000) (hi : Ids l) (ho : IdsOk o.Ids) : impl_combine.l1 k o l k [] 0 = some (eachM o l) := by
  have := loop_fold0 l (fun s e => (impl_join.f k o e).bind fun x => impl_put.f k s x) (impl_combine.l1 k o l) (fun s e => putM s (joinM o e)) (fun i s => s.length ≤ i ∧ Ids s ∧ Asc s)
    (fun n s => by rw [impl_combine.l1, if_neg (by omega)])
    (fun n s i h => by
      rw [impl_combine.l1, if_pos (by omega), req_pos (by omega), Int.toNat_natCast, List.getElem?_eq_getElem h]
      simp only [Option.bind_some]
      rw [wrS i (by omega), Option.bind_assoc])
    (fun i s h hI => by
      have hx := hi _ (List.getElem_mem h)
      refine ⟨by rw [impl_join_eq k hk o _ ho hx]; exact impl_put_eq k hk s _ (by omega) hI.2.1.few hI.2.2, ?_, ids_put hI.2.1 (ids_join ho hx), asc_putM hI.2.2⟩
      have := length_putM (joinM o l[i]) s; omega)
    k [] (by omega) ⟨by simp, fun x hx => by simp at hx, by simp [Asc]⟩
  exact this.1
theorem combine_eq (k : Nat) (hk : 1000000000000 ≤ k) (mode : Int) (o : GOcc) (l : List GOcc) (hl : l.length ≤ 1000000) (hi : Ids l) (ho : IdsOk o.Ids) :
    impl_combine.f k mode o l = some (foundM mode o l, if l.length = 0 then [] else goneM mode l) := by
  unfold impl_combine.f foundM goneM
  by_cases h0 : l.length = 0
  · rw [if_pos (by omega), if_pos h0, if_pos h0]
  rw [if_neg (by omega), if_neg h0, if_neg h0]
  by_cases h1 : mode = 1
  · obtain ⟨j, hj⟩ : ∃ j, l.length = j + 1 := ⟨l.length - 1, by omega⟩
    have hlt : j < l.length := by omega
    have e : IntKind.wrap .i64 ((l.length : Int) - 1) = (j : Int) := by rw [hj]; exact wrP j (by omega)
    rw [if_pos h1, if_pos h1, if_pos h1, e, req_pos (by omega), Int.toNat_natCast, List.getElem?_eq_getElem hlt]
    simp only [Option.bind_some]
    rw [impl_join_eq k hk o _ ho (hi _ (List.getElem_mem hlt)), show l.length - 1 = j by omega, List.getElem?_eq_getElem hlt]
    rfl
  rw [if_neg h1, if_neg h1, if_neg h1]
  by_cases h2 : mode = 2
  · have hlt : 0 < l.length := by omega
    rw [if_pos h2, if_pos h2, if_pos h2, req_pos (by omega), List.getElem?_eq_getElem hlt]
    simp only [Option.bind_some]
    rw [impl_join_eq k hk o _ ho (hi _ (List.getElem_mem hlt))]
    simp only [Option.bind_some]
    rw [req_pos (by omega), req_pos (by omega), req_pos (by omega)]
    rfl
  rw [if_neg h2, if_neg h2, if_neg h2]
  by_cases h4 : mode = 4
  · rw [if_pos h4, if_pos h4, if_pos h4, combine_sum k hk o l hl hi ho]
    rfl
  rw [if_neg h4, if_neg h4, if_neg h4, combine_each k hk o l hl hi ho]
  simp only [Option.bind_some]
  by_cases h3 : mode = 3
  · rw [if_pos h3, if_pos h3]
  · rw [if_neg h3, if_neg h3]
/-- a list without some -/
def remM (l gone : List GOcc) : List GOcc := l.filter fun x => !(gone.any fun g => decide (occCmp g x = 0))
theorem found_iff {l : List GOcc} {o : GOcc} (hs : Asc l) : (∃ x, l[rank l o]? = some x ∧ occCmp x o = 0) ↔ (l.any fun g => decide (occCmp g o = 0)) = true := by
  rw [List.any_eq_true]
  constructor
  · rintro ⟨x, h1, h2⟩
    exact ⟨x, List.mem_of_getElem? h1, by simpa using h2⟩
  · rintro ⟨x, h1, h2⟩
    have h2 : occCmp x o = 0 := by simpa using h2
    have e := occCmp_zero h2
    subst e
    obtain ⟨i, hi, rfl⟩ := List.mem_iff_getElem.1 h1
    refine ⟨l[i], ?_, occCmp_refl _⟩
    have hr := rank_le l l[i]
    rcases Nat.lt_trichotomy i (rank l l[i]) with h | h | h
    · obtain ⟨y, e1, e2⟩ := rank_less h
      rw [List.getElem?_eq_getElem hi, Option.some.injEq] at e1
      subst e1
      rw [occLess_irrefl] at e2; cases e2
    · rw [← h]; exact List.getElem?_eq_getElem hi
    · have h3 := rank_end (l := l) (o := l[i]) (by omega)
      have h4 : occLess l[rank l l[i]] l[i] = true := List.pairwise_iff_getElem.1 hs _ _ _ _ h
      rw [h4] at h3; cases h3
theorem without_eq (k : Nat) (hk : 1000000000000 ≤ k) (l gone : List GOcc) (hl : l.length ≤ 1000000) (hg : gone.length ≤ 1000000) (hf : Fews gone) (hs : Asc gone) : impl_without.f k l gone = some (remM l gone) := by
  unfold impl_without.f
  have := loop_fold0 l (fun s e => (slices_BinarySearchFunc.f (fun y0 y1 => impl_compare.f k y0 y1) k gone e).bind fun x => if x.2 = true then some s else (req ((s.length + 1) * 40 ≤ 140737488355328) (some (s ++ [e])))) (impl_without.l0 k l gone)
    (fun s e => if (!(gone.any fun g => decide (occCmp g e = 0))) = true then s ++ [e] else s) (fun i s => s.length ≤ i)
    (fun n s => by rw [impl_without.l0, if_neg (by omega)])
    (fun n s i h => by
      rw [impl_without.l0, if_pos (by omega), req_pos (by omega), Int.toNat_natCast, List.getElem?_eq_getElem h]
      simp only [Option.bind_some]
      rw [wrS i (by omega), bs_eq k hk gone _ (by omega) hf hs]
      simp only [Option.bind_some]
      split
      · rfl
      · unfold req; split <;> rfl)
    (fun i s h hI => by
      rw [bs_eq k hk gone _ (by omega) hf hs]
      simp only [Option.bind_some]
      by_cases c : ∃ x, gone[rank gone l[i]]? = some x ∧ occCmp x l[i] = 0
      · have c2 := (found_iff hs).1 c
        rw [if_pos (by simpa using c), c2]
        exact ⟨rfl, by simp; omega⟩
      · have c2 : (gone.any fun g => decide (occCmp g l[i] = 0)) = false := by
          cases h' : (gone.any fun g => decide (occCmp g l[i] = 0))
          · rfl
          · exact absurd ((found_iff hs).2 h') c
        rw [if_neg (by simpa using c), c2, req_pos (by omega)]
        exact ⟨rfl, by simp; omega⟩)
    k [] (by omega) (by simp)
  rw [this.1, fold_filter]; rfl
theorem those_eq (k : Nat) (hk : 1000000000000 ≤ k) (g1 : GOcc → Option Bool) (p : GOcc → Bool) (l : List GOcc) (hl : l.length ≤ 1000000) (hp : ∀ x ∈ l, g1 x = some (p x)) : impl_those.f g1 k l = some (l.filter p) := by
  unfold impl_those.f
  have := loop_fold0 l (fun s e => (g1 e).bind fun x => if x = true then (req ((s.length + 1) * 40 ≤ 140737488355328) (some (s ++ [e]))) else some s) (impl_those.l0 k g1 l)
    (fun s e => if p e = true then s ++ [e] else s) (fun i s => s.length ≤ i)
    (fun n s => by rw [impl_those.l0, if_neg (by omega)])
    (fun n s i h => by
      rw [impl_those.l0, if_pos (by omega), req_pos (by omega), Int.toNat_natCast, List.getElem?_eq_getElem h]
      simp only [Option.bind_some]
      rw [wrS i (by omega), hp _ (List.getElem_mem h)]
      simp only [Option.bind_some]
      split
      · unfold req; split <;> rfl
      · rfl)
    (fun i s h hI => by
      rw [hp _ (List.getElem_mem h)]
      simp only [Option.bind_some]
      by_cases c : p l[i] = true
      · rw [if_pos c, if_pos c, req_pos (by omega)]
        exact ⟨rfl, by simp; omega⟩
      · rw [if_neg c, if_neg c]
        exact ⟨rfl, by omega⟩)
    k [] (by omega) (by simp)
  rw [this.1, fold_filter]; rfl
end Go.Proofs.YtdhlbpgjcfdofaaGreat
