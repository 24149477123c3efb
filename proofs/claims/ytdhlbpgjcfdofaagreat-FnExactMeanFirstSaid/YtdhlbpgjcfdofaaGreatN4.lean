/- What is paired by a mode, in the reference's words. -/
import Derived.Test.YtdhlbpgjcfdofaaGreatN3
namespace Go.Proofs.YtdhlbpgjcfdofaaGreat
open Go Go.Vm
set_option linter.unusedVariables false
theorem pick_l0 (k : Nat) (hk : 1000000000000 ≤ k) (l : List GOcc) (p : GOcc → Bool) (hl : l.length ≤ 1000000) : spec_l4Pick.l0 k l (l.map p) k [] 0 = some (l.filter p) := by
  have := loop_fold0 l (fun s e => if p e = true then (req ((s.length + 1) * 40 ≤ 140737488355328) (some (s ++ [e]))) else some s) (spec_l4Pick.l0 k l (l.map p)) (fun s e => if p e = true then s ++ [e] else s) (fun i s => s.length ≤ i)
    (fun n s => by rw [spec_l4Pick.l0, if_neg (by omega)])
    (fun n s i h => by
      rw [spec_l4Pick.l0, if_pos (by omega), req_pos (by omega), Int.toNat_natCast, List.getElem?_map, List.getElem?_eq_getElem h]
      simp only [Option.map_some, Option.bind_some]
      rw [wrS i (by omega)]
      split
      · rw [req_pos (by omega), req_pos (by omega)]; unfold req; split <;> rfl
      · rfl)
    (fun i s h hI => by
      by_cases c : p l[i] = true
      · rw [if_pos c, if_pos c, req_pos (by omega)]; exact ⟨rfl, by simp; omega⟩
      · rw [if_neg c, if_neg c]; exact ⟨rfl, by omega⟩)
    k [] (by omega) (by simp)
  rw [this.1, fold_filter]; rfl
theorem pick_l2 (k : Nat) (hk : 1000000000000 ≤ k) (l : List GOcc) (p : GOcc → Bool) (hl : l.length ≤ 1000000) : spec_l4Pick.l2 k l (l.map p) k [] 0 = some (l.filter fun e => !p e) := by
  have := loop_fold0 l (fun s e => if p e = true then some s else (req ((s.length + 1) * 40 ≤ 140737488355328) (some (s ++ [e])))) (spec_l4Pick.l2 k l (l.map p)) (fun s e => if (!p e) = true then s ++ [e] else s) (fun i s => s.length ≤ i)
    (fun n s => by rw [spec_l4Pick.l2, if_neg (by omega)])
    (fun n s i h => by
      rw [spec_l4Pick.l2, if_pos (by omega), req_pos (by omega), Int.toNat_natCast, List.getElem?_map, List.getElem?_eq_getElem h]
      simp only [Option.map_some, Option.bind_some]
      rw [wrS i (by omega)]
      split
      · rfl
      · rw [req_pos (by omega), req_pos (by omega)]; unfold req; split <;> rfl)
    (fun i s h hI => by
      by_cases c : p l[i] = true
      · rw [if_pos c, if_neg (by simp [c])]; exact ⟨rfl, by omega⟩
      · rw [if_neg c, if_pos (by simp [c]), req_pos (by omega)]; exact ⟨rfl, by simp; omega⟩)
    k [] (by omega) (by simp)
  rw [this.1, fold_filter]; rfl
theorem pick_l1 (k : Nat) (hk : 1000000000000 ≤ k) (l : List GOcc) (p : GOcc → Bool) (hl : l.length ≤ 1000000) (hf : Fews l) (x : GOcc) (t : List GOcc) : spec_l4Pick.l1 k l (l.map p) (x :: t) k [] 0 = some (l.filter fun e => !(p e && decide (occCmp e x = 0))) := by
  have := loop_fold0 l (fun s e => if p e = true then (if occCmp e x = 0 then some s else (req ((s.length + 1) * 40 ≤ 140737488355328) (some (s ++ [e])))) else (req ((s.length + 1) * 40 ≤ 140737488355328) (some (s ++ [e])))) (spec_l4Pick.l1 k l (l.map p) (x :: t)) (fun s e => if (!(p e && decide (occCmp e x = 0))) = true then s ++ [e] else s) (fun i s => s.length ≤ i)
    (fun n s => by rw [spec_l4Pick.l1, if_neg (by omega)])
    (fun n s i h => by
      rw [spec_l4Pick.l1, if_pos (by omega), req_pos (by omega), Int.toNat_natCast, List.getElem?_map, List.getElem?_eq_getElem h]
      simp only [Option.map_some, Option.bind_some]
      rw [wrS i (by omega)]
      split
      · rw [req_pos (by omega), req_pos (by omega), req_pos (by omega), req_pos (by omega)]
        simp only [List.getElem?_cons_zero, Option.bind_some, same_k _ x (hf _ (List.getElem_mem h)) k hk]
        by_cases c : occCmp l[i] x = 0
        · rw [if_pos (by simpa using c), if_pos c]; rfl
        · rw [if_neg (by simpa using c), if_neg c, req_pos (by omega), req_pos (by omega)]; unfold req; split <;> rfl
      · rw [req_pos (by omega), req_pos (by omega)]; unfold req; split <;> rfl)
    (fun i s h hI => by
      by_cases c : p l[i] = true
      · by_cases c2 : occCmp l[i] x = 0
        · rw [if_pos c, if_pos c2, if_neg (by simp [c, c2])]; exact ⟨rfl, by omega⟩
        · rw [if_pos c, if_neg c2, if_pos (by simp [c2]), req_pos (by omega)]; exact ⟨rfl, by simp; omega⟩
      · rw [if_neg c, if_pos (by simp [c]), req_pos (by omega)]; exact ⟨rfl, by simp; omega⟩)
    k [] (by omega) (by simp)
  rw [this.1, fold_filter]; rfl
def pickM (mode : Int) (l : List GOcc) (p : GOcc → Bool) : List GOcc := if mode = 1 then (l.filter p).drop ((l.filter p).length - 1) else if mode = 2 then (l.filter p).take 1 else l.filter p
theorem rem_nil (l : List GOcc) : remM l [] = l := by unfold remM; simp
theorem pick_eq (k : Nat) (hk : 1000000000000 ≤ k) (mode : Int) (hm : 0 ≤ mode ∧ mode ≤ 4) (l : List GOcc) (p : GOcc → Bool) (hl : l.length ≤ 1000000) (hf : Fews l) :
    spec_l4Pick.f k mode l (l.map p) = some (pickM mode l p, remM l (if (l.filter p).length = 0 then [] else goneM mode (l.filter p))) := by
  unfold spec_l4Pick.f pickM goneM
  rw [pick_l0 k hk l p hl]
  simp only [Option.bind_some]
  have hlen : (l.filter p).length ≤ l.length := List.length_filter_le _ _
  generalize hs : l.filter p = s at hlen ⊢
  by_cases h0 : s.length = 0
  · rw [if_pos (by omega), if_pos h0, rem_nil]
    have e : s = [] := List.length_eq_zero_iff.1 h0
    subst e
    simp
  rw [if_neg (by omega), if_neg h0]
  by_cases m0 : mode = 0
  · subst m0
    simp [rem_nil]
  rw [if_neg m0]
  by_cases m1 : mode = 1
  · obtain ⟨j, hj⟩ : ∃ j, s.length = j + 1 := ⟨s.length - 1, by omega⟩
    have e : IntKind.wrap .i64 (((s.length : Nat) : Int) - 1) = (j : Int) := by rw [hj]; exact wrP j (by omega)
    rw [if_pos m1, if_pos m1, if_pos m1, e, req_pos (by omega), req_pos (by omega), req_pos (by omega), rem_nil, Int.toNat_natCast, show s.length - 1 = j by omega, List.take_of_length_le (by rw [List.length_drop]; omega)]
  rw [if_neg m1, if_neg m1, if_neg m1]
  by_cases m2 : mode = 2
  · rw [if_pos m2, if_pos m2, if_pos m2, req_pos (by omega), req_pos (by omega), req_pos (by omega)]
    cases s with
    | nil => simp at h0
    | cons x t =>
      rw [pick_l1 k hk l p hl hf x t]
      simp only [Option.bind_some, Option.some.injEq, Prod.mk.injEq, true_and]
      unfold remM
      apply List.filter_congr
      intro e he
      have hx : p x = true := by
        have : x ∈ l.filter p := by rw [hs]; simp
        exact (List.mem_filter.1 this).2
      have sym : occCmp x e = 0 ↔ occCmp e x = 0 := by have := occCmp_anti x e; omega
      by_cases c : occCmp e x = 0
      · have := occCmp_zero c
        subst this
        simp [hx, occCmp_refl]
      · simp [c, sym]
  rw [if_neg m2, if_neg m2, if_neg m2, pick_l2 k hk l p hl]
  have gone : (if mode = 4 then s else if mode = 3 then s else []) = s := by
    by_cases m4 : mode = 4
    · rw [if_pos m4]
    · rw [if_neg m4, if_pos (by omega)]
  rw [gone]
  simp only [Option.bind_some, Option.some.injEq, Prod.mk.injEq, true_and]
  unfold remM
  apply List.filter_congr
  intro e he
  congr 1
  rw [Bool.eq_iff_iff, List.any_eq_true]
  constructor
  · intro h
    exact ⟨e, by rw [← hs]; exact List.mem_filter.2 ⟨he, h⟩, by simp [occCmp_refl]⟩
  · rintro ⟨g, h1, h2⟩
    have := occCmp_zero (show occCmp g e = 0 by simpa using h2)
    subst this
    rw [← hs] at h1
    exact (List.mem_filter.1 h1).2
theorem make_sum (k : Nat) (hk : 1000000000000 ≤ k) (o : GOcc) (l : List GOcc) (hl : l.length ≤ 1000000) (hi : Ids l) (ho : IdsOk o.Ids) :
    spec_l4Make.l0 k l k o.From o.To o.Ids 0 = some ((sumM o l).From, (sumM o l).To, (sumM o l).Ids) := by
  have := loop_ret0 (fun s : GOcc => (s.From, s.To, s.Ids)) l (fun s e => spec_l3Join.f k s e) (fun n s i => spec_l4Make.l0 k l n s.From s.To s.Ids i) joinM (fun i s => IdsOk s.Ids)
    (fun n s => by rw [spec_l4Make.l0, if_neg (by omega)])
    (fun n s i h => by
      rw [spec_l4Make.l0, if_pos (by omega), req_pos (by omega), Int.toNat_natCast, List.getElem?_eq_getElem h]
      simp only [Option.bind_some]
      rw [wrS i (by omega)])
    (fun i s h hI => ⟨spec_join_eq k hk s _ (by have := idsOk_len hI; omega) (hi.few _ (List.getElem_mem h)), ids_join hI (hi _ (List.getElem_mem h))⟩) k o (by omega) ho
  exact this.1
theorem make_each (k : Nat) (hk : 1000000000000 ≤ k) (o : GOcc) (l : List GOcc) (hl : l.length ≤ 1000000) (hi : Ids l) (ho : IdsOk o.Ids) : spec_l4Make.l1 k l o k [] 0 = some (eachM o l) := by
  have := loop_fold0 l (fun s e => (spec_l3Join.f k e o).bind fun x => spec_l3Put.f k s x) (spec_l4Make.l1 k l o) (fun s e => putM s (joinM o e)) (fun i s => s.length ≤ i ∧ Ids s)
    (fun n s => by rw [spec_l4Make.l1, if_neg (by omega)])
    (fun n s i h => by
      rw [spec_l4Make.l1, if_pos (by omega), req_pos (by omega), Int.toNat_natCast, List.getElem?_eq_getElem h]
      simp only [Option.bind_some]
      rw [wrS i (by omega), Option.bind_assoc])
    (fun i s h hI => by
      have hx := hi _ (List.getElem_mem h)
      have hj := ids_join ho hx
      refine ⟨by rw [spec_join_eq k hk _ o (hi.few _ (List.getElem_mem h)) (by have := idsOk_len ho; omega), joinM_comm hx ho]; exact spec_put_eq k hk s _ (by omega) hI.2.few (by have := idsOk_len hj; omega), ?_, ids_put hI.2 hj⟩
      have := length_putM (joinM o l[i]) s; omega)
    k [] (by omega) ⟨by simp, fun x hx => by simp at hx⟩
  exact this.1
theorem make_eq (k : Nat) (hk : 1000000000000 ≤ k) (mode : Int) (o : GOcc) (l : List GOcc) (p : GOcc → Bool) (hl : l.length ≤ 1000000) (hi : Ids l) (ho : IdsOk o.Ids) :
    spec_l4Make.f k mode (pickM mode l p) o = some (foundM mode o (l.filter p)) := by
  have hlen : (l.filter p).length ≤ l.length := List.length_filter_le _ _
  have hs : Ids (l.filter p) := fun x hx => hi x (List.mem_filter.1 hx).1
  unfold spec_l4Make.f pickM foundM
  generalize l.filter p = s at hlen hs ⊢
  by_cases h0 : s.length = 0
  · have e : s = [] := List.length_eq_zero_iff.1 h0
    subst e
    simp
  rw [if_neg h0]
  by_cases m1 : mode = 1
  · have hlt : s.length - 1 < s.length := by omega
    have e : s.drop (s.length - 1) = [s[s.length - 1]] := by rw [List.drop_eq_getElem_cons hlt, List.drop_eq_nil_of_le (by omega)]
    rw [if_pos m1, if_pos m1, if_neg (by rw [e]; simp), if_neg (by omega), e, make_each k hk o _ (by simp) (fun x hx => by rw [List.mem_singleton.1 hx]; exact hs _ (List.getElem_mem hlt)) ho, List.getElem?_eq_getElem hlt]
    rfl
  rw [if_neg m1, if_neg m1]
  by_cases m2 : mode = 2
  · cases s with
    | nil => simp at h0
    | cons x t =>
      rw [if_pos m2, if_pos m2, if_neg (by simp), if_neg (by omega), show (x :: t).take 1 = [x] from rfl, make_each k hk o _ (by simp) (fun y hy => by rw [List.mem_singleton.1 hy]; exact hs _ (by simp)) ho]
      rfl
  rw [if_neg m2, if_neg m2, if_neg (by omega)]
  by_cases m4 : mode = 4
  · rw [if_pos m4, if_pos m4, make_sum k hk o s (by omega) hs ho]
    simp only [Option.bind_some]
    rw [req_pos (by simp)]
    rfl
  · rw [if_neg m4, if_neg m4, make_each k hk o s (by omega) hs ho]
    rfl
end Go.Proofs.YtdhlbpgjcfdofaaGreat
