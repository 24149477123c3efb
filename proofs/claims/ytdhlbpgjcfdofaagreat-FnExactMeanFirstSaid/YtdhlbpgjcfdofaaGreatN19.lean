/- All points in time: sequences, conjunctions, absences, repetitions; what one step of each does. -/
import Derived.Test.YtdhlbpgjcfdofaaGreatN18
namespace Go.Proofs.YtdhlbpgjcfdofaaGreat
open Go Go.Vm
set_option linter.unusedVariables false
theorem loop_inv {α σ τ : Type} (ret : σ → τ) (l : List α) (L : Nat → σ → Int → Option τ) (g : σ → α → σ) (Inv : Nat → σ → Prop)
    (hend : ∀ n s, L (n + 1) s (l.length : Int) = some (ret s))
    (hstep : ∀ n s (i : Nat) (h : i < l.length), Inv i s → L (n + 1) s (i : Int) = L n (g s l[i]) ((i + 1 : Nat) : Int) ∧ Inv (i + 1) (g s l[i])) :
    ∀ (d i n : Nat) (s : σ), i + d = l.length → d < n → Inv i s → L n s (i : Int) = some (ret ((l.drop i).foldl g s)) ∧ Inv l.length ((l.drop i).foldl g s) := by
  intro d
  induction d with
  | zero =>
    intro i n s hi hn hI
    obtain ⟨n, rfl⟩ : ∃ m, n = m + 1 := ⟨n - 1, by omega⟩
    have e : i = l.length := by omega
    subst e
    rw [hend, List.drop_length]
    exact ⟨rfl, hI⟩
  | succ d ih =>
    intro i n s hi hn hI
    obtain ⟨n, rfl⟩ : ∃ m, n = m + 1 := ⟨n - 1, by omega⟩
    have hlt : i < l.length := by omega
    obtain ⟨h1, h2⟩ := hstep n s i hlt hI
    rw [h1, List.drop_eq_getElem_cons hlt]
    exact ih (i + 1) n _ (by omega) (by omega) h2
theorem loop_inv0 {α σ τ : Type} (ret : σ → τ) (l : List α) (L : Nat → σ → Int → Option τ) (g : σ → α → σ) (Inv : Nat → σ → Prop)
    (hend : ∀ n s, L (n + 1) s (l.length : Int) = some (ret s))
    (hstep : ∀ n s (i : Nat) (h : i < l.length), Inv i s → L (n + 1) s (i : Int) = L n (g s l[i]) ((i + 1 : Nat) : Int) ∧ Inv (i + 1) (g s l[i])) (n : Nat) (s : σ) (hn : l.length < n) (hI : Inv 0 s) :
    L n s 0 = some (ret (l.foldl g s)) ∧ Inv l.length (l.foldl g s) := by
  have := loop_inv ret l L g Inv hend hstep l.length 0 n s (by omega) hn hI
  simpa using this
def atM (l : List GOcc) (t : Int) : List GOcc := l.filter fun x => x.To == t
theorem impl_at_eq (k : Nat) (hk : 1000000000000 ≤ k) (l : List GOcc) (t : Int) (hl : l.length ≤ 1000000) : impl_at.f k l t = some (atM l t) := by
  unfold impl_at.f
  rw [those_eq k hk (fun y0 => impl_at_1.f y0 t) (fun x => x.To == t) l hl (fun x hx => rfl)]; rfl
theorem spec_at_eq (k : Nat) (hk : 1000000000000 ≤ k) (l : List GOcc) (t : Int) (hl : l.length ≤ 1000000) : spec_l4At.f k l t = some (atM l t) := by
  unfold spec_l4At.f
  have := loop_inv0 (fun s : List GOcc => s) l (spec_l4At.l0 k l t) (fun s e => if (e.To == t) = true then s ++ [e] else s) (fun i s => s.length ≤ i)
    (fun n s => by rw [spec_l4At.l0, if_neg (by omega)])
    (fun n s i h hI => by
      rw [spec_l4At.l0, if_pos (by omega), req_pos (by omega), Int.toNat_natCast, List.getElem?_eq_getElem h]
      simp only [Option.bind_some]
      by_cases c : l[i].To = t
      · rw [if_pos c, req_pos (by omega)]
        rw [req_pos (by omega), wrS i (by omega), if_pos (by simpa using c)]
        exact ⟨rfl, by simp; omega⟩
      · rw [if_neg c, wrS i (by omega), if_neg (by simpa using c)]
        exact ⟨rfl, by omega⟩)
    k [] (by omega) (by simp)
  rw [this.1, fold_filter]; rfl
theorem atM_len (l : List GOcc) (t : Int) : (atM l t).length ≤ l.length := List.length_filter_le _ _
theorem atM_ids {l : List GOcc} (h : Ids l) (t : Int) : Ids (atM l t) := fun x hx => h x (List.mem_filter.1 hx).1
abbrev Two := List GOcc × List GOcc
/-- what a step leaves behind, in bounds -/
def StepOk (f : Two → List GOcc → List GOcc → Two × List GOcc) : Prop := ∀ (m : Nat) (p : Two) (l r : List GOcc), m ≤ 19000 → Ok m p.1 → Ok m p.2 → Ids l → Ids r → l.length ≤ 40 → r.length ≤ 40 →
  Ok (m + 100) (f p l r).1.1 ∧ Ok (m + 100) (f p l r).1.2 ∧ Ok 2000000 (f p l r).2
def seqF (mode : Int) (p : Two) (l r : List GOcc) : Two × List GOcc := (((seqM mode p.1 l r).1, p.2), (seqM mode p.1 l r).2)
def andF (mode : Int) (p : Two) (l r : List GOcc) : Two × List GOcc := (((andM mode p.1 p.2 l r).1, (andM mode p.1 p.2 l r).2.1), (andM mode p.1 p.2 l r).2.2)
theorem seqF_ok (mode : Int) : StepOk (seqF mode) := fun m p l r hm h1 h2 hl hr nl nr => by
  have := (seq_eq 1000000000000 (Nat.le_refl _) mode ⟨p.1, p.2⟩ l r m (by omega) h1 hl hr (by omega) (by omega)).2
  exact ⟨this.1.mono (by omega), h2.mono (by omega), this.2.mono (by omega)⟩
theorem andF_ok (mode : Int) : StepOk (andF mode) := fun m p l r hm h1 h2 hl hr nl nr => by
  have := (and_eq 1000000000000 (Nat.le_refl _) mode ⟨p.1, p.2⟩ l r m (by omega) h1 h2 hl hr (by omega)).2
  exact ⟨this.1, this.2.1, this.2.2.mono (by omega)⟩
def Step3Ok (f : Two → List GOcc → List GOcc → List GOcc → Two × List GOcc) : Prop := ∀ (m : Nat) (p : Two) (a b c : List GOcc), m ≤ 19000 → Ok m p.1 → Ok m p.2 → Ids a → Ids b → Ids c → a.length ≤ 40 → b.length ≤ 40 → c.length ≤ 40 →
  Ok (m + 100) (f p a b c).1.1 ∧ Ok (m + 100) (f p a b c).1.2 ∧ Ok 2000000 (f p a b c).2
def notF (mode : Int) (p : Two) (a b c : List GOcc) : Two × List GOcc := (((notM mode p.1 p.2 a b c).1, (notM mode p.1 p.2 a b c).2.1), (notM mode p.1 p.2 a b c).2.2)
def eachF (mode : Int) (p : Two) (a b c : List GOcc) : Two × List GOcc := (((eachStep mode p.1 p.2 a b c).1, (eachStep mode p.1 p.2 a b c).2.1), (eachStep mode p.1 p.2 a b c).2.2)
theorem notF_ok (mode : Int) : Step3Ok (notF mode) := fun m p a b c hm h1 h2 ha hb hc na nb nc => by
  have := (not_eq 1000000000000 (Nat.le_refl _) mode ⟨p.1, p.2⟩ a b c m (by omega) h1 h2 ha hb hc (by omega) (by omega) (by omega)).2
  exact ⟨this.1.mono (by omega), this.2.1.mono (by omega), this.2.2.mono (by omega)⟩
theorem eachF_ok (mode : Int) : Step3Ok (eachF mode) := fun m p a b c hm h1 h2 ha hb hc na nb nc => by
  have := (each_eq 1000000000000 (Nat.le_refl _) mode ⟨p.1, p.2⟩ a b c m (by omega) h1 h2 ha hb hc (by omega) (by omega) (by omega)).2
  exact ⟨this.1.mono (by omega), this.2.1.mono (by omega), this.2.2.mono (by omega)⟩
theorem length_uniq : ∀ l : List Int, (uniq l).length ≤ l.length
  | [] => by simp [uniq]
  | [x] => by simp [uniq]
  | x :: y :: l => by
    have := length_uniq (y :: l)
    unfold uniq
    split
    · simp only [List.length_cons] at this ⊢; omega
    · simp only [List.length_cons] at this ⊢; omega
theorem times_uniq {ls : List (List GOcc)} (ht : ∀ l ∈ ls, ∀ o ∈ l, 1 ≤ o.To ∧ o.To ≤ 2000) : uniq (sortM (ls.map fun l => l.map (·.To)).flatten) = timesM ls := by
  refine up_ext (up_uniq (sortM_le _)) (up_timesM ls) fun t => ?_
  rw [mem_uniq, mem_sortM, mem_timesM]
  simp only [List.mem_flatten, List.mem_map]
  constructor
  · rintro ⟨_, ⟨l, h1, rfl⟩, h2⟩
    obtain ⟨o, h3, rfl⟩ := List.mem_map.1 h2
    exact ⟨ht l h1 o h3, l, h1, o, h3, rfl⟩
  · rintro ⟨_, l, h1, o, h2, rfl⟩
    exact ⟨_, ⟨l, h1, rfl⟩, List.mem_map.2 ⟨o, h2, rfl⟩⟩
theorem timesM_len {ls : List (List GOcc)} (ht : ∀ l ∈ ls, ∀ o ∈ l, 1 ≤ o.To ∧ o.To ≤ 2000) : (timesM ls).length ≤ (ls.map fun l => l.map (·.To)).flatten.length := by
  rw [← times_uniq ht]
  have := length_uniq (sortM (ls.map fun l => l.map (·.To)).flatten)
  rw [length_sortM] at this
  exact this
def runM {σ : Type} (f : σ → Int → σ × List GOcc) (s : σ × List GOcc) (t : Int) : σ × List GOcc := ((f s.1 t).1, mergeM s.2 (f s.1 t).2)
def pairM (f : Two → List GOcc → List GOcc → Two × List GOcc) (a b : List GOcc) : List GOcc := ((timesM [a, b]).foldl (runM fun p t => f p (atM a t) (atM b t)) (([], []), [])).2
def spanM (f : Two → List GOcc → List GOcc → List GOcc → Two × List GOcc) (a b c : List GOcc) : List GOcc := ((timesM [a, b, c]).foldl (runM fun p t => f p (atM a t) (atM b t) (atM c t)) (([], []), [])).2
def RunInv (i : Nat) (s : Two × List GOcc) : Prop := Ok (100 * i) s.1.1 ∧ Ok (100 * i) s.1.2 ∧ Ok (2000000 * i) s.2
theorem RunInv.start : RunInv 0 (([], []), []) := ⟨Ok.nil _, Ok.nil _, Ok.nil _⟩
theorem RunInv.pair {f : Two → List GOcc → List GOcc → Two × List GOcc} (hf : StepOk f) {a b : List GOcc} (ha : occsOk a = true) (hb : occsOk b = true) {i : Nat} (hi : i ≤ 120) {s : Two × List GOcc} {t : Int} (h : RunInv i s) :
    RunInv (i + 1) (runM (fun p t => f p (atM a t) (atM b t)) s t) ∧ Ok 2000000 (f s.1 (atM a t) (atM b t)).2 := by
  have := occsOk_len ha; have := occsOk_len hb; have := atM_len a t; have := atM_len b t
  have q := hf (100 * i) s.1 (atM a t) (atM b t) (by omega) h.1 h.2.1 (atM_ids (ids_of_ok ha) t) (atM_ids (ids_of_ok hb) t) (by omega) (by omega)
  exact ⟨⟨q.1.mono (by omega), q.2.1.mono (by omega), (h.2.2.merge q.2.2).mono (by omega)⟩, q.2.2⟩
theorem RunInv.span {f : Two → List GOcc → List GOcc → List GOcc → Two × List GOcc} (hf : Step3Ok f) {a b c : List GOcc} (ha : occsOk a = true) (hb : occsOk b = true) (hc : occsOk c = true) {i : Nat} (hi : i ≤ 120) {s : Two × List GOcc} {t : Int} (h : RunInv i s) :
    RunInv (i + 1) (runM (fun p t => f p (atM a t) (atM b t) (atM c t)) s t) ∧ Ok 2000000 (f s.1 (atM a t) (atM b t) (atM c t)).2 := by
  have := occsOk_len ha; have := occsOk_len hb; have := occsOk_len hc; have := atM_len a t; have := atM_len b t; have := atM_len c t
  have q := hf (100 * i) s.1 (atM a t) (atM b t) (atM c t) (by omega) h.1 h.2.1 (atM_ids (ids_of_ok ha) t) (atM_ids (ids_of_ok hb) t) (atM_ids (ids_of_ok hc) t) (by omega) (by omega) (by omega)
  exact ⟨⟨q.1.mono (by omega), q.2.1.mono (by omega), (h.2.2.merge q.2.2).mono (by omega)⟩, q.2.2⟩
theorem tos_ok {l : List GOcc} (h : occsOk l = true) : ∀ o ∈ l, 1 ≤ o.To ∧ o.To ≤ 2000 := fun o ho => by have := occsOk_all h o ho; omega
theorem times_len2 {a b : List GOcc} (ha : occsOk a = true) (hb : occsOk b = true) : (timesM [a, b]).length ≤ 80 := by
  have q := timesM_len (ls := [a, b]) (fun l hl => by
    simp only [List.mem_cons, List.not_mem_nil, or_false] at hl
    rcases hl with rfl | rfl
    · exact tos_ok ha
    · exact tos_ok hb)
  have := occsOk_len ha; have := occsOk_len hb
  simp at q
  omega
theorem times_len3 {a b c : List GOcc} (ha : occsOk a = true) (hb : occsOk b = true) (hc : occsOk c = true) : (timesM [a, b, c]).length ≤ 120 := by
  have q := timesM_len (ls := [a, b, c]) (fun l hl => by
    simp only [List.mem_cons, List.not_mem_nil, or_false] at hl
    rcases hl with rfl | rfl | rfl
    · exact tos_ok ha
    · exact tos_ok hb
    · exact tos_ok hc)
  have := occsOk_len ha; have := occsOk_len hb; have := occsOk_len hc
  simp at q
  omega
end Go.Proofs.YtdhlbpgjcfdofaaGreat
