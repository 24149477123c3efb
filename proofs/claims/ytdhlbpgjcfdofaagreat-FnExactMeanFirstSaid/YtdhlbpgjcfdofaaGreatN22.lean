/- Delays; where an event is found; the time of the last event: both programs. -/
import Derived.Test.YtdhlbpgjcfdofaaGreatN21
namespace Go.Proofs.YtdhlbpgjcfdofaaGreat
open Go Go.Vm
set_option linter.unusedVariables false
theorem putM_last {o : GOcc} : ∀ {l : List GOcc}, (∀ x ∈ l, occLess x o = true) → putM l o = l ++ [o]
  | [], _ => rfl
  | y :: l, h => by
    unfold putM
    rw [if_pos (h y (by simp)), putM_last fun x hx => h x (by simp [hx])]
    rfl
theorem asc_snoc {l : List GOcc} {o : GOcc} (h : Asc (l ++ [o])) : ∀ x ∈ l, occLess x o = true := fun x hx => (List.pairwise_append.1 h).2.2 x hx o (by simp)
theorem mergeM_append : ∀ {m l : List GOcc}, Asc (l ++ m) → mergeM l m = l ++ m
  | [], l, _ => by simp [mergeM]
  | y :: m, l, h => by
    have h' : Asc ((l ++ [y]) ++ m) := by simpa using h
    rw [mergeM_cons, putM_last (asc_snoc (List.pairwise_append.1 h').1), mergeM_append h']
    simp
def latM (n : Int) (o : GOcc) : GOcc := ⟨o.From, o.To + n, o.Ids⟩
theorem occLess_iff (a b : GOcc) : occLess a b = true ↔ a.To < b.To ∨ (a.To = b.To ∧ (a.From < b.From ∨ (a.From = b.From ∧ lexCmp a.Ids b.Ids < 0))) := by
  unfold occLess
  rw [decide_eq_true_eq, occCmp_lt]
theorem latM_less (n : Int) (a b : GOcc) : occLess (latM n a) (latM n b) = occLess a b := by
  rw [Bool.eq_iff_iff, occLess_iff, occLess_iff]
  unfold latM
  dsimp only
  constructor
  · rintro (h | ⟨h, h2⟩)
    · exact .inl (by omega)
    · exact .inr ⟨by omega, h2⟩
  · rintro (h | ⟨h, h2⟩)
    · exact .inl (by omega)
    · exact .inr ⟨by omega, h2⟩
def inTime (n till : Int) (o : GOcc) : Bool := decide (o.To + n ≤ till) && decide (o.To + n ≤ 2000)
def latesM (n till : Int) (l : List GOcc) : List GOcc := (l.filter (inTime n till)).map (latM n)
theorem asc_lates {n till : Int} {l : List GOcc} (h : Asc l) : Asc (latesM n till l) := by
  unfold latesM Asc
  rw [List.pairwise_map]
  refine List.Pairwise.imp ?_ (List.Pairwise.sublist List.filter_sublist h)
  intro a b hab
  rw [latM_less]; exact hab
def plusM (n till : Int) (l : List GOcc) : List GOcc × Bool := if occsOk l = true ∧ 1 ≤ n ∧ n ≤ 20 then (latesM n till l, true) else ([], false)
theorem latesM_snoc (n till : Int) (l : List GOcc) (o : GOcc) : latesM n till (l ++ [o]) = if inTime n till o = true then latesM n till l ++ [latM n o] else latesM n till l := by
  unfold latesM
  by_cases h : inTime n till o = true
  · rw [if_pos h, List.filter_append, List.filter_cons_of_pos h]; simp
  · rw [if_neg h, List.filter_append, List.filter_cons_of_neg h]; simp
theorem latesM_len (n till : Int) (l : List GOcc) : (latesM n till l).length ≤ l.length := by unfold latesM; rw [List.length_map]; exact List.length_filter_le _ _
theorem fold_snoc_ind {α σ : Type} (g : σ → α → σ) (P : List α → σ → Prop) (l : List α) (s : σ) (h0 : P [] s) (hs : ∀ i s (h : i < l.length), P (l.take i) s → P (l.take (i + 1)) (g s l[i])) : P l (l.foldl g s) := by
  have := fold_inv g (fun i s => P (l.take i) s) l 0 s (fun j s h hI => by simpa using hs j s h (by simpa using hI)) (by simpa using h0)
  simpa using this
theorem take_snoc {α : Type} (l : List α) (i : Nat) (h : i < l.length) : l.take (i + 1) = l.take i ++ [l[i]] := by
  rw [List.take_add_one, List.getElem?_eq_getElem h]; rfl
theorem latM_few {n : Int} {o : GOcc} (h : Few o) : Few (latM n o) := h
theorem lates_few {n till : Int} {l : List GOcc} (h : Fews l) : Fews (latesM n till l) := fun x hx => by
  unfold latesM at hx
  obtain ⟨y, hy, rfl⟩ := List.mem_map.1 hx
  exact h y (List.mem_filter.1 hy).1
theorem impl_plus_loop (k : Nat) (hk : 1000000000000 ≤ k) (l : List GOcc) (n till : Int) (hn : 1 ≤ n ∧ n ≤ 20) (h : occsOk l = true) : impl_PlusOf.l0 k l n till k [] 0 = some (latesM n till l) := by
  have hl := occsOk_len h
  have q := loop_inv0 (fun s : List GOcc => s) l (impl_PlusOf.l0 k l n till) (fun s o => if inTime n till o = true then s ++ [latM n o] else s) (fun i s => s = latesM n till (l.take i) ∧ s.length ≤ i)
    (fun m s => by rw [impl_PlusOf.l0, if_neg (by omega)])
    (fun m s i hi hI => by
      have ho := occsOk_all h _ (List.getElem_mem hi)
      have hf : Few l[i] := by omega
      refine ⟨?_, ?_, ?_⟩
      · have c1 : impl_later.f l[i] n = some (latM n l[i]) := by
          unfold impl_later.f
          rw [clone_k _ hf]
          simp only [Option.bind_some]
          rw [wr _ (by omega)]; rfl
        rw [impl_PlusOf.l0, if_pos (by omega), req_pos (by omega), Int.toNat_natCast, List.getElem?_eq_getElem hi]
        simp only [Option.bind_some]
        rw [wr (l[i].To + n) (by omega), c1, wrS i (by omega)]
        simp only [Option.bind_some]
        unfold inTime
        by_cases t : 2000 < till
        · rw [if_pos t]
          by_cases u : 2000 < l[i].To + n
          · rw [if_pos u, if_neg (by simp; omega)]
          · rw [if_neg u, req_pos (by omega), if_pos (by simp; omega)]
        · rw [if_neg t]
          by_cases u : till < l[i].To + n
          · rw [if_pos u, if_neg (by simp; omega)]
          · rw [if_neg u, req_pos (by omega), if_pos (by simp; omega)]
      · rw [take_snoc l i hi, latesM_snoc, ← hI.1]
      · split
        · simp; omega
        · omega)
    k [] (by omega) ⟨rfl, by simp⟩
  rw [q.1]
  have := q.2.1
  simpa using this
theorem spec_plus_loop (k : Nat) (hk : 1000000000000 ≤ k) (l : List GOcc) (n till : Int) (hn : 1 ≤ n ∧ n ≤ 20) (h : occsOk l = true) : spec_PlusOf.l0 k l n till k [] 0 = some (latesM n till l) := by
  have hl := occsOk_len h
  have q := loop_inv0 (fun s : List GOcc => s) l (spec_PlusOf.l0 k l n till) (fun s o => if inTime n till o = true then s ++ [latM n o] else s) (fun i s => s = latesM n till (l.take i) ∧ s.length ≤ i)
    (fun m s => by rw [spec_PlusOf.l0, if_neg (by omega)])
    (fun m s i hi hI => by
      have ho := occsOk_all h _ (List.getElem_mem hi)
      have hf : Few l[i] := by omega
      have hs : Fews s := by rw [hI.1]; exact lates_few fun x hx => fews_of_ok h x (List.mem_of_mem_take hx)
      refine ⟨?_, ?_, ?_⟩
      · have c1 : spec_l5Later.f l[i] n = some (latM n l[i]) := by
          unfold spec_l5Later.f
          rw [copy_k _ hf]
          simp only [Option.bind_some]
          rw [wr _ (by omega)]; rfl
        rw [spec_PlusOf.l0, if_pos (by omega), req_pos (by omega), Int.toNat_natCast, List.getElem?_eq_getElem hi]
        simp only [Option.bind_some]
        rw [wr (l[i].To + n) (by omega), c1, wrS i (by omega)]
        simp only [Option.bind_some]
        by_cases t : till < l[i].To + n
        · rw [if_pos t, if_neg (by unfold inTime; simp; omega)]
        rw [if_neg t, req_pos (by omega)]
        by_cases u : 2000 < l[i].To + n
        · rw [if_pos u, if_neg (by unfold inTime; simp; omega)]
        have w : inTime n till l[i] = true := by unfold inTime; simp; omega
        rw [if_neg u, req_pos (by omega), spec_put_eq k hk s _ (by omega) hs (latM_few hf), if_pos w]
        simp only [Option.bind_some]
        have e : latesM n till (l.take (i + 1)) = s ++ [latM n l[i]] := by rw [take_snoc l i hi, latesM_snoc, if_pos w, hI.1]
        rw [putM_last (asc_snoc (by rw [← e]; exact asc_lates (List.Pairwise.sublist (List.take_sublist _ _) (asc_of_ok h))))]
      · rw [take_snoc l i hi, latesM_snoc, ← hI.1]
      · split
        · simp; omega
        · omega)
    k [] (by omega) ⟨rfl, by simp⟩
  rw [q.1]
  have := q.2.1
  simpa using this
theorem impl_PlusOf_eq (k : Nat) (hk : 1000000000000 ≤ k) (l : List GOcc) (n till : Int) (sl : Small l) : impl_PlusOf.f k l n till = some (plusM n till l) := by
  unfold impl_PlusOf.f plusM
  rw [impl_ok_k k hk l sl]
  simp only [Option.bind_some]
  by_cases h : occsOk l = true
  · rw [if_pos h, in_eq]
    simp only [Option.bind_some]
    by_cases hn : 1 ≤ n ∧ n ≤ 20
    · rw [if_pos (by simp [hn]), if_pos ⟨h, hn⟩, impl_plus_loop k hk l n till hn h]; rfl
    · rw [if_neg (by simpa using hn), if_neg (fun x => hn x.2)]
  · rw [if_neg h, if_neg (fun x => h x.1)]
theorem spec_PlusOf_eq (k : Nat) (hk : 1000000000000 ≤ k) (l : List GOcc) (n till : Int) (sl : Small l) : spec_PlusOf.f k l n till = some (plusM n till l) := by
  unfold spec_PlusOf.f plusM
  rw [spec_ok_k k hk l sl]
  simp only [Option.bind_some]
  by_cases h : occsOk l = true
  · rw [if_pos h]
    by_cases h1 : n < 1
    · rw [if_pos h1, if_neg (fun x => by omega)]
    rw [if_neg h1]
    by_cases h2 : 20 < n
    · rw [if_pos h2, if_neg (fun x => by omega)]
    have := latesM_len n till l
    have := occsOk_len h
    rw [if_neg h2, if_pos ⟨h, by omega, by omega⟩, spec_plus_loop k hk l n till ⟨by omega, by omega⟩ h]
    simp only [Option.bind_some]
    rw [told_k k hk _ (by omega) (lates_few (fews_of_ok h))]
    simp only [Option.bind_some]
    unfold told
    rw [if_neg (by omega)]
  · rw [if_neg h, if_neg (fun x => h x.1)]
def symFrom (sym : Int) : Nat → List GEv → List GOcc
  | _, [] => []
  | i, e :: l => if e.Sym = sym then ⟨e.At, e.At, [(i : Int)]⟩ :: symFrom sym (i + 1) l else symFrom sym (i + 1) l
theorem impl_sym_loop (k : Nat) (x : GEx) (l : List GEv) (hl : l.length ≤ 1000000) : ∀ (d i n : Nat) (acc : List GOcc), i + d = l.length → d < n → acc.length ≤ i → impl_Ex_mean.l1 k x l n acc (i : Int) = some (acc ++ symFrom x.Sym i (l.drop i)) := by
  intro d
  induction d with
  | zero =>
    intro i n acc hi hn ha
    obtain ⟨n, rfl⟩ : ∃ m, n = m + 1 := ⟨n - 1, by omega⟩
    rw [impl_Ex_mean.l1, if_neg (by omega), List.drop_eq_nil_of_le (by omega)]
    simp [symFrom]
  | succ d ih =>
    intro i n acc hi hn ha
    obtain ⟨n, rfl⟩ : ∃ m, n = m + 1 := ⟨n - 1, by omega⟩
    have h : i < l.length := by omega
    rw [impl_Ex_mean.l1, if_pos (by omega), req_pos (by omega), Int.toNat_natCast, List.getElem?_eq_getElem h, List.drop_eq_getElem_cons h, symFrom]
    simp only [Option.bind_some]
    rw [wrS i (by omega)]
    by_cases c : l[i].Sym = x.Sym
    · rw [if_pos c, if_pos c, req_pos (by omega), ih (i + 1) n _ (by omega) (by omega) (by simp; omega)]
      simp
    · rw [if_neg c, if_neg c, ih (i + 1) n _ (by omega) (by omega) (by omega)]
theorem spec_sym_loop (k : Nat) (sym : Int) (l : List GEv) (hl : l.length ≤ 1000000) : ∀ (d i n : Nat) (acc : List GOcc), i + d = l.length → d < n → acc.length ≤ i → spec_l6Sym.l0 k sym l n acc (i : Int) = some (acc ++ symFrom sym i (l.drop i)) := by
  intro d
  induction d with
  | zero =>
    intro i n acc hi hn ha
    obtain ⟨n, rfl⟩ : ∃ m, n = m + 1 := ⟨n - 1, by omega⟩
    rw [spec_l6Sym.l0, if_neg (by omega), List.drop_eq_nil_of_le (by omega)]
    simp [symFrom]
  | succ d ih =>
    intro i n acc hi hn ha
    obtain ⟨n, rfl⟩ : ∃ m, n = m + 1 := ⟨n - 1, by omega⟩
    have h : i < l.length := by omega
    rw [spec_l6Sym.l0, if_pos (by omega), req_pos (by omega), Int.toNat_natCast, List.getElem?_eq_getElem h, List.drop_eq_getElem_cons h, symFrom]
    simp only [Option.bind_some]
    rw [wrS i (by omega)]
    by_cases c : l[i].Sym = sym
    · rw [if_pos c, if_pos c]
      repeat rw [req_pos (by omega)]
      rw [ih (i + 1) n _ (by omega) (by omega) (by simp; omega)]
      simp
    · rw [if_neg c, if_neg c, ih (i + 1) n _ (by omega) (by omega) (by omega)]
theorem impl_sym_eq (k : Nat) (hk : 1000000000000 ≤ k) (x : GEx) (l : List GEv) (hl : l.length ≤ 1000000) : impl_Ex_mean.l1 k x l k [] 0 = some (symFrom x.Sym 0 l) := by
  have := impl_sym_loop k x l hl l.length 0 k [] (by omega) (by omega) (by simp)
  rw [show ((0 : Nat) : Int) = 0 from rfl, List.drop_zero, List.nil_append] at this
  exact this
theorem spec_sym_eq (k : Nat) (hk : 1000000000000 ≤ k) (sym : Int) (l : List GEv) (hl : l.length ≤ 1000000) : spec_l6Sym.f k sym l = some (symFrom sym 0 l) := by
  unfold spec_l6Sym.f
  have := spec_sym_loop k sym l hl l.length 0 k [] (by omega) (by omega) (by simp)
  rw [show ((0 : Nat) : Int) = 0 from rfl, List.drop_zero, List.nil_append] at this
  rw [this]; rfl
def endM (l : List GEv) : Int := match l.getLast? with | some e => e.At | none => 0
theorem now_eq (l : List GEv) (hl : l.length ≤ 1000000) : impl_now.f l = some (endM l) ∧ spec_l6End.f l = some (endM l) := by
  have : (if (l.length : Int) = 0 then some (0 : Int) else (req ((0 : Int) ≤ (IntKind.wrap .i64 ((l.length : Int) - 1))) ((l[(IntKind.wrap .i64 ((l.length : Int) - 1)).toNat]?).bind fun e4 => (some e4.At)))) = some (endM l) := by
    unfold endM
    by_cases h : (l.length : Int) = 0
    · have e : l = [] := List.length_eq_zero_iff.1 (by omega)
      subst e; rfl
    · rw [if_neg h, wr _ (by omega), req_pos (by omega), List.getLast?_eq_getElem?, show ((l.length : Int) - 1).toNat = l.length - 1 by omega, List.getElem?_eq_getElem (show l.length - 1 < l.length by omega)]
      rfl
  exact ⟨this, this⟩
end Go.Proofs.YtdhlbpgjcfdofaaGreat
