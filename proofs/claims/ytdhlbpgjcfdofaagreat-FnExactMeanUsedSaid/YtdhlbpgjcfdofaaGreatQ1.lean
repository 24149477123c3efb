/- Plain lemmas about the functions over data; second part. -/
import Derived.Test.YtdhlbpgjcfdofaaGreatQ0
namespace Go.Proofs.YtdhlbpgjcfdofaaGreat
open Go Go.Vm
set_option linter.unusedVariables false
set_option linter.unusedSimpArgs false
/- Delays; where an event is found; the time of the last event: both programs. -/
theorem putM_last {o : GOcc} : ∀ {l : List GOcc}, (∀ x ∈ l, occLess x o = true) → putM l o = l ++ [o]
  | [], _ => rfl
  | y :: l, h => by
    unfold putM
    rw [if_pos (h y (by simp)), putM_last fun x hx => h x (by simp [hx])]
    rfl
theorem asc_snoc {l : List GOcc} {o : GOcc} (h : Asc (l ++ [o])) : ∀ x ∈ l, occLess x o = true := fun x hx => (List.pairwise_append.1 h).2.2 x hx o (by simp)
theorem mergeM_append : ∀ {m l : List GOcc}, Asc (l ++ m) → mergeM l m = l ++ m
  | [], l, _ => by simp [mergeM]
  | y :: m, l, h => by
    have h' : Asc ((l ++ [y]) ++ m) := by simpa using h
    rw [mergeM_cons, putM_last (asc_snoc (List.pairwise_append.1 h').1), mergeM_append h']
    simp
def latM (n : Int) (o : GOcc) : GOcc := ⟨o.From, o.To + n, o.Ids⟩
theorem occLess_iff (a b : GOcc) : occLess a b = true ↔ a.To < b.To ∨ (a.To = b.To ∧ (a.From < b.From ∨ (a.From = b.From ∧ lexCmp a.Ids b.Ids < 0))) := by
  unfold occLess
  rw [decide_eq_true_eq, occCmp_lt]
theorem latM_less (n : Int) (a b : GOcc) : occLess (latM n a) (latM n b) = occLess a b := by
  rw [Bool.eq_iff_iff, occLess_iff, occLess_iff]
  unfold latM
  dsimp only
  constructor
  · rintro (h | ⟨h, h2⟩)
    · exact .inl (by omega)
    · exact .inr ⟨by omega, h2⟩
  · rintro (h | ⟨h, h2⟩)
    · exact .inl (by omega)
    · exact .inr ⟨by omega, h2⟩
def inTime (n till : Int) (o : GOcc) : Bool := decide (o.To + n ≤ till) && decide (o.To + n ≤ 2000)
def latesM (n till : Int) (l : List GOcc) : List GOcc := (l.filter (inTime n till)).map (latM n)
theorem asc_lates {n till : Int} {l : List GOcc} (h : Asc l) : Asc (latesM n till l) := by
  unfold latesM Asc
  rw [List.pairwise_map]
  refine List.Pairwise.imp ?_ (List.Pairwise.sublist List.filter_sublist h)
  intro a b hab
  rw [latM_less]; exact hab
def plusM (n till : Int) (l : List GOcc) : List GOcc × Bool := if occsOk l = true ∧ 1 ≤ n ∧ n ≤ 20 then (latesM n till l, true) else ([], false)
theorem latesM_snoc (n till : Int) (l : List GOcc) (o : GOcc) : latesM n till (l ++ [o]) = if inTime n till o = true then latesM n till l ++ [latM n o] else latesM n till l := by
  unfold latesM
  by_cases h : inTime n till o = true
  · rw [if_pos h, List.filter_append, List.filter_cons_of_pos h]; simp
  · rw [if_neg h, List.filter_append, List.filter_cons_of_neg h]; simp
theorem latesM_len (n till : Int) (l : List GOcc) : (latesM n till l).length ≤ l.length := by unfold latesM; rw [List.length_map]; exact List.length_filter_le _ _
theorem fold_snoc_ind {α σ : Type} (g : σ → α → σ) (P : List α → σ → Prop) (l : List α) (s : σ) (h0 : P [] s) (hs : ∀ i s (h : i < l.length), P (l.take i) s → P (l.take (i + 1)) (g s l[i])) : P l (l.foldl g s) := by
  have := fold_inv g (fun i s => P (l.take i) s) l 0 s (fun j s h hI => by simpa using hs j s h (by simpa using hI)) (by simpa using h0)
  simpa using this
theorem take_snoc {α : Type} (l : List α) (i : Nat) (h : i < l.length) : l.take (i + 1) = l.take i ++ [l[i]] := by
  rw [List.take_add_one, List.getElem?_eq_getElem h]; rfl
theorem latM_few {n : Int} {o : GOcc} (h : Few o) : Few (latM n o) := h
theorem lates_few {n till : Int} {l : List GOcc} (h : Fews l) : Fews (latesM n till l) := fun x hx => by
  unfold latesM at hx
  obtain ⟨y, hy, rfl⟩ := List.mem_map.1 hx
  exact h y (List.mem_filter.1 hy).1
theorem impl_plus_loop (k : Nat) (hk : 1000000000000 ≤ k) (l : List GOcc) (n till : Int) (hn : 1 ≤ n ∧ n ≤ 20) (h : occsOk l = true) : impl_PlusOf.l0 k l n till k [] 0 = some (latesM n till l) := by
  have hl := occsOk_len h
  have q := loop_inv0 (fun s : List GOcc => s) l (impl_PlusOf.l0 k l n till) (fun s o => if inTime n till o = true then s ++ [latM n o] else s) (fun i s => s = latesM n till (l.take i) ∧ s.length ≤ i)
    (fun m s => by rw [impl_PlusOf.l0, if_neg (by omega)])
    (fun m s i hi hI => by
      have ho := occsOk_all h _ (List.getElem_mem hi)
      have hf : Few l[i] := by omega
      refine ⟨?_, ?_, ?_⟩
      · have c1 : impl_later.f l[i] n = some (latM n l[i]) := by
          unfold impl_later.f
          rw [clone_k _ hf]
          simp only [Option.bind_some]
          rw [wr _ (by omega)]; rfl
        rw [impl_PlusOf.l0, if_pos (by omega), req_pos (by omega), Int.toNat_natCast, List.getElem?_eq_getElem hi]
        simp only [Option.bind_some]
        rw [wr (l[i].To + n) (by omega), c1, wrS i (by omega)]
        simp only [Option.bind_some]
        unfold inTime
        by_cases t : 2000 < till
        · rw [if_pos t]
          by_cases u : 2000 < l[i].To + n
          · rw [if_pos u, if_neg (by simp; omega)]
          · rw [if_neg u, req_pos (by omega), if_pos (by simp; omega)]
        · rw [if_neg t]
          by_cases u : till < l[i].To + n
          · rw [if_pos u, if_neg (by simp; omega)]
          · rw [if_neg u, req_pos (by omega), if_pos (by simp; omega)]
      · rw [take_snoc l i hi, latesM_snoc, ← hI.1]
      · split
        · simp; omega
        · omega)
    k [] (by omega) ⟨rfl, by simp⟩
  rw [q.1]
  have := q.2.1
  simpa using this
theorem spec_plus_loop (k : Nat) (hk : 1000000000000 ≤ k) (l : List GOcc) (n till : Int) (hn : 1 ≤ n ∧ n ≤ 20) (h : occsOk l = true) : spec_PlusOf.l0 k l n till k [] 0 = some (latesM n till l) := by
  have hl := occsOk_len h
  have q := loop_inv0 (fun s : List GOcc => s) l (spec_PlusOf.l0 k l n till) (fun s o => if inTime n till o = true then s ++ [latM n o] else s) (fun i s => s = latesM n till (l.take i) ∧ s.length ≤ i)
    (fun m s => by rw [spec_PlusOf.l0, if_neg (by omega)])
    (fun m s i hi hI => by
      have ho := occsOk_all h _ (List.getElem_mem hi)
      have hf : Few l[i] := by omega
      have hs : Fews s := by rw [hI.1]; exact lates_few fun x hx => fews_of_ok h x (List.mem_of_mem_take hx)
      refine ⟨?_, ?_, ?_⟩
      · have c1 : spec_l5Later.f l[i] n = some (latM n l[i]) := by
          unfold spec_l5Later.f
          rw [copy_k _ hf]
          simp only [Option.bind_some]
          rw [wr _ (by omega)]; rfl
        rw [spec_PlusOf.l0, if_pos (by omega), req_pos (by omega), Int.toNat_natCast, List.getElem?_eq_getElem hi]
        simp only [Option.bind_some]
        rw [wr (l[i].To + n) (by omega), c1, wrS i (by omega)]
        simp only [Option.bind_some]
        by_cases t : till < l[i].To + n
        · rw [if_pos t, if_neg (by unfold inTime; simp; omega)]
        rw [if_neg t, req_pos (by omega)]
        by_cases u : 2000 < l[i].To + n
        · rw [if_pos u, if_neg (by unfold inTime; simp; omega)]
        have w : inTime n till l[i] = true := by unfold inTime; simp; omega
        rw [if_neg u, req_pos (by omega), spec_put_eq k hk s _ (by omega) hs (latM_few hf), if_pos w]
        simp only [Option.bind_some]
        have e : latesM n till (l.take (i + 1)) = s ++ [latM n l[i]] := by rw [take_snoc l i hi, latesM_snoc, if_pos w, hI.1]
        rw [putM_last (asc_snoc (by rw [← e]; exact asc_lates (List.Pairwise.sublist (List.take_sublist _ _) (asc_of_ok h))))]
      · rw [take_snoc l i hi, latesM_snoc, ← hI.1]
      · split
        · simp; omega
        · omega)
    k [] (by omega) ⟨rfl, by simp⟩
  rw [q.1]
  have := q.2.1
  simpa using this
theorem impl_PlusOf_eq (k : Nat) (hk : 1000000000000 ≤ k) (l : List GOcc) (n till : Int) (sl : Small l) : impl_PlusOf.f k l n till = some (plusM n till l) := by
  unfold impl_PlusOf.f plusM
  rw [impl_ok_k k hk l sl]
  simp only [Option.bind_some]
  by_cases h : occsOk l = true
  · rw [if_pos h, in_eq]
    simp only [Option.bind_some]
    by_cases hn : 1 ≤ n ∧ n ≤ 20
    · rw [if_pos (by simp [hn]), if_pos ⟨h, hn⟩, impl_plus_loop k hk l n till hn h]; rfl
    · rw [if_neg (by simpa using hn), if_neg (fun x => hn x.2)]
  · rw [if_neg h, if_neg (fun x => h x.1)]
theorem spec_PlusOf_eq (k : Nat) (hk : 1000000000000 ≤ k) (l : List GOcc) (n till : Int) (sl : Small l) : spec_PlusOf.f k l n till = some (plusM n till l) := by
  unfold spec_PlusOf.f plusM
  rw [spec_ok_k k hk l sl]
  simp only [Option.bind_some]
  by_cases h : occsOk l = true
  · rw [if_pos h]
    by_cases h1 : n < 1
    · rw [if_pos h1, if_neg (fun x => by omega)]
    rw [if_neg h1]
    by_cases h2 : 20 < n
    · rw [if_pos h2, if_neg (fun x => by omega)]
    have := latesM_len n till l
    have := occsOk_len h
    rw [if_neg h2, if_pos ⟨h, by omega, by omega⟩, spec_plus_loop k hk l n till ⟨by omega, by omega⟩ h]
    simp only [Option.bind_some]
    rw [told_k k hk _ (by omega) (lates_few (fews_of_ok h))]
    simp only [Option.bind_some]
    unfold told
    rw [if_neg (by omega)]
  · rw [if_neg h, if_neg (fun x => h x.1)]
def symFrom (sym : Int) : Nat → List GEv → List GOcc
  | _, [] => []
  | i, e :: l => if e.Sym = sym then ⟨e.At, e.At, [(i : Int)]⟩ :: symFrom sym (i + 1) l else symFrom sym (i + 1) l
theorem impl_sym_loop (k : Nat) (x : GEx) (l : List GEv) (hl : l.length ≤ 1000000) : ∀ (d i n : Nat) (acc : List GOcc), i + d = l.length → d < n → acc.length ≤ i → impl_Ex_mean.l1 k x l n acc (i : Int) = some (acc ++ symFrom x.Sym i (l.drop i)) := by
  intro d
  induction d with
  | zero =>
    intro i n acc hi hn ha
    obtain ⟨n, rfl⟩ : ∃ m, n = m + 1 := ⟨n - 1, by omega⟩
    rw [impl_Ex_mean.l1, if_neg (by omega), List.drop_eq_nil_of_le (by omega)]
    simp [symFrom]
  | succ d ih =>
    intro i n acc hi hn ha
    obtain ⟨n, rfl⟩ : ∃ m, n = m + 1 := ⟨n - 1, by omega⟩
    have h : i < l.length := by omega
    rw [impl_Ex_mean.l1, if_pos (by omega), req_pos (by omega), Int.toNat_natCast, List.getElem?_eq_getElem h, List.drop_eq_getElem_cons h, symFrom]
    simp only [Option.bind_some]
    rw [wrS i (by omega)]
    by_cases c : l[i].Sym = x.Sym
    · rw [if_pos c, if_pos c, req_pos (by omega), ih (i + 1) n _ (by omega) (by omega) (by simp; omega)]
      simp
    · rw [if_neg c, if_neg c, ih (i + 1) n _ (by omega) (by omega) (by omega)]
theorem spec_sym_loop (k : Nat) (sym : Int) (l : List GEv) (hl : l.length ≤ 1000000) : ∀ (d i n : Nat) (acc : List GOcc), i + d = l.length → d < n → acc.length ≤ i → spec_l6Sym.l0 k sym l n acc (i : Int) = some (acc ++ symFrom sym i (l.drop i)) := by
  intro d
  induction d with
  | zero =>
    intro i n acc hi hn ha
    obtain ⟨n, rfl⟩ : ∃ m, n = m + 1 := ⟨n - 1, by omega⟩
    rw [spec_l6Sym.l0, if_neg (by omega), List.drop_eq_nil_of_le (by omega)]
    simp [symFrom]
  | succ d ih =>
    intro i n acc hi hn ha
    obtain ⟨n, rfl⟩ : ∃ m, n = m + 1 := ⟨n - 1, by omega⟩
    have h : i < l.length := by omega
    rw [spec_l6Sym.l0, if_pos (by omega), req_pos (by omega), Int.toNat_natCast, List.getElem?_eq_getElem h, List.drop_eq_getElem_cons h, symFrom]
    simp only [Option.bind_some]
    rw [wrS i (by omega)]
    by_cases c : l[i].Sym = sym
    · rw [if_pos c, if_pos c]
      repeat rw [req_pos (by omega)]
      rw [ih (i + 1) n _ (by omega) (by omega) (by simp; omega)]
      simp
    · rw [if_neg c, if_neg c, ih (i + 1) n _ (by omega) (by omega) (by omega)]
theorem impl_sym_eq (k : Nat) (hk : 1000000000000 ≤ k) (x : GEx) (l : List GEv) (hl : l.length ≤ 1000000) : impl_Ex_mean.l1 k x l k [] 0 = some (symFrom x.Sym 0 l) := by
  have := impl_sym_loop k x l hl l.length 0 k [] (by omega) (by omega) (by simp)
  rw [show ((0 : Nat) : Int) = 0 from rfl, List.drop_zero, List.nil_append] at this
  exact this
theorem spec_sym_eq (k : Nat) (hk : 1000000000000 ≤ k) (sym : Int) (l : List GEv) (hl : l.length ≤ 1000000) : spec_l6Sym.f k sym l = some (symFrom sym 0 l) := by
  unfold spec_l6Sym.f
  have := spec_sym_loop k sym l hl l.length 0 k [] (by omega) (by omega) (by simp)
  rw [show ((0 : Nat) : Int) = 0 from rfl, List.drop_zero, List.nil_append] at this
  rw [this]; rfl
def endM (l : List GEv) : Int := match l.getLast? with | some e => e.At | none => 0
theorem now_eq (l : List GEv) (hl : l.length ≤ 1000000) : impl_now.f l = some (endM l) ∧ spec_l6End.f l = some (endM l) := by
  have : (if (l.length : Int) = 0 then some (0 : Int) else (req ((0 : Int) ≤ (IntKind.wrap .i64 ((l.length : Int) - 1))) ((l[(IntKind.wrap .i64 ((l.length : Int) - 1)).toNat]?).bind fun e4 => (some e4.At)))) = some (endM l) := by
    unfold endM
    by_cases h : (l.length : Int) = 0
    · have e : l = [] := List.length_eq_zero_iff.1 (by omega)
      subst e; rfl
    · rw [if_neg h, wr _ (by omega), req_pos (by omega), List.getLast?_eq_getElem?, show ((l.length : Int) - 1).toNat = l.length - 1 by omega, List.getElem?_eq_getElem (show l.length - 1 < l.length by omega)]
      rfl
  exact ⟨this, this⟩
/- Trees: how many nodes, induction. -/
mutual
/-- how many nodes -/
def exN : GEx → Nat
  | ⟨_, _, _, ks⟩ => 1 + exNs ks
def exNs : List GEx → Nat
  | [] => 0
  | x :: xs => exN x + exNs xs
end
theorem exNs_nil : exNs [] = 0 := by simp only [exNs]
theorem exNs_cons (x : GEx) (xs : List GEx) : exNs (x :: xs) = exN x + exNs xs := by simp only [exNs]
theorem exN_eq (e : GEx) : exN e = 1 + exNs e.Kids := by cases e; simp only [exN]
theorem exNs_len : ∀ l : List GEx, l.length ≤ exNs l
  | [] => by simp [exNs_nil]
  | x :: xs => by have := exNs_len xs; rw [exNs_cons, exN_eq]; simp only [List.length_cons]; omega
theorem exNs_mem {e : GEx} : ∀ {l : List GEx}, e ∈ l → exN e ≤ exNs l
  | x :: xs, h => by
    rw [exNs_cons]
    rcases List.mem_cons.1 h with rfl | h
    · omega
    · have := exNs_mem h; omega
mutual
theorem exInd {P : GEx → Prop} (h : ∀ e : GEx, (∀ x ∈ e.Kids, P x) → P e) : ∀ e, P e
  | ⟨a, b, c, ks⟩ => h ⟨a, b, c, ks⟩ (exIndS h ks)
theorem exIndS {P : GEx → Prop} (h : ∀ e : GEx, (∀ x ∈ e.Kids, P x) → P e) : ∀ l : List GEx, ∀ x ∈ l, P x
  | [], _, hx => by simp at hx
  | y :: ys, x, hx => by
    rcases List.mem_cons.1 hx with e | hx
    · rw [e]; exact exInd h y
    · exact exIndS h ys x hx
end
mutual
/-- lengths that memory can hold, all the way down -/
def exSm : GEx → Prop
  | ⟨_, _, _, ks⟩ => ks.length < 4611686018427387904 ∧ exSms ks
def exSms : List GEx → Prop
  | [] => True
  | x :: xs => exSm x ∧ exSms xs
end
theorem exSms_mem {e : GEx} : ∀ {l : List GEx}, exSms l → e ∈ l → exSm e
  | x :: xs, hs, h => by
    simp only [exSms] at hs
    rcases List.mem_cons.1 h with rfl | h
    · exact hs.1
    · exact exSms_mem hs.2 h
theorem exSm_eq {e : GEx} (h : exSm e) : e.Kids.length < 4611686018427387904 ∧ ∀ x ∈ e.Kids, exSm x := by
  cases e; simp only [exSm] at h; exact ⟨h.1, fun x hx => exSms_mem h.2 hx⟩
/- Trees: which are well formed, in both programs. -/
def kidsN (a : Int) : Int := if a = 1 then 0 else if a = 7 then 1 else if a = 2 then 2 else if a = 3 then 2 else if a = 4 then 2 else if a = 5 then 3 else if a = 6 then 3 else -1
theorem l2Kids_eq (a : Int) : spec_l2Kids.f a = some (kidsN a) := by
  unfold spec_l2Kids.f kidsN
  repeat' split
  all_goals rfl
def exHere (e : GEx) : Bool := decide (kidsN e.Kind = (e.Kids.length : Int)) && decide (0 ≤ e.Sym) && decide (e.Sym < 5) && (decide (e.Kind = 1) || decide (e.Sym = 0)) && (if e.Kind = 7 then decide (1 ≤ e.N) && decide (e.N ≤ 20) else decide (e.N = 0))
mutual
def exForm : GEx → Bool
  | ⟨a, b, c, ks⟩ => exHere ⟨a, b, c, ks⟩ && exForms ks
def exForms : List GEx → Bool
  | [] => true
  | x :: xs => exForm x && exForms xs
end
mutual
def exD : GEx → Nat
  | ⟨_, _, _, ks⟩ => 1 + exDs ks
def exDs : List GEx → Nat
  | [] => 0
  | x :: xs => max (exD x) (exDs xs)
end
theorem exForm_eq (e : GEx) : exForm e = (exHere e && exForms e.Kids) := by cases e; simp only [exForm]
theorem exD_eq (e : GEx) : exD e = 1 + exDs e.Kids := by cases e; simp only [exD]
theorem exForms_all : ∀ l : List GEx, exForms l = l.all exForm
  | [] => by simp only [exForms]; rfl
  | x :: xs => by simp only [exForms, exForms_all xs, List.all_cons]
theorem exDs_le : ∀ (l : List GEx) (d : Nat), exDs l ≤ d ↔ ∀ x ∈ l, exD x ≤ d
  | [], d => by simp [exDs]
  | x :: xs, d => by
    simp only [exDs, Nat.max_le, exDs_le xs d, List.mem_cons]
    exact ⟨fun h y hy => hy.elim (fun e => e ▸ h.1) (h.2 y), fun h => ⟨h x (.inl rfl), fun y hy => h y (.inr hy)⟩⟩
/-- well formed, no deeper than d -/
def formD : Nat → GEx → Bool
  | 0, _ => false
  | d + 1, e => exHere e && e.Kids.all (formD d)
theorem formD_eq : ∀ (d : Nat) (e : GEx), formD d e = (decide (exD e ≤ d) && exForm e)
  | 0, e => by rw [exD_eq]; simp [formD]
  | d + 1, e => by
    rw [formD, exForm_eq, exForms_all, exD_eq]
    have h : e.Kids.all (formD d) = (decide (1 + exDs e.Kids ≤ d + 1) && e.Kids.all exForm) := by
      rw [Bool.eq_iff_iff]
      simp only [List.all_eq_true, Bool.and_eq_true, decide_eq_true_eq, formD_eq d]
      constructor
      · intro h
        refine ⟨?_, fun x hx => (h x hx).2⟩
        have := (exDs_le e.Kids d).2 fun x hx => (h x hx).1
        omega
      · rintro ⟨h1, h2⟩ x hx
        exact ⟨(exDs_le e.Kids d).1 (by omega) x hx, h2 x hx⟩
    rw [h]
    cases exHere e <;> cases decide (1 + exDs e.Kids ≤ d + 1) <;> rfl
theorem l2Form_loops (k : Nat) (rec' : GEx → Int → Option Bool) (e : GEx) (q : Int) (g : GEx → Bool) (hl : e.Kids.length < 4611686018427387904) (H : ∀ x ∈ e.Kids, rec' x (IntKind.wrap .i64 (q - 1)) = some (g x)) :
    ∀ (d n i : Nat), i + d = e.Kids.length → d < n →
      spec_l2Form.l0 k rec' e q n (i : Int) = some (if (e.Kids.drop i).all g then .ok () else .error false) ∧
      spec_l2Form.l1 k rec' e q n (i : Int) = some (if (e.Kids.drop i).all g then .ok () else .error false) ∧
      spec_l2Form.l2 k rec' e q n (i : Int) = some (if (e.Kids.drop i).all g then .ok () else .error false) ∧
      spec_l2Form.l3 k rec' e q n (i : Int) = some (if (e.Kids.drop i).all g then .ok () else .error false) := by
  intro d
  induction d with
  | zero =>
    intro n i hi hn
    obtain ⟨n, rfl⟩ : ∃ m, n = m + 1 := ⟨n - 1, by omega⟩
    rw [List.drop_eq_nil_of_le (by omega)]
    exact ⟨by rw [spec_l2Form.l0, if_neg (by omega)]; rfl, by rw [spec_l2Form.l1, if_neg (by omega)]; rfl, by rw [spec_l2Form.l2, if_neg (by omega)]; rfl, by rw [spec_l2Form.l3, if_neg (by omega)]; rfl⟩
  | succ d ih =>
    intro n i hi hn
    obtain ⟨n, rfl⟩ : ∃ m, n = m + 1 := ⟨n - 1, by omega⟩
    have hlt : i < e.Kids.length := by omega
    obtain ⟨i0, i1, i2, i3⟩ := ih n (i + 1) (by omega) (by omega)
    rw [List.drop_eq_getElem_cons hlt, List.all_cons]
    refine ⟨?_, ?_, ?_, ?_⟩
    · rw [spec_l2Form.l0, if_pos (by omega), req_pos (by omega), Int.toNat_natCast, List.getElem?_eq_getElem hlt]
      simp only [Option.bind_some, H e.Kids[i] (List.getElem_mem hlt)]
      cases g e.Kids[i]
      · rfl
      · rw [if_pos rfl, wrS i (by omega), i0, Bool.true_and]
    · rw [spec_l2Form.l1, if_pos (by omega), req_pos (by omega), Int.toNat_natCast, List.getElem?_eq_getElem hlt]
      simp only [Option.bind_some, H e.Kids[i] (List.getElem_mem hlt)]
      cases g e.Kids[i]
      · rfl
      · rw [if_pos rfl, wrS i (by omega), i1, Bool.true_and]
    · rw [spec_l2Form.l2, if_pos (by omega), req_pos (by omega), Int.toNat_natCast, List.getElem?_eq_getElem hlt]
      simp only [Option.bind_some, H e.Kids[i] (List.getElem_mem hlt)]
      cases g e.Kids[i]
      · rfl
      · rw [if_pos rfl, wrS i (by omega), i2, Bool.true_and]
    · rw [spec_l2Form.l3, if_pos (by omega), req_pos (by omega), Int.toNat_natCast, List.getElem?_eq_getElem hlt]
      simp only [Option.bind_some, H e.Kids[i] (List.getElem_mem hlt)]
      cases g e.Kids[i]
      · rfl
      · rw [if_pos rfl, wrS i (by omega), i3, Bool.true_and]
theorem l2Form_k : ∀ (d : Nat) (e : GEx) (k : Nat), d ≤ 5 → exN e ≤ 1048577 → 3 * exN e ≤ k → spec_l2Form.f k e (d : Int) = some (formD d e)
  | 0, e, k, hd, hs, hk => by
    rw [exN_eq] at hk
    obtain ⟨k, rfl⟩ : ∃ m, k = m + 1 := ⟨k - 1, by omega⟩
    rw [spec_l2Form.f, if_pos (by decide)]; rfl
  | d + 1, e, k, hd, hs, hk => by
    rw [exN_eq] at hk hs
    have hq := exNs_len e.Kids
    obtain ⟨k, rfl⟩ : ∃ m, k = m + 1 := ⟨k - 1, by omega⟩
    have hw : IntKind.wrap .i64 (((d + 1 : Nat) : Int) - 1) = (d : Int) := wrP d (by omega)
    have H : ∀ x ∈ e.Kids, spec_l2Form.f k x (IntKind.wrap .i64 (((d + 1 : Nat) : Int) - 1)) = some (formD d x) := fun x hx => by
      have := exNs_mem hx
      rw [hw]; exact l2Form_k d x k (by omega) (by omega) (by omega)
    obtain ⟨i0, i1, i2, i3⟩ := l2Form_loops k (spec_l2Form.f k) e ((d + 1 : Nat) : Int) (formD d) (by omega) H e.Kids.length k 0 (by omega) (by omega)
    rw [show ((0 : Nat) : Int) = 0 from rfl, List.drop_zero] at i0 i1 i2 i3
    rw [spec_l2Form.f, if_neg (by omega), l2Kids_eq]
    simp only [Option.bind_some, i0, i1, i2, i3, formD, exHere]
    cases hA : e.Kids.all (formD d) <;> (repeat' split) <;> simp_all <;> omega
theorem l2Many_loop (k : Nat) (rec' : GEx → Int → Option Int) (e : GEx) (q : Int) (hq : 0 < q) (hl : e.Kids.length < 4611686018427387904) (H : ∀ x ∈ e.Kids, rec' x (IntKind.wrap .i64 (q - 1)) = some (exN x : Int)) :
    ∀ (d n i : Nat) (s : Int), i + d = e.Kids.length → d < n → 0 ≤ s → s + exNs (e.Kids.drop i) ≤ 100000000 →
      spec_l2Many.l0 k rec' e q n s (i : Int) = some (s + exNs (e.Kids.drop i)) := by
  intro d
  induction d with
  | zero =>
    intro n i s hi hn h0 h1
    obtain ⟨n, rfl⟩ : ∃ m, n = m + 1 := ⟨n - 1, by omega⟩
    rw [spec_l2Many.l0, if_neg (by omega), List.drop_eq_nil_of_le (by omega), exNs_nil]; simp
  | succ d ih =>
    intro n i s hi hn h0 h1
    obtain ⟨n, rfl⟩ : ∃ m, n = m + 1 := ⟨n - 1, by omega⟩
    have hlt : i < e.Kids.length := by omega
    rw [List.drop_eq_getElem_cons hlt, exNs_cons] at h1 ⊢
    rw [spec_l2Many.l0, if_pos (by omega), if_pos hq, req_pos (by omega), Int.toNat_natCast, List.getElem?_eq_getElem hlt]
    simp only [Option.bind_some, H e.Kids[i] (List.getElem_mem hlt)]
    push_cast at h1
    rw [wrS i (by omega), wr (s + _) (by omega), ih n (i + 1) _ (by omega) (by omega) (by omega) (by omega)]
    congr 1; push_cast; omega
theorem l2Many_k : ∀ (d : Nat) (e : GEx) (k : Nat), d ≤ 5 → exD e ≤ d → exN e ≤ 1048577 → 3 * exN e ≤ k → spec_l2Many.f k e (d : Int) = some (exN e : Int)
  | 0, e, k, _, hd, _, _ => by rw [exD_eq] at hd; omega
  | d + 1, e, k, hd5, hd, hs, hk => by
    rw [exD_eq] at hd
    rw [exN_eq] at hk hs ⊢
    have hq := exNs_len e.Kids
    obtain ⟨k, rfl⟩ : ∃ m, k = m + 1 := ⟨k - 1, by omega⟩
    have hdd := (exDs_le e.Kids d).1 (by omega)
    have := l2Many_loop k (spec_l2Many.f k) e ((d + 1 : Nat) : Int) (by omega) (by omega) (fun x hx => by
      have := exNs_mem hx
      rw [wrP d (by omega)]; exact l2Many_k d x k (by omega) (hdd x hx) (by omega) (by omega)) e.Kids.length k 0 1 (by omega) (by omega) (by omega) (by simp only [List.drop_zero]; omega)
    rw [show ((0 : Nat) : Int) = 0 from rfl, List.drop_zero] at this
    rw [spec_l2Many.f, this]
    simp
theorem exD_le : ∀ e : GEx, exD e ≤ exN e := by
  refine exInd fun e ih => ?_
  rw [exD_eq, exN_eq]
  have := (exDs_le e.Kids (exNs e.Kids)).2 fun x hx => by
    have := ih x hx; have := exNs_mem hx; omega
  omega
theorem exDs_cons (x : GEx) (xs : List GEx) : exDs (x :: xs) = max (exD x) (exDs xs) := by simp only [exDs]
theorem size_loop (k : Nat) (rec' : GEx → Option (Int × Int)) (e : GEx) (hl : e.Kids.length < 4611686018427387904) (H : ∀ x ∈ e.Kids, rec' x = some ((exN x : Int), (exD x : Int))) (hb : exNs e.Kids ≤ 1048577) :
    ∀ (d n i : Nat) (s t : Int), i + d = e.Kids.length → d < n → 0 ≤ s → s + exNs (e.Kids.drop i) ≤ 100000000 → 1 ≤ t →
      impl_Ex_size.l0 k rec' e n s t (i : Int) = some (s + exNs (e.Kids.drop i), max t (1 + exDs (e.Kids.drop i) : Nat)) := by
  intro d
  induction d with
  | zero =>
    intro n i s t hi hn h0 h1 h2
    obtain ⟨n, rfl⟩ : ∃ m, n = m + 1 := ⟨n - 1, by omega⟩
    rw [impl_Ex_size.l0, if_neg (by omega), List.drop_eq_nil_of_le (by omega), exNs_nil, show exDs [] = 0 by simp only [exDs]]
    congr 2
    · simp
    · push_cast; omega
  | succ d ih =>
    intro n i s t hi hn h0 h1 h2
    obtain ⟨n, rfl⟩ : ∃ m, n = m + 1 := ⟨n - 1, by omega⟩
    have hlt : i < e.Kids.length := by omega
    have hd := exD_le e.Kids[i]
    have hm := exNs_mem (List.getElem_mem hlt : e.Kids[i] ∈ e.Kids)
    rw [List.drop_eq_getElem_cons hlt, exNs_cons] at h1 ⊢
    rw [exDs_cons, impl_Ex_size.l0, if_pos (by omega), req_pos (by omega), Int.toNat_natCast, List.getElem?_eq_getElem hlt]
    simp only [Option.bind_some, H e.Kids[i] (List.getElem_mem hlt)]
    push_cast at h1
    rw [wrS i (by omega), wr (s + _) (by omega), wr ((exD e.Kids[i] : Int) + 1) (by omega)]
    by_cases h : t < (exD e.Kids[i] : Int) + 1
    · rw [if_pos h, ih n (i + 1) _ _ (by omega) (by omega) (by omega) (by omega) (by omega)]
      congr 2
      · push_cast; omega
      · push_cast; omega
    · rw [if_neg h, ih n (i + 1) _ _ (by omega) (by omega) (by omega) (by omega) (by omega)]
      congr 2
      · push_cast; omega
      · push_cast; omega
theorem size_k : ∀ e : GEx, exN e ≤ 1048577 → ∀ k : Nat, 3 * exN e ≤ k → impl_Ex_size.f k e = some ((exN e : Int), (exD e : Int)) := by
  refine exInd fun e ih hs k hk => ?_
  rw [exN_eq] at hk hs ⊢
  rw [exD_eq]
  have hq := exNs_len e.Kids
  obtain ⟨k, rfl⟩ : ∃ m, k = m + 1 := ⟨k - 1, by omega⟩
  have := size_loop k (impl_Ex_size.f k) e (by omega) (fun x hx => ih x hx (by have := exNs_mem hx; omega) k (by have := exNs_mem hx; omega)) (by omega) e.Kids.length k 0 1 1 (by omega) (by omega) (by omega) (by simp only [List.drop_zero]; omega) (by omega)
  rw [show ((0 : Nat) : Int) = 0 from rfl, List.drop_zero] at this
  rw [impl_Ex_size.f, this]
  simp only [Option.bind_some]
  congr 2
  push_cast; omega
theorem xindex_loop (k : Nat) (g : GEx → Option Bool) (h : GEx → Bool) (l : List GEx) (hl : l.length < 4611686018427387904) (H : ∀ x ∈ l, g x = some (h x)) :
    ∀ (d n i : Nat), i + d = l.length → d < n → ∃ r, slices_IndexFunc.l0 k g l n (i : Int) = some r ∧ ((∃ j : Int, r = .error j ∧ 0 ≤ j ∧ (l.drop i).any h = true) ∨ (r = .ok () ∧ (l.drop i).any h = false)) := by
  intro d
  induction d with
  | zero =>
    intro n i hi hn
    obtain ⟨n, rfl⟩ : ∃ m, n = m + 1 := ⟨n - 1, by omega⟩
    rw [slices_IndexFunc.l0, if_neg (by omega), List.drop_eq_nil_of_le (by omega)]
    exact ⟨_, rfl, .inr ⟨rfl, rfl⟩⟩
  | succ d ih =>
    intro n i hi hn
    obtain ⟨n, rfl⟩ : ∃ m, n = m + 1 := ⟨n - 1, by omega⟩
    have hlt : i < l.length := by omega
    rw [slices_IndexFunc.l0, if_pos (by omega), req_pos (by omega), Int.toNat_natCast, List.getElem?_eq_getElem hlt, List.drop_eq_getElem_cons hlt, List.any_cons]
    simp only [Option.bind_some, H l[i] (List.getElem_mem hlt)]
    cases hh : h l[i] with
    | true => rw [if_pos rfl]; exact ⟨_, rfl, .inl ⟨_, rfl, by omega, rfl⟩⟩
    | false =>
      rw [if_neg (by decide), wrS i (by omega), Bool.false_or]
      exact ih n (i + 1) (by omega) (by omega)
theorem xcontains_k (k : Nat) (g : GEx → Option Bool) (h : GEx → Bool) (l : List GEx) (hl : l.length < 4611686018427387904) (H : ∀ x ∈ l, g x = some (h x)) (hk : l.length < k) : slices_ContainsFunc.f g k l = some (l.any h) := by
  obtain ⟨r, h1, h2⟩ := xindex_loop k g h l hl H l.length k 0 (by omega) hk
  rw [show ((0 : Nat) : Int) = 0 from rfl] at h1
  rw [List.drop_zero] at h2
  unfold slices_ContainsFunc.f slices_IndexFunc.f
  rw [h1]
  rcases h2 with ⟨j, rfl, h3, h4⟩ | ⟨rfl, h4⟩
  · simp only [Option.bind_some, h4, Option.some.injEq, Bool.not_eq_true', decide_eq_false_iff_not]; omega
  · simp only [Option.bind_some, h4]; rfl
theorem kids_tab (a : Int) (h : 1 ≤ a ∧ a ≤ 7) : impl_kids.f a = some (kidsN a) := by
  have : a = 1 ∨ a = 2 ∨ a = 3 ∨ a = 4 ∨ a = 5 ∨ a = 6 ∨ a = 7 := by omega
  rcases this with h | h | h | h | h | h | h <;> subst h <;> rfl
theorem kidsN_out (a : Int) (h : ¬ (1 ≤ a ∧ a ≤ 7)) : kidsN a = -1 := by
  unfold kidsN
  repeat rw [if_neg (by omega)]
theorem in_k (a b c : Int) : impl_in.f a b c = some (decide (b ≤ a) && decide (a ≤ c)) := in_eq a b c
theorem any_not (l : List GEx) : (!(l.any fun x => !exForm x)) = exForms l := by
  rw [exForms_all]
  induction l with
  | nil => rfl
  | cons x xs ih => simp only [List.any_cons, List.all_cons, ← ih]; cases exForm x <;> simp
theorem formed_k : ∀ e : GEx, exN e ≤ 1048577 → ∀ k : Nat, 3 * exN e ≤ k → impl_Ex_formed.f k e = some (exForm e) := by
  refine exInd fun e ih hs k hk => ?_
  rw [exN_eq] at hk hs
  have hq := exNs_len e.Kids
  obtain ⟨k, rfl⟩ : ∃ m, k = m + 2 := ⟨k - 2, by omega⟩
  have hc : slices_ContainsFunc.f (fun y0 => impl_Ex_formed_1.f (k + 1) y0) (k + 1) e.Kids = some (e.Kids.any fun x => !exForm x) := by
    refine xcontains_k (k + 1) _ _ _ (by omega) (fun x hx => ?_) (by omega)
    have := exNs_mem hx
    rw [impl_Ex_formed_1.f, ih x hx (by omega) k (by omega)]; rfl
  rw [impl_Ex_formed.f, exForm_eq, ← any_not]
  simp only [impl_isKind.f, impl_isSym.f, in_k, hc, Option.bind_some]
  by_cases hk7 : 1 ≤ e.Kind ∧ e.Kind ≤ 7
  · simp only [kids_tab e.Kind hk7, Option.bind_some, exHere]
    cases hA : e.Kids.any (fun x => !exForm x) <;> (repeat' split) <;> simp_all <;> omega
  · have h0 := kidsN_out e.Kind hk7
    have h1 : exHere e = false := by unfold exHere; rw [h0]; have : ¬ ((-1 : Int) = (e.Kids.length : Int)) := by omega
                                     simp [this]
    have h2 : (decide (1 ≤ e.Kind) && decide (e.Kind ≤ 7)) = false := by
      rw [Bool.eq_false_iff]; simp only [ne_eq, Bool.and_eq_true, decide_eq_true_eq]; exact hk7
    rw [h1, h2]; rfl
def exOk (e : GEx) : Bool := decide (exN e ≤ 12) && decide (exD e ≤ 5) && exForm e
theorem spec_ExOk_k (e : GEx) (hs : exN e ≤ 1048577) (k : Nat) (hk : 3 * exN e ≤ k) : spec_ExOk.f k e = some (exOk e) := by
  unfold spec_ExOk.f
  rw [show (5 : Int) = ((5 : Nat) : Int) from rfl, l2Form_k 5 e k (by omega) hs hk, formD_eq]
  simp only [Option.bind_some, exOk]
  by_cases hd : exD e ≤ 5
  · rw [l2Many_k 5 e k (by omega) hd hs hk]
    cases exForm e
    · simp
    · simp only [hd, decide_true, Bool.and_self, if_true, Option.bind_some, Bool.and_true]
      by_cases h : exN e ≤ 12
      · simp [h]; omega
      · simp [h]; omega
  · simp [hd]
theorem impl_ExOk_k (e : GEx) (hs : exN e ≤ 1048577) (k : Nat) (hk : 3 * exN e ≤ k) : impl_ExOk.f k e = some (exOk e) := by
  unfold impl_ExOk.f
  rw [size_k e hs k hk, formed_k e hs k hk]
  simp only [Option.bind_some, exOk]
  by_cases h : 12 < (exN e : Int)
  · rw [if_pos h]; simp; omega
  · rw [if_neg h]
    by_cases h2 : 5 < (exD e : Int)
    · rw [if_pos h2]; simp; omega
    · rw [if_neg h2]
      have a1 : exN e ≤ 12 := by omega
      have a2 : exD e ≤ 5 := by omega
      simp [a1, a2]
/- What is meant, over all that happened: both programs give one answer. -/
def combM (mode : Int) (l : List GEv) (kd n : Int) (r : List (List GOcc)) : List GOcc × Bool :=
  if kd = 2 then orM (r.getD 0 []) (r.getD 1 []) else if kd = 3 then pairOfM (andF mode) (r.getD 0 []) (r.getD 1 []) else if kd = 4 then pairOfM (seqF mode) (r.getD 0 []) (r.getD 1 []) else
  if kd = 5 then spanOfM (notF mode) (r.getD 0 []) (r.getD 1 []) (r.getD 2 []) else if kd = 6 then spanOfM (eachF mode) (r.getD 0 []) (r.getD 1 []) (r.getD 2 []) else plusM n (endM l) (r.getD 0 [])
mutual
/-- what is meant -/
def meanM (mode : Int) (l : List GEv) : GEx → List GOcc × Bool
  | ⟨kd, sy, n, ks⟩ => if kd = 1 then (symFrom sy 0 l, true) else match meansM mode l ks with
    | none => ([], false)
    | some r => combM mode l kd n r
def meansM (mode : Int) (l : List GEv) : List GEx → Option (List (List GOcc))
  | [] => some []
  | x :: xs => if (meanM mode l x).2 = true then (meansM mode l xs).map fun r => (meanM mode l x).1 :: r else none
end
theorem meanM_eq (mode : Int) (l : List GEv) (x : GEx) : meanM mode l x = if x.Kind = 1 then (symFrom x.Sym 0 l, true) else match meansM mode l x.Kids with
    | none => ([], false)
    | some r => combM mode l x.Kind x.N r := by
  obtain ⟨a, b, c, d⟩ := x
  simp only [meanM]
theorem meansM_nil (mode : Int) (l : List GEv) : meansM mode l [] = some [] := by simp only [meansM]
theorem meansM_cons (mode : Int) (l : List GEv) (x : GEx) (xs : List GEx) : meansM mode l (x :: xs) = if (meanM mode l x).2 = true then (meansM mode l xs).map fun r => (meanM mode l x).1 :: r else none := by simp only [meansM]
theorem meansM_some {mode : Int} {l : List GEv} : ∀ {xs : List GEx} {r : List (List GOcc)}, meansM mode l xs = some r → r.length = xs.length ∧ ∀ i (h : i < xs.length), (meanM mode l xs[i]).2 = true ∧ r.getD i [] = (meanM mode l xs[i]).1
  | [], r, h => by
    rw [meansM_nil] at h
    cases h
    exact ⟨rfl, fun i hi => by simp at hi⟩
  | x :: xs, r, h => by
    rw [meansM_cons] at h
    split at h
    · rename_i h1
      rw [Option.map_eq_some_iff] at h
      obtain ⟨r', h2, rfl⟩ := h
      obtain ⟨a, b⟩ := meansM_some h2
      refine ⟨by simp [a], fun i hi => ?_⟩
      cases i with
      | zero => exact ⟨h1, rfl⟩
      | succ i =>
        have := b i (by simpa using hi)
        exact ⟨this.1, by simpa using this.2⟩
    · cases h
/-- what the loops over the parts give -/
def partsM (mode : Int) (l : List GEv) (acc : List (List GOcc)) (xs : List GEx) : Except (List GOcc × Bool) (List (List GOcc)) := match meansM mode l xs with
  | none => .error ([], false)
  | some r => .ok (acc ++ r)
theorem partsM_cons (mode : Int) (l : List GEv) (acc : List (List GOcc)) (x : GEx) (xs : List GEx) : partsM mode l acc (x :: xs) = if (meanM mode l x).2 = true then partsM mode l (acc ++ [(meanM mode l x).1]) xs else .error ([], false) := by
  unfold partsM
  rw [meansM_cons]
  by_cases h : (meanM mode l x).2 = true
  · rw [if_pos h, if_pos h]
    cases meansM mode l xs with
    | none => rfl
    | some r => simp
  · rw [if_neg h, if_neg h]
theorem impl_kids_loop (k : Nat) (rec' : GEx → Int → List GEv → Option (List GOcc × Bool)) (x : GEx) (mode : Int) (l : List GEv) (hx : x.Kids.length ≤ 1000000) (hr : ∀ y ∈ x.Kids, rec' y mode l = some (meanM mode l y)) :
    ∀ (d i n : Nat) (acc : List (List GOcc)), i + d = x.Kids.length → d < n → acc.length ≤ i → impl_Ex_mean.l0 k rec' x mode l n acc (i : Int) = some (partsM mode l acc (x.Kids.drop i)) := by
  intro d
  induction d with
  | zero =>
    intro i n acc hi hn ha
    obtain ⟨n, rfl⟩ : ∃ m, n = m + 1 := ⟨n - 1, by omega⟩
    rw [impl_Ex_mean.l0, if_neg (by omega), List.drop_eq_nil_of_le (by omega)]
    simp [partsM, meansM_nil]
  | succ d ih =>
    intro i n acc hi hn ha
    obtain ⟨n, rfl⟩ : ∃ m, n = m + 1 := ⟨n - 1, by omega⟩
    have h : i < x.Kids.length := by omega
    rw [impl_Ex_mean.l0, if_pos (by omega), req_pos (by omega), Int.toNat_natCast, List.getElem?_eq_getElem h, List.drop_eq_getElem_cons h, partsM_cons]
    simp only [Option.bind_some, hr _ (List.getElem_mem h)]
    by_cases c : (meanM mode l x.Kids[i]).2 = true
    · rw [if_pos c, if_pos c, req_pos (by omega), wrS i (by omega), ih (i + 1) n _ (by omega) (by omega) (by simp; omega)]
    · rw [if_neg c, if_neg c]
theorem spec_kids_loop (k : Nat) (rec' : GEx → Int → List GEv → Option (List GOcc × Bool)) (x : GEx) (mode : Int) (l : List GEv) (hx : x.Kids.length ≤ 1000000) (hr : ∀ y ∈ x.Kids, rec' y mode l = some (meanM mode l y)) :
    ∀ (d i n : Nat) (acc : List (List GOcc)), i + d = x.Kids.length → d < n → acc.length ≤ i → spec_l6Mean.l0 k rec' x mode l n acc (i : Int) = some (partsM mode l acc (x.Kids.drop i)) := by
  intro d
  induction d with
  | zero =>
    intro i n acc hi hn ha
    obtain ⟨n, rfl⟩ : ∃ m, n = m + 1 := ⟨n - 1, by omega⟩
    rw [spec_l6Mean.l0, if_neg (by omega), List.drop_eq_nil_of_le (by omega)]
    simp [partsM, meansM_nil]
  | succ d ih =>
    intro i n acc hi hn ha
    obtain ⟨n, rfl⟩ : ∃ m, n = m + 1 := ⟨n - 1, by omega⟩
    have h : i < x.Kids.length := by omega
    rw [spec_l6Mean.l0, if_pos (by omega), req_pos (by omega), Int.toNat_natCast, List.getElem?_eq_getElem h, List.drop_eq_getElem_cons h, partsM_cons]
    simp only [Option.bind_some, hr _ (List.getElem_mem h)]
    by_cases c : (meanM mode l x.Kids[i]).2 = true
    · rw [if_pos c, if_pos c, req_pos (by omega), wrS i (by omega), ih (i + 1) n _ (by omega) (by omega) (by simp; omega)]
    · rw [if_neg c, if_neg c]
theorem told_small {l : List GOcc} (h : Fews l) : Small (told l).1 := by
  unfold told
  split
  · exact small_nil
  · exact ⟨by dsimp only; omega, h⟩
theorem comb_small {mode : Int} {l : List GEv} {kd n : Int} {r : List (List GOcc)} : Small (combM mode l kd n r).1 := by
  unfold combM
  split
  · unfold orM
    split
    · rename_i h; exact told_small (fews_mergeM (fews_of_ok h.1) (fews_of_ok h.2))
    · exact small_nil
  split
  · unfold pairOfM
    split
    · rename_i h; exact told_small (pair_ok (andF_ok mode) h.1 h.2).2.1.few
    · exact small_nil
  split
  · unfold pairOfM
    split
    · rename_i h; exact told_small (pair_ok (seqF_ok mode) h.1 h.2).2.1.few
    · exact small_nil
  split
  · unfold spanOfM
    split
    · rename_i h; exact told_small (span_ok (notF_ok mode) h.1 h.2.1 h.2.2).2.1.few
    · exact small_nil
  split
  · unfold spanOfM
    split
    · rename_i h; exact told_small (span_ok (eachF_ok mode) h.1 h.2.1 h.2.2).2.1.few
    · exact small_nil
  · unfold plusM
    split
    · rename_i h; exact ⟨by have := latesM_len n (endM l) (r.getD 0 []); have := occsOk_len h.1; dsimp only; omega, lates_few (fews_of_ok h.1)⟩
    · exact small_nil
theorem symFrom_facts (sym : Int) : ∀ (l : List GEv) (i : Nat), (symFrom sym i l).length ≤ l.length ∧ ∀ o ∈ symFrom sym i l, o.Ids.length = 1
  | [], i => by simp [symFrom]
  | e :: l, i => by
    have := symFrom_facts sym l (i + 1)
    unfold symFrom
    split
    · exact ⟨by simp; omega, fun o ho => by
        rcases List.mem_cons.1 ho with rfl | h
        · rfl
        · exact this.2 o h⟩
    · exact ⟨by simp; omega, this.2⟩
theorem mean_small {mode : Int} {l : List GEv} (hl : l.length ≤ 1000000) (x : GEx) : Small (meanM mode l x).1 := by
  rw [meanM_eq]
  split
  · have := symFrom_facts x.Sym l 0
    exact ⟨by dsimp only; omega, fun o ho => by have := this.2 o ho; omega⟩
  · split
    · exact small_nil
    · exact comb_small
theorem form_kids {e : GEx} (h : exForm e = true) : exHere e = true ∧ ∀ x ∈ e.Kids, exForm x = true := by
  rw [exForm_eq, Bool.and_eq_true, exForms_all, List.all_eq_true] at h
  exact h
theorem here_kinds {e : GEx} (h : exHere e = true) : (e.Kind = 1 ∧ e.Kids.length = 0) ∨ (e.Kind = 2 ∧ e.Kids.length = 2) ∨ (e.Kind = 3 ∧ e.Kids.length = 2) ∨ (e.Kind = 4 ∧ e.Kids.length = 2) ∨ (e.Kind = 5 ∧ e.Kids.length = 3) ∨ (e.Kind = 6 ∧ e.Kids.length = 3) ∨ (e.Kind = 7 ∧ e.Kids.length = 1 ∧ 1 ≤ e.N ∧ e.N ≤ 20) := by
  unfold exHere kidsN at h
  simp only [Bool.and_eq_true, decide_eq_true_eq] at h
  obtain ⟨⟨⟨⟨h1, h2⟩, h3⟩, h4⟩, h5⟩ := h
  repeat' split at h1
  all_goals first | omega | skip
  rw [if_pos (by assumption), Bool.and_eq_true, decide_eq_true_eq, decide_eq_true_eq] at h5
  omega
theorem getD_some {α : Type} {r : List α} {d : α} {i : Nat} (h : i < r.length) : r[i]? = some (r.getD i d) := by
  rw [List.getD_eq_getElem?_getD, List.getElem?_eq_getElem h]; rfl
theorem pair_eta {α β : Type} (p : α × β) : some (p.1, p.2) = some p := rfl
theorem mean_eq (mode : Int) (hmo : 0 ≤ mode ∧ mode ≤ 4) (l : List GEv) (hl : l.length ≤ 1000000) : ∀ x : GEx, exN x ≤ 1000000 → exForm x = true → ∀ k : Nat, 1000000000000 + exN x ≤ k → impl_Ex_mean.f k x mode l = some (meanM mode l x) ∧ spec_l6Mean.f k x mode l = some (meanM mode l x) := by
  refine exInd fun x ih hn hf k hk => ?_
  obtain ⟨here, hks⟩ := form_kids hf
  rw [exN_eq] at hn hk
  obtain ⟨k, rfl⟩ : ∃ m, k = m + 1 := ⟨k - 1, by omega⟩
  have hkk : 1000000000000 ≤ k := by omega
  have hlen := exNs_len x.Kids
  have kind := here_kinds here
  have hrec : ∀ y ∈ x.Kids, impl_Ex_mean.f k y mode l = some (meanM mode l y) ∧ spec_l6Mean.f k y mode l = some (meanM mode l y) := fun y hy => by
    have := exNs_mem hy
    exact ih y hy (by omega) (hks y hy) k (by omega)
  have L1 := impl_kids_loop k (impl_Ex_mean.f k) x mode l (by omega) (fun y hy => (hrec y hy).1) x.Kids.length 0 k [] (by omega) (by omega) (by simp)
  have L2 := spec_kids_loop k (spec_l6Mean.f k) x mode l (by omega) (fun y hy => (hrec y hy).2) x.Kids.length 0 k [] (by omega) (by omega) (by simp)
  rw [show ((0 : Nat) : Int) = 0 from rfl, List.drop_zero] at L1 L2
  rw [impl_Ex_mean.f, spec_l6Mean.f, L1, L2, meanM_eq]
  simp only [Option.bind_some]
  unfold partsM
  cases hm : meansM mode l x.Kids with
  | none =>
    have h1 : x.Kind ≠ 1 := fun h1 => by
      have e : x.Kids = [] := List.length_eq_zero_iff.1 (by omega)
      rw [e, meansM_nil] at hm
      cases hm
    rw [if_neg h1, if_neg h1]
    exact ⟨rfl, rfl⟩
  | some r =>
    obtain ⟨rl, rg⟩ := meansM_some hm
    have small : ∀ i, i < x.Kids.length → Small (r.getD i []) := fun i hi => by rw [(rg i hi).2]; exact mean_small hl _
    dsimp only [List.nil_append]
    have N := now_eq l hl
    rcases kind with ⟨a, b⟩ | ⟨a, b⟩ | ⟨a, b⟩ | ⟨a, b⟩ | ⟨a, b⟩ | ⟨a, b⟩ | ⟨a, b, c⟩
    · rw [a]
      simp only [if_true, if_false, show ¬ (1 : Int) = 2 by omega, show ¬ (1 : Int) = 3 by omega, show ¬ (1 : Int) = 4 by omega, show ¬ (1 : Int) = 5 by omega, show ¬ (1 : Int) = 6 by omega, show ¬ (1 : Int) = 7 by omega]
      rw [impl_sym_eq k hkk x l hl, spec_sym_eq k hkk x.Sym l hl]
      exact ⟨rfl, rfl⟩
    · have s0 := small 0 (by omega); have s1 := small 1 (by omega)
      have g0 := getD_some (r := r) (d := []) (i := 0) (by omega); have g1 := getD_some (r := r) (d := []) (i := 1) (by omega)
      rw [a]; unfold combM
      simp only [if_true, if_false, show ¬ (2 : Int) = 1 by omega]
      rw [req_pos (by omega), req_pos (by omega), req_pos (by omega), req_pos (by omega), g0]
      simp only [Option.bind_some]
      rw [req_pos (by omega), req_pos (by omega), req_pos (by omega), req_pos (by omega), g1]
      simp only [Option.bind_some]
      rw [impl_OrOf_eq k hkk _ _ s0 s1, spec_OrOf_eq k hkk _ _ s0 s1]
      exact ⟨rfl, rfl⟩
    · have s0 := small 0 (by omega); have s1 := small 1 (by omega)
      have g0 := getD_some (r := r) (d := []) (i := 0) (by omega); have g1 := getD_some (r := r) (d := []) (i := 1) (by omega)
      rw [a]; unfold combM
      simp only [if_true, if_false, show ¬ (3 : Int) = 1 by omega, show ¬ (3 : Int) = 2 by omega]
      rw [req_pos (by omega), req_pos (by omega), req_pos (by omega), req_pos (by omega), g0]
      simp only [Option.bind_some]
      rw [req_pos (by omega), req_pos (by omega), req_pos (by omega), req_pos (by omega), g1]
      simp only [Option.bind_some]
      rw [impl_AndOf_eq k hkk mode hmo _ _ s0 s1, spec_AndOf_eq k hkk mode hmo _ _ s0 s1]
      exact ⟨rfl, rfl⟩
    · have s0 := small 0 (by omega); have s1 := small 1 (by omega)
      have g0 := getD_some (r := r) (d := []) (i := 0) (by omega); have g1 := getD_some (r := r) (d := []) (i := 1) (by omega)
      rw [a]; unfold combM
      simp only [if_true, if_false, show ¬ (4 : Int) = 1 by omega, show ¬ (4 : Int) = 2 by omega, show ¬ (4 : Int) = 3 by omega]
      rw [req_pos (by omega), req_pos (by omega), req_pos (by omega), req_pos (by omega), g0]
      simp only [Option.bind_some]
      rw [req_pos (by omega), req_pos (by omega), req_pos (by omega), req_pos (by omega), g1]
      simp only [Option.bind_some]
      rw [impl_SeqOf_eq k hkk mode hmo _ _ s0 s1, spec_SeqOf_eq k hkk mode hmo _ _ s0 s1]
      exact ⟨rfl, rfl⟩
    · have s0 := small 0 (by omega); have s1 := small 1 (by omega); have s2 := small 2 (by omega)
      have g0 := getD_some (r := r) (d := []) (i := 0) (by omega); have g1 := getD_some (r := r) (d := []) (i := 1) (by omega); have g2 := getD_some (r := r) (d := []) (i := 2) (by omega)
      rw [a]; unfold combM
      simp only [if_true, if_false, show ¬ (5 : Int) = 1 by omega, show ¬ (5 : Int) = 2 by omega, show ¬ (5 : Int) = 3 by omega, show ¬ (5 : Int) = 4 by omega]
      rw [req_pos (by omega), req_pos (by omega), req_pos (by omega), req_pos (by omega), g0]
      simp only [Option.bind_some]
      rw [req_pos (by omega), req_pos (by omega), req_pos (by omega), req_pos (by omega), g1]
      simp only [Option.bind_some]
      rw [req_pos (by omega), req_pos (by omega), req_pos (by omega), req_pos (by omega), g2]
      simp only [Option.bind_some]
      rw [impl_NotOf_eq k hkk mode hmo _ _ _ s0 s1 s2, spec_NotOf_eq k hkk mode hmo _ _ _ s0 s1 s2]
      exact ⟨rfl, rfl⟩
    · have s0 := small 0 (by omega); have s1 := small 1 (by omega); have s2 := small 2 (by omega)
      have g0 := getD_some (r := r) (d := []) (i := 0) (by omega); have g1 := getD_some (r := r) (d := []) (i := 1) (by omega); have g2 := getD_some (r := r) (d := []) (i := 2) (by omega)
      rw [a]; unfold combM
      simp only [if_true, if_false, show ¬ (6 : Int) = 1 by omega, show ¬ (6 : Int) = 2 by omega, show ¬ (6 : Int) = 3 by omega, show ¬ (6 : Int) = 4 by omega, show ¬ (6 : Int) = 5 by omega]
      rw [req_pos (by omega), req_pos (by omega), req_pos (by omega), req_pos (by omega), g0]
      simp only [Option.bind_some]
      rw [req_pos (by omega), req_pos (by omega), req_pos (by omega), req_pos (by omega), g1]
      simp only [Option.bind_some]
      rw [req_pos (by omega), req_pos (by omega), req_pos (by omega), req_pos (by omega), g2]
      simp only [Option.bind_some]
      rw [impl_EachOf_eq k hkk mode hmo _ _ _ s0 s1 s2, spec_EachOf_eq k hkk mode hmo _ _ _ s0 s1 s2]
      exact ⟨rfl, rfl⟩
    · have s0 := small 0 (by omega)
      have g0 := getD_some (r := r) (d := []) (i := 0) (by omega)
      rw [a]; unfold combM
      simp only [if_true, if_false, show ¬ (7 : Int) = 1 by omega, show ¬ (7 : Int) = 2 by omega, show ¬ (7 : Int) = 3 by omega, show ¬ (7 : Int) = 4 by omega, show ¬ (7 : Int) = 5 by omega, show ¬ (7 : Int) = 6 by omega]
      rw [req_pos (by omega), req_pos (by omega), req_pos (by omega), req_pos (by omega), g0, N.1, N.2]
      simp only [Option.bind_some]
      rw [impl_PlusOf_eq k hkk _ _ _ s0, spec_PlusOf_eq k hkk _ _ _ s0]
      exact ⟨rfl, rfl⟩
def meanOf (x : GEx) (mode : Int) (l : List GEv) : List GOcc × Bool := if exOk x = true ∧ (0 ≤ mode ∧ mode ≤ 4) ∧ evsOk l = true then meanM mode l x else ([], false)
theorem exOk_form {x : GEx} (h : exOk x = true) : exN x ≤ 12 ∧ exForm x = true := by
  unfold exOk at h
  simp only [Bool.and_eq_true, decide_eq_true_eq] at h
  exact ⟨h.1.1, h.2⟩
theorem impl_MeanOf_eq (x : GEx) (mode : Int) (l : List GEv) (hx : exN x ≤ 1048577) (hl : l.length < 4611686018427387904) : Evn (fun k => impl_MeanOf.f k x mode l) (meanOf x mode l) := by
  obtain ⟨K, he⟩ := impl_EvsOk_eq l hl
  refine ⟨K + 3 * exN x + 1000000000100, fun k hk => ?_⟩
  dsimp only
  unfold impl_MeanOf.f meanOf
  have he' : impl_EvsOk.f k l = some (evsOk l) := he k (by omega)
  rw [impl_ExOk_k x hx k (by omega), he', (isMode_eq mode).1]
  simp only [Option.bind_some]
  by_cases h1 : exOk x = true
  · rw [if_pos h1]
    by_cases h2 : 0 ≤ mode ∧ mode ≤ 4
    · rw [if_pos (by simp [h2])]
      by_cases h3 : evsOk l = true
      · have hf := exOk_form h1
        have := evsOk_len h3
        rw [if_pos h3, if_pos ⟨h1, h2, h3⟩, (mean_eq mode h2 l (by omega) x (by omega) hf.2 k (by omega)).1]
        rfl
      · rw [if_neg h3, if_neg (fun h => h3 h.2.2)]
    · rw [if_neg (by simpa using h2), if_neg (fun h => h2 h.2.1)]
  · rw [if_neg h1, if_neg (fun h => h1 h.1)]
theorem spec_MeanOf_eq (x : GEx) (mode : Int) (l : List GEv) (hx : exN x ≤ 1048577) (hl : l.length < 4611686018427387904) : Evn (fun k => spec_MeanOf.f k x mode l) (meanOf x mode l) := by
  obtain ⟨K, he⟩ := spec_EvsOk_eq l hl
  refine ⟨K + 3 * exN x + 1000000000100, fun k hk => ?_⟩
  dsimp only
  unfold spec_MeanOf.f meanOf
  have he' : spec_EvsOk.f k l = some (evsOk l) := he k (by omega)
  rw [spec_ExOk_k x hx k (by omega), he', (isMode_eq mode).2]
  simp only [Option.bind_some]
  by_cases h1 : exOk x = true
  · rw [if_pos h1]
    by_cases h2 : 0 ≤ mode ∧ mode ≤ 4
    · rw [if_pos (by simp [h2])]
      by_cases h3 : evsOk l = true
      · have hf := exOk_form h1
        have := evsOk_len h3
        rw [if_pos h3, if_pos ⟨h1, h2, h3⟩, (mean_eq mode h2 l (by omega) x (by omega) hf.2 k (by omega)).2]
        rfl
      · rw [if_neg h3, if_neg (fun h => h3 h.2.2)]
    · rw [if_neg (by simpa using h2), if_neg (fun h => h2 h.2.1)]
  · rw [if_neg h1, if_neg (fun h => h1 h.1)]
/- What holds of all that is paired, if joining keeps it. -/
def All (Q : GOcc → Prop) (l : List GOcc) : Prop := ∀ x ∈ l, Q x
def Joins (Q : GOcc → Prop) : Prop := ∀ a b, Q a → Q b → Q (joinM a b)
theorem All.nil {Q : GOcc → Prop} : All Q [] := fun x hx => by simp at hx
theorem All.filter {Q : GOcc → Prop} {l : List GOcc} (h : All Q l) (p : GOcc → Bool) : All Q (l.filter p) := fun x hx => h x (List.mem_filter.1 hx).1
theorem All.merge {Q : GOcc → Prop} {l m : List GOcc} (h : All Q l) (hm : All Q m) : All Q (mergeM l m) := fun x hx => by
  rcases mem_mergeM.1 hx with h1 | h1
  · exact h x h1
  · exact hm x h1
theorem All.put {Q : GOcc → Prop} {l : List GOcc} {o : GOcc} (h : All Q l) (ho : Q o) : All Q (putM l o) := fun x hx => by
  rcases mem_putM.1 hx with h1 | rfl
  · exact h x h1
  · exact ho
theorem All.rem {Q : GOcc → Prop} {l g : List GOcc} (h : All Q l) : All Q (remM l g) := h.filter _
theorem All.sum {Q : GOcc → Prop} (hj : Joins Q) : ∀ {l : List GOcc} {o : GOcc}, All Q l → Q o → Q (sumM o l)
  | [], o, _, ho => ho
  | x :: l, o, h, ho => All.sum hj (l := l) (o := joinM o x) (fun y hy => h y (by simp [hy])) (hj _ _ ho (h x (by simp)))
theorem All.eachs {Q : GOcc → Prop} (hj : Joins Q) {o : GOcc} (ho : Q o) : ∀ (l acc : List GOcc), All Q l → All Q acc → All Q (l.foldl (fun s e => putM s (joinM o e)) acc)
  | [], acc, _, ha => ha
  | x :: l, acc, h, ha => All.eachs hj ho l _ (fun y hy => h y (by simp [hy])) (ha.put (hj _ _ ho (h x (by simp))))
theorem All.found {Q : GOcc → Prop} (hj : Joins Q) {mode : Int} {o : GOcc} {l : List GOcc} (h : All Q l) (ho : Q o) : All Q (foundM mode o l) := by
  have one : ∀ x : GOcc, Q x → All Q [x] := fun x hx y hy => by rw [List.mem_singleton.1 hy]; exact hx
  unfold foundM
  by_cases h0 : l.length = 0
  · rw [if_pos h0]; exact All.nil
  rw [if_neg h0]
  split
  · exact one _ (hj _ _ ho (by rw [List.getElem?_eq_getElem (show l.length - 1 < l.length by omega)]; exact h _ (List.getElem_mem _)))
  split
  · exact one _ (hj _ _ ho (by rw [List.getElem?_eq_getElem (show 0 < l.length by omega)]; exact h _ (List.getElem_mem _)))
  split
  · exact one _ (All.sum hj h ho)
  · exact All.eachs hj ho l [] h All.nil
theorem All.one {Q : GOcc → Prop} (hj : Joins Q) {mode : Int} {p : GOcc → GOcc → Bool} {s : List GOcc × List GOcc} {o : GOcc} (h1 : All Q s.1) (h2 : All Q s.2) (ho : Q o) : All Q (oneM mode p s o).1 ∧ All Q (oneM mode p s o).2 :=
  ⟨h1.rem, h2.merge ((h1.filter _).found hj ho)⟩
theorem All.ones {Q : GOcc → Prop} (hj : Joins Q) {mode : Int} {p : GOcc → GOcc → Bool} : ∀ (r : List GOcc) {s : List GOcc × List GOcc}, All Q r → All Q s.1 → All Q s.2 → All Q (r.foldl (oneM mode p) s).1 ∧ All Q (r.foldl (oneM mode p) s).2
  | [], s, _, h1, h2 => ⟨h1, h2⟩
  | o :: r, s, hr, h1, h2 => by
    obtain ⟨a, b⟩ := All.one hj (mode := mode) (p := p) h1 h2 (hr o (by simp))
    exact All.ones hj r (s := oneM mode p s o) (fun y hy => hr y (by simp [hy])) a b
theorem All.store {Q : GOcc → Prop} {mode : Int} {own : List GOcc} {o : GOcc} {alone : Bool} (h : All Q own) (ho : Q o) : All Q (storeM mode own o alone) := by
  unfold storeM
  split
  · exact fun y hy => by rw [List.mem_singleton.1 hy]; exact ho
  split
  · exact h.put ho
  split
  · exact h.put ho
  · exact h
def All3 (Q : GOcc → Prop) (s : List GOcc × List GOcc × List GOcc) : Prop := All Q s.1 ∧ All Q s.2.1 ∧ All Q s.2.2
theorem All3.half {Q : GOcc → Prop} (hj : Joins Q) {mode : Int} {s : List GOcc × List GOcc × List GOcc} {o : GOcc} (h : All3 Q s) (ho : Q o) : All3 Q (halfM mode s o) := ⟨h.1.store ho, h.2.1.rem, h.2.2.merge (h.2.1.found hj ho)⟩
theorem All3.other {Q : GOcc → Prop} (hj : Joins Q) {mode : Int} {s : List GOcc × List GOcc × List GOcc} {o : GOcc} (h : All3 Q s) (ho : Q o) : All3 Q (otherM mode s o) := by
  have := All3.half hj (mode := mode) (s := (s.2.1, s.1, s.2.2)) ⟨h.2.1, h.1, h.2.2⟩ ho
  exact ⟨this.2.1, this.1, this.2.2⟩
theorem all_fold {α σ : Type} (P : σ → Prop) (g : σ → α → σ) : ∀ (l : List α) (s : σ), (∀ s, ∀ x ∈ l, P s → P (g s x)) → P s → P (l.foldl g s)
  | [], s, _, h => h
  | x :: l, s, hs, h => all_fold P g l (g s x) (fun s y hy => hs s y (by simp [hy])) (hs s x (by simp) h)
/-- a step keeps Q -/
def Keeps (Q : GOcc → Prop) (f : Two → List GOcc → List GOcc → Two × List GOcc) : Prop := ∀ (p : Two) (l r : List GOcc), All Q p.1 → All Q p.2 → All Q l → All Q r → All Q (f p l r).1.1 ∧ All Q (f p l r).1.2 ∧ All Q (f p l r).2
def Keeps3 (Q : GOcc → Prop) (f : Two → List GOcc → List GOcc → List GOcc → Two × List GOcc) : Prop := ∀ (p : Two) (a b c : List GOcc), All Q p.1 → All Q p.2 → All Q a → All Q b → All Q c → All Q (f p a b c).1.1 ∧ All Q (f p a b c).1.2 ∧ All Q (f p a b c).2
theorem keeps_seq {Q : GOcc → Prop} (hj : Joins Q) (mode : Int) : Keeps Q (seqF mode) := fun p l r h1 h2 hl hr => by
  obtain ⟨a, b⟩ := All.ones hj (mode := mode) (p := before) r (s := (p.1, [])) hr h1 All.nil
  exact ⟨a.merge hl, h2, b⟩
theorem keeps_and {Q : GOcc → Prop} (hj : Joins Q) (mode : Int) : Keeps Q (andF mode) := fun p l r h1 h2 hl hr => by
  have a := all_fold (All3 Q) (halfM mode) l (p.1, p.2, []) (fun s x hx h => h.half hj (hl x hx)) ⟨h1, h2, All.nil⟩
  have b := all_fold (All3 Q) (otherM mode) r _ (fun s x hx h => h.other hj (hr x hx)) a
  exact ⟨b.1, b.2.1, b.2.2⟩
theorem keeps_not {Q : GOcc → Prop} (hj : Joins Q) (mode : Int) : Keeps3 Q (notF mode) := fun p a b c h1 h2 ha hb hc => by
  obtain ⟨x, y⟩ := All.ones hj (mode := mode) (p := openM p.2) c (s := (p.1, [])) hc h1 All.nil
  exact ⟨x.merge ha, h2.merge hb, y⟩
theorem keeps_each {Q : GOcc → Prop} (hj : Joins Q) (mode : Int) : Keeps3 Q (eachF mode) := fun p a b c h1 h2 ha hb hc =>
  ⟨h1.merge ha, h2.merge hc, all_fold (All Q) _ b [] (fun s x hx h => h.merge ((h1.filter _).found hj (hb x hx))) All.nil⟩
def AllRun (Q : GOcc → Prop) (s : Two × List GOcc) : Prop := All Q s.1.1 ∧ All Q s.1.2 ∧ All Q s.2
theorem all_pair {Q : GOcc → Prop} {f : Two → List GOcc → List GOcc → Two × List GOcc} (hf : Keeps Q f) {a b : List GOcc} (ha : All Q a) (hb : All Q b) : All Q (pairM f a b) :=
  (all_fold (AllRun Q) _ (timesM [a, b]) (([], []), []) (fun s t _ h => by
    obtain ⟨x, y, z⟩ := hf s.1 (atM a t) (atM b t) h.1 h.2.1 (ha.filter _) (hb.filter _)
    exact ⟨x, y, h.2.2.merge z⟩) ⟨All.nil, All.nil, All.nil⟩).2.2
theorem all_span {Q : GOcc → Prop} {f : Two → List GOcc → List GOcc → List GOcc → Two × List GOcc} (hf : Keeps3 Q f) {a b c : List GOcc} (ha : All Q a) (hb : All Q b) (hc : All Q c) : All Q (spanM f a b c) :=
  (all_fold (AllRun Q) _ (timesM [a, b, c]) (([], []), []) (fun s t _ h => by
    obtain ⟨x, y, z⟩ := hf s.1 (atM a t) (atM b t) (atM c t) h.1 h.2.1 (ha.filter _) (hb.filter _) (hc.filter _)
    exact ⟨x, y, h.2.2.merge z⟩) ⟨All.nil, All.nil, All.nil⟩).2.2
theorem all_told {Q : GOcc → Prop} {l : List GOcc} (h : All Q l) : All Q (told l).1 := by
  unfold told
  split
  · exact All.nil
  · exact h
mutual
/-- the letters that are named -/
def symsOf : GEx → List Int
  | ⟨kd, sy, _, ks⟩ => if kd = 1 then [sy] else symsOfs ks
def symsOfs : List GEx → List Int
  | [] => []
  | x :: xs => symsOf x ++ symsOfs xs
end
theorem symsOf_eq (x : GEx) : symsOf x = if x.Kind = 1 then [x.Sym] else symsOfs x.Kids := by cases x; simp only [symsOf]
theorem symsOfs_mem {x : GEx} {s : Int} : ∀ {l : List GEx}, x ∈ l → s ∈ symsOf x → s ∈ symsOfs l
  | y :: l, hx, hs => by
    simp only [symsOfs, List.mem_append]
    rcases List.mem_cons.1 hx with rfl | hx
    · exact .inl hs
    · exact .inr (symsOfs_mem hx hs)
/-- what holds of events, is kept by joining, and by delays up to the last event, holds of all that is meant -/
theorem all_mean {Q : GOcc → Prop} (hj : Joins Q) {mode : Int} {l : List GEv} : ∀ x : GEx, exForm x = true →
    (∀ s ∈ symsOf x, All Q (symFrom s 0 l)) → (∀ n o, 1 ≤ n → Q o → inTime n (endM l) o = true → Q (latM n o)) → All Q (meanM mode l x).1 := by
  refine exInd fun x ih hf hs hp => ?_
  obtain ⟨here, hks⟩ := form_kids hf
  have kind := here_kinds here
  rw [meanM_eq]
  rw [symsOf_eq] at hs
  split
  · rename_i h1
    rw [if_pos h1] at hs
    exact hs _ (by simp)
  rename_i h1
  rw [if_neg h1] at hs
  cases hm : meansM mode l x.Kids with
  | none => exact All.nil
  | some r =>
    obtain ⟨rl, rg⟩ := meansM_some hm
    have q : ∀ i, i < x.Kids.length → All Q (r.getD i []) := fun i hi => by
      rw [(rg i hi).2]; exact ih _ (List.getElem_mem hi) (hks _ (List.getElem_mem hi)) (fun s h => hs s (symsOfs_mem (List.getElem_mem hi) h)) hp
    dsimp only
    unfold combM
    split
    · unfold orM
      split
      · exact all_told ((q 0 (by omega)).merge (q 1 (by omega)))
      · exact All.nil
    split
    · unfold pairOfM
      split
      · exact all_told (all_pair (keeps_and hj mode) (q 0 (by omega)) (q 1 (by omega)))
      · exact All.nil
    split
    · unfold pairOfM
      split
      · exact all_told (all_pair (keeps_seq hj mode) (q 0 (by omega)) (q 1 (by omega)))
      · exact All.nil
    split
    · unfold spanOfM
      split
      · exact all_told (all_span (keeps_not hj mode) (q 0 (by omega)) (q 1 (by omega)) (q 2 (by omega)))
      · exact All.nil
    split
    · unfold spanOfM
      split
      · exact all_told (all_span (keeps_each hj mode) (q 0 (by omega)) (q 1 (by omega)) (q 2 (by omega)))
      · exact All.nil
    · unfold plusM
      split
      · rename_i hn
        intro y hy
        unfold latesM at hy
        obtain ⟨o, ho, rfl⟩ := List.mem_map.1 hy
        obtain ⟨h1, h2⟩ := List.mem_filter.1 ho
        exact hp _ _ hn.2.1 (q 0 (by omega) o h1) h2
      · exact All.nil
/- What is meant is right: in order, few, of right occurrences, none behind the last event. -/
theorem idsUp_of : ∀ {l : List Int} {p : Int}, Up l → (∀ x ∈ l, p < x ∧ x ≤ 23) → idsUp p l = true
  | [], _, _, _ => rfl
  | x :: l, p, hu, h => by
    have hu' := List.pairwise_cons.1 hu
    have := h x (by simp)
    simp only [idsUp, Bool.and_eq_true, decide_eq_true_eq]
    exact ⟨this, idsUp_of hu'.2 fun y hy => ⟨hu'.1 y hy, (h y (by simp [hy])).2⟩⟩
theorem occOk_iff (o : GOcc) : occOk o = true ↔ 1 ≤ o.From ∧ o.From ≤ o.To ∧ o.To ≤ 2000 ∧ 1 ≤ o.Ids.length ∧ IdsOk o.Ids := by
  unfold occOk
  simp only [Bool.and_eq_true, decide_eq_true_eq]
  constructor
  · rintro ⟨⟨⟨⟨a, b⟩, c⟩, d⟩, e⟩
    exact ⟨a, b, c, d, idsOk_of e⟩
  · rintro ⟨a, b, c, d, e⟩
    exact ⟨⟨⟨⟨a, b⟩, c⟩, d⟩, idsUp_of e.1 fun x hx => by have := e.2 x hx; omega⟩
theorem occsOk_of {l : List GOcc} (h1 : All (fun o => occOk o = true) l) (h2 : Asc l) (h3 : l.length ≤ 40) : occsOk l = true := by
  unfold occsOk
  simp only [Bool.and_eq_true, List.all_eq_true, List.mem_range', decide_eq_true_eq]
  refine ⟨?_, h3⟩
  rintro i ⟨j, hj, rfl⟩
  rw [show 0 + 1 * j = j by omega]
  unfold occGood
  rw [List.getElem?_eq_getElem hj]
  simp only [Bool.and_eq_true]
  refine ⟨h1 _ (List.getElem_mem hj), ?_⟩
  cases j with
  | zero => rfl
  | succ j =>
    simp only [occPrev, List.getElem?_eq_getElem (show j < l.length by omega)]
    exact List.pairwise_iff_getElem.1 h2 _ _ _ _ (by omega)
/-- right, and not behind T -/
def Good (T : Int) (o : GOcc) : Prop := occOk o = true ∧ o.To ≤ T
theorem union_pos {a b : List Int} (h : 1 ≤ a.length) : 1 ≤ (unionM a b).length := by
  cases a with
  | nil => simp at h
  | cons x a => exact List.length_pos_of_mem (mem_unionM.2 (.inl (by simp : x ∈ x :: a)))
theorem good_join (T : Int) : Joins (Good T) := fun a b ha hb => by
  obtain ⟨a0, a5⟩ := ha
  obtain ⟨b0, b5⟩ := hb
  obtain ⟨a1, a2, a3, a4, a6⟩ := (occOk_iff a).1 a0
  obtain ⟨b1, b2, b3, b4, b6⟩ := (occOk_iff b).1 b0
  refine ⟨(occOk_iff _).2 ⟨?_, ?_, ?_, union_pos a4, idsOk_union a6 b6⟩, ?_⟩ <;> simp only [joinM] <;> omega
/-- events that rise in time -/
def EvsUp (l : List GEv) : Prop := l.Pairwise (fun a b => a.At < b.At) ∧ (∀ e ∈ l, 1 ≤ e.At ∧ e.At ≤ 1000) ∧ l.length ≤ 24
theorem evsUp_of {l : List GEv} (h : evsOk l = true) : EvsUp l := by
  have h24 := evsOk_len h
  refine ⟨?_, fun e he => by have := evsOk_ok h he; unfold evOk at this; simp only [Bool.and_eq_true, decide_eq_true_eq] at this; omega, h24⟩
  unfold evsOk at h
  simp only [Bool.and_eq_true, List.all_eq_true, List.mem_range', decide_eq_true_eq] at h
  have step : ∀ i (hi : i + 1 < l.length), l[i].At < l[i + 1].At := fun i hi => by
    have := h.1 (i + 1) ⟨i + 1, by omega, by omega⟩
    unfold evGood at this
    rw [List.getElem?_eq_getElem hi] at this
    simp only [Bool.and_eq_true, prevOk, List.getElem?_eq_getElem (show i < l.length by omega), decide_eq_true_eq] at this
    exact this.2
  have far : ∀ d i (hi : i + d + 1 < l.length), l[i].At < l[i + d + 1].At := fun d => by
    induction d with
    | zero => intro i hi; exact step i hi
    | succ d ih => intro i hi; have := ih i (by omega); have := step (i + d + 1) hi; simp only [show i + (d + 1) + 1 = i + d + 1 + 1 by omega]; omega
  refine List.pairwise_iff_getElem.2 fun i j hi hj hij => ?_
  have := far (j - i - 1) i (by omega)
  have e : i + (j - i - 1) + 1 = j := by omega
  simp only [e] at this
  exact this
theorem endM_ge {l : List GEv} (h : EvsUp l) : ∀ e ∈ l, e.At ≤ endM l := fun e he => by
  unfold endM
  obtain ⟨i, hi, rfl⟩ := List.mem_iff_getElem.1 he
  rw [List.getLast?_eq_getElem?, List.getElem?_eq_getElem (show l.length - 1 < l.length by omega)]
  dsimp only
  rcases Nat.lt_or_ge i (l.length - 1) with h1 | h1
  · have := List.pairwise_iff_getElem.1 h.1 i (l.length - 1) (by omega) (by omega) h1; omega
  · have e : i = l.length - 1 := by omega
    simp only [e]; omega
theorem endM_le {l : List GEv} (h : EvsUp l) : endM l ≤ 1000 := by
  unfold endM
  split
  · rename_i e he
    have := h.2.1 e (List.mem_of_getLast? he)
    omega
  · omega
theorem mem_symFrom {sym : Int} {o : GOcc} : ∀ {l : List GEv} {i : Nat}, o ∈ symFrom sym i l → ∃ j e, l[j]? = some e ∧ e.Sym = sym ∧ o = ⟨e.At, e.At, [((i + j : Nat) : Int)]⟩
  | [], i, h => by simp [symFrom] at h
  | e :: l, i, h => by
    unfold symFrom at h
    have step : o ∈ symFrom sym (i + 1) l → ∃ j e', (e :: l)[j]? = some e' ∧ e'.Sym = sym ∧ o = ⟨e'.At, e'.At, [((i + j : Nat) : Int)]⟩ := fun h => by
      obtain ⟨j, e', h1, h2, h3⟩ := mem_symFrom h
      exact ⟨j + 1, e', by simpa using h1, h2, by rw [h3, show i + 1 + j = i + (j + 1) by omega]⟩
    split at h
    · rcases List.mem_cons.1 h with h1 | h1
      · rename_i hs
        exact ⟨0, e, rfl, hs, by rw [h1]; rfl⟩
      · exact step h1
    · exact step h
theorem asc_symFrom {sym : Int} : ∀ {l : List GEv} {i : Nat}, l.Pairwise (fun a b => a.At < b.At) → Asc (symFrom sym i l)
  | [], i, _ => by simp [symFrom, Asc]
  | e :: l, i, h => by
    have h' := List.pairwise_cons.1 h
    unfold symFrom
    split
    · refine List.pairwise_cons.2 ⟨fun o ho => ?_, asc_symFrom h'.2⟩
      obtain ⟨j, e', h1, h2, rfl⟩ := mem_symFrom ho
      have := h'.1 e' (List.mem_of_getElem? h1)
      rw [occLess_iff]
      exact .inl this
    · exact asc_symFrom h'.2
theorem sym_good {l : List GEv} (h : EvsUp l) (sym : Int) : All (Good (endM l)) (symFrom sym 0 l) := fun o ho => by
  obtain ⟨j, e, h1, h2, rfl⟩ := mem_symFrom ho
  have hm := List.mem_of_getElem? h1
  have := h.2.1 e hm
  have := endM_ge h e hm
  have hj : j < l.length := by
    rcases Nat.lt_or_ge j l.length with q | q
    · exact q
    · rw [List.getElem?_eq_none q] at h1; cases h1
  have := h.2.2
  refine ⟨(occOk_iff _).2 ⟨by dsimp only; omega, by dsimp only; omega, by dsimp only; omega, by simp, ⟨by simp [Up], fun x hx => ?_⟩⟩, by dsimp only; omega⟩
  have := List.mem_singleton.1 hx
  omega
theorem asc_told {l : List GOcc} (h : Asc l) : Asc (told l).1 ∧ (told l).1.length ≤ 40 := by
  unfold told
  split
  · exact ⟨by simp [Asc], by simp⟩
  · exact ⟨h, by dsimp only; omega⟩
theorem mean_good {mode : Int} {l : List GEv} (h : EvsUp l) (x : GEx) (hf : exForm x = true) : All (Good (endM l)) (meanM mode l x).1 :=
  all_mean (good_join _) x hf (fun s _ => sym_good h s) fun n o hn ho hi => by
    unfold inTime at hi
    simp only [Bool.and_eq_true, decide_eq_true_eq] at hi
    obtain ⟨a1, a2, a3, a4, a5⟩ := (occOk_iff o).1 ho.1
    exact ⟨(occOk_iff _).2 ⟨by simp only [latM]; omega, by simp only [latM]; omega, by simp only [latM]; omega, by simpa only [latM] using a4, by simpa only [latM] using a5⟩, by simp only [latM]; omega⟩
theorem mean_asc {mode : Int} {l : List GEv} (h : EvsUp l) (x : GEx) (hf : exForm x = true) : Asc (meanM mode l x).1 ∧ (meanM mode l x).1.length ≤ 40 := by
  have nil : Asc ([] : List GOcc) ∧ ([] : List GOcc).length ≤ 40 := ⟨by simp [Asc], by simp⟩
  rw [meanM_eq]
  split
  · exact ⟨asc_symFrom h.1, by have := (symFrom_facts x.Sym l 0).1; have := h.2.2; dsimp only; omega⟩
  split
  · exact nil
  unfold combM
  split
  · unfold orM
    split
    · rename_i hh; exact asc_told (asc_mergeM (asc_of_ok hh.1))
    · exact nil
  split
  · unfold pairOfM
    split
    · rename_i hh; exact asc_told (pair_ok (andF_ok mode) hh.1 hh.2).1
    · exact nil
  split
  · unfold pairOfM
    split
    · rename_i hh; exact asc_told (pair_ok (seqF_ok mode) hh.1 hh.2).1
    · exact nil
  split
  · unfold spanOfM
    split
    · rename_i hh; exact asc_told (span_ok (notF_ok mode) hh.1 hh.2.1 hh.2.2).1
    · exact nil
  split
  · unfold spanOfM
    split
    · rename_i hh; exact asc_told (span_ok (eachF_ok mode) hh.1 hh.2.1 hh.2.2).1
    · exact nil
  · unfold plusM
    split
    · rename_i hh; exact ⟨asc_lates (asc_of_ok hh.1), Nat.le_trans (latesM_len _ _ _) (occsOk_len hh.1)⟩
    · exact nil
theorem mean_ok {mode : Int} {l : List GEv} (h : EvsUp l) (x : GEx) (hf : exForm x = true) : occsOk (meanM mode l x).1 = true := by
  obtain ⟨a, b⟩ := mean_asc (mode := mode) h x hf
  exact occsOk_of (fun o ho => (mean_good h x hf o ho).1) a b
theorem meanOf_ok (x : GEx) (mode : Int) (l : List GEv) : occsOk (meanOf x mode l).1 = true := by
  unfold meanOf
  split
  · rename_i h
    exact mean_ok (evsUp_of h.2.2) x (exOk_form h.1).2
  · exact occsOk_nil
/- All events of all that is meant: both programs. -/
theorem union_eq (k : Nat) (hk : 1000000000000 ≤ k) (a b : List Int) (ha : a.length ≤ 1000) (hb : b.length ≤ 1000) : spec_l3Union.f k a b = some (unionM a b) := by
  unfold spec_l3Union.f
  have := union_loop k a b ha hb (a.length + b.length) 0 0 k [] (by omega) (by omega) (by omega) (by omega) (by simp)
  rw [show ((0 : Nat) : Int) = 0 from rfl] at this
  rw [this]; rfl
def usedM (l : List GOcc) : List Int := l.foldl (fun s o => unionM s o.Ids) []
theorem idsOk_nil : IdsOk [] := ⟨by simp [Up], fun x hx => by simp at hx⟩
theorem used_ok : ∀ {l : List GOcc} {acc : List Int}, Ids l → IdsOk acc → IdsOk (l.foldl (fun s o => unionM s o.Ids) acc)
  | [], acc, _, h => h
  | x :: l, acc, hl, h => used_ok (l := l) (fun o ho => hl o (by simp [ho])) (idsOk_union h (hl x (by simp)))
theorem mem_used {z : Int} : ∀ {l : List GOcc} {acc : List Int}, z ∈ l.foldl (fun s o => unionM s o.Ids) acc ↔ z ∈ acc ∨ ∃ o ∈ l, z ∈ o.Ids
  | [], acc => by simp
  | x :: l, acc => by
    rw [List.foldl_cons, mem_used (l := l), mem_unionM]
    simp only [List.mem_cons, exists_eq_or_imp, or_assoc]
theorem set_self {α : Type} (l : List α) (i : Nat) (h : i < l.length) : l.set i l[i] = l := by
  refine List.ext_getElem (by simp) fun j h1 h2 => ?_
  rw [List.getElem_set]
  split
  · rename_i e; subst e; rfl
  · rfl
theorem loop_invE {α σ τ : Type} (ret : σ → τ) (l : List α) (L : Nat → σ → Int → Option τ) (g : σ → α → σ) (Inv : Nat → σ → Prop)
    (hend : ∀ n s, Inv l.length s → L (n + 1) s (l.length : Int) = some (ret s))
    (hstep : ∀ n s (i : Nat) (h : i < l.length), Inv i s → L (n + 1) s (i : Int) = L n (g s l[i]) ((i + 1 : Nat) : Int) ∧ Inv (i + 1) (g s l[i])) (n : Nat) (s : σ) (hn : l.length < n) (hI : Inv 0 s) :
    L n s 0 = some (ret (l.foldl g s)) ∧ Inv l.length (l.foldl g s) := by
  have : ∀ (d i n : Nat) (s : σ), i + d = l.length → d < n → Inv i s → L n s (i : Int) = some (ret ((l.drop i).foldl g s)) ∧ Inv l.length ((l.drop i).foldl g s) := by
    intro d
    induction d with
    | zero =>
      intro i n s hi hn hI
      obtain ⟨n, rfl⟩ : ∃ m, n = m + 1 := ⟨n - 1, by omega⟩
      have e : i = l.length := by omega
      subst e
      rw [hend n s hI, List.drop_length]
      exact ⟨rfl, hI⟩
    | succ d ih =>
      intro i n s hi hn hI
      obtain ⟨n, rfl⟩ : ∃ m, n = m + 1 := ⟨n - 1, by omega⟩
      have hlt : i < l.length := by omega
      obtain ⟨h1, h2⟩ := hstep n s i hlt hI
      rw [h1, List.drop_eq_getElem_cons hlt]
      exact ih (i + 1) n _ (by omega) (by omega) h2
  have := this l.length 0 n s (by omega) hn hI
  simpa using this
theorem spec_MeanUsed_of (k : Nat) (hk : 1000000000000 ≤ k) (x : GEx) (mode : Int) (l : List GEv) (h' : spec_MeanOf.f k x mode l = some (meanOf x mode l)) : spec_MeanUsed.f k x mode l = some (usedM (meanOf x mode l).1) := by
  have ok := meanOf_ok x mode l
  unfold spec_MeanUsed.f
  rw [h']
  simp only [Option.bind_some]
  generalize (meanOf x mode l).1 = r at ok
  have l1 := occsOk_len ok
  have q := loop_invE (fun s : List GOcc × List Int => s.2) r (fun n s i => spec_MeanUsed.l0 k n s.1 s.2 i) (fun s o => (s.1, unionM s.2 o.Ids)) (fun i s => s.1 = r ∧ IdsOk s.2)
    (fun n s hI => by rw [hI.1, spec_MeanUsed.l0, if_neg (by omega)])
    (fun n s i hi hI => by
      obtain ⟨e, hI⟩ := hI
      refine ⟨?_, e, idsOk_union hI (ids_of_ok ok _ (List.getElem_mem hi))⟩
      have l2 := idsOk_len hI
      have l3 := idsOk_len (ids_of_ok ok _ (List.getElem_mem hi))
      rw [e, spec_MeanUsed.l0, if_pos (by omega), req_pos (by omega), req_pos (by omega), Int.toNat_natCast, List.getElem?_eq_getElem hi]
      simp only [Option.bind_some]
      rw [union_eq k (by omega) _ _ (by omega) (by omega)]
      simp only [Option.bind_some]
      rw [wrS i (by omega), set_self])
    k (r, []) (by omega) ⟨rfl, idsOk_nil⟩
  have e : ∀ (m : List GOcc) (a : List GOcc) (b : List Int), (m.foldl (fun (s : List GOcc × List Int) o => (s.1, unionM s.2 o.Ids)) (a, b)).2 = m.foldl (fun s o => unionM s o.Ids) b := fun m => by
    induction m with
    | nil => intro a b; rfl
    | cons x m ih => intro a b; rw [List.foldl_cons, List.foldl_cons, ih]
  have q' : spec_MeanUsed.l0 k k r [] 0 = some (usedM r) := by
    have := q.1
    rw [e] at this
    exact this
  rw [q']; rfl
theorem spec_MeanUsed_eq (x : GEx) (mode : Int) (l : List GEv) (hx : exN x ≤ 1048577) (hl : l.length < 4611686018427387904) : Evn (fun k => spec_MeanUsed.f k x mode l) (usedM (meanOf x mode l).1) := by
  obtain ⟨K, h⟩ := spec_MeanOf_eq x mode l hx hl
  exact ⟨K + 1000000000000, fun k hk => spec_MeanUsed_of k (by omega) x mode l (h k (by omega))⟩
theorem impl_MeanUsed_of (k : Nat) (hk : 1000000000000 ≤ k) (x : GEx) (mode : Int) (l : List GEv) (h' : impl_MeanOf.f k x mode l = some (meanOf x mode l)) : impl_MeanUsed.f k x mode l = some (usedM (meanOf x mode l).1) := by
  have ok := meanOf_ok x mode l
  unfold impl_MeanUsed.f
  rw [h']
  simp only [Option.bind_some]
  generalize meanOf x mode l = r at ok
  have l1 := occsOk_len ok
  have q := loop_invE (fun s : List Int × List GOcc => s.1) r.1 (fun n s i => impl_MeanUsed.l0 k r n s.1 s.2 i) (fun s o => (s.1 ++ o.Ids, s.2)) (fun i s => s.2 = r.1 ∧ s.1.length ≤ 24 * i)
    (fun n s hI => by rw [impl_MeanUsed.l0, if_neg (by omega)])
    (fun n s i hi hI => by
      obtain ⟨e, hI⟩ := hI
      have l3 := idsOk_len (ids_of_ok ok _ (List.getElem_mem hi))
      refine ⟨?_, e, by simp; omega⟩
      rw [e, impl_MeanUsed.l0, if_pos (by omega), req_pos (by omega), req_pos (by omega), Int.toNat_natCast, List.getElem?_eq_getElem hi]
      simp only [Option.bind_some]
      rw [req_pos (by omega), wrS i (by omega), set_self])
    k ([], r.1) (by omega) ⟨rfl, by simp⟩
  have e : ∀ (m : List GOcc) (a : List Int) (b : List GOcc), (m.foldl (fun (s : List Int × List GOcc) o => (s.1 ++ o.Ids, s.2)) (a, b)).1 = a ++ (m.map (·.Ids)).flatten := fun m => by
    induction m with
    | nil => intro a b; simp
    | cons x m ih => intro a b; rw [List.foldl_cons, ih]; simp
  obtain ⟨q1, q2⟩ := q
  have b1 := q2.2
  rw [e, List.nil_append] at q1 b1
  have q' : impl_MeanUsed.l0 k r k [] r.1 0 = some ((r.1.map (·.Ids)).flatten) := q1
  rw [q']
  simp only [Option.bind_some]
  unfold slices_Sort.f slices_Compact.f
  have es : (r.1.map (·.Ids)).flatten.mergeSort (fun x y => decide (x ≤ y)) = sortM (r.1.map (·.Ids)).flatten := rfl
  have ls := length_sortM (r.1.map (·.Ids)).flatten
  have eu : uniq (sortM (r.1.map (·.Ids)).flatten) = usedM r.1 := by
    refine up_ext (up_uniq (sortM_le _)) (used_ok (ids_of_ok ok) idsOk_nil).1 fun z => ?_
    rw [mem_uniq, mem_sortM, usedM, mem_used]
    simp only [List.mem_flatten, List.mem_map, List.not_mem_nil, false_or]
    constructor
    · rintro ⟨_, ⟨o, h1, rfl⟩, h2⟩; exact ⟨o, h1, h2⟩
    · rintro ⟨o, h1, h2⟩; exact ⟨_, ⟨o, h1, rfl⟩, h2⟩
  have lu := idsOk_len (used_ok (ids_of_ok ok) idsOk_nil)
  rw [req_pos (by omega), es]
  simp only [Option.bind_some]
  rw [req_pos ls, req_pos (by omega), eu]
  simp only [Option.bind_some]
  rw [req_pos (show (usedM r.1).length * 8 ≤ 140737488355328 by unfold usedM; omega)]
theorem impl_MeanUsed_eq (x : GEx) (mode : Int) (l : List GEv) (hx : exN x ≤ 1048577) (hl : l.length < 4611686018427387904) : Evn (fun k => impl_MeanUsed.f k x mode l) (usedM (meanOf x mode l).1) := by
  obtain ⟨K, h⟩ := impl_MeanOf_eq x mode l hx hl
  exact ⟨K + 1000000000000, fun k hk => impl_MeanUsed_of k (by omega) x mode l (h k (by omega))⟩
/- Trees: sizes, copies. -/
theorem szExS_loop (k : Nat) (rec' : GEx → Int → Option Int) (l : List GEx)
    (H : ∀ e ∈ l, ∀ s : Int, 0 ≤ s → s ≤ 1048576 → rec' e s = some (if (exNs e.Kids : Int) ≤ s then s - exNs e.Kids else -1)) (hl : l.length < 4611686018427387904) :
    ∀ (d n i : Nat) (s : Int), i + d = l.length → d < n → 0 ≤ s → s ≤ 1048576 →
      laws_szExS.l0 k rec' l n s (i : Int) = some (if ((exNs (l.drop i) : Nat) : Int) - ((l.drop i).length : Nat) ≤ s then .ok (s - (((exNs (l.drop i) : Nat) : Int) - ((l.drop i).length : Nat))) else .error (-1)) := by
  intro d
  induction d with
  | zero =>
    intro n i s hi hn h0 h1
    obtain ⟨n, rfl⟩ : ∃ m, n = m + 1 := ⟨n - 1, by omega⟩
    rw [laws_szExS.l0, if_neg (by omega), List.drop_eq_nil_of_le (by omega), exNs_nil]
    simp [h0]
  | succ d ih =>
    intro n i s hi hn h0 h1
    obtain ⟨n, rfl⟩ : ∃ m, n = m + 1 := ⟨n - 1, by omega⟩
    have hlt : i < l.length := by omega
    rw [laws_szExS.l0, if_pos (by omega), req_pos (by omega), Int.toNat_natCast, List.getElem?_eq_getElem hlt, List.drop_eq_getElem_cons hlt, exNs_cons, exN_eq]
    simp only [Option.bind_some, H l[i] (List.getElem_mem hlt) s h0 h1, List.length_cons]
    have hq := exNs_len (l.drop (i + 1))
    by_cases h : (exNs l[i].Kids : Int) ≤ s
    · rw [if_pos h, if_neg (by omega), wrS i (by omega), ih n (i + 1) _ (by omega) (by omega) (by omega) (by omega)]
      by_cases h2 : ((exNs (l.drop (i + 1)) : Nat) : Int) - ((l.drop (i + 1)).length : Nat) ≤ s - exNs l[i].Kids
      · rw [if_pos h2, if_pos (by push_cast; omega)]
        congr 2; push_cast; omega
      · rw [if_neg h2, if_neg (by push_cast; omega)]
    · rw [if_neg h, if_pos (by decide), if_neg (by push_cast; omega)]
theorem szExS_k (l : List GEx) (hl : l.length < 4611686018427387904)
    (H : ∀ e ∈ l, ∀ (k : Nat) (s : Int), 3 * exN e ≤ k → 0 ≤ s → s ≤ 1048576 → laws_szEx.f k e s = some (if (exNs e.Kids : Int) ≤ s then s - exNs e.Kids else -1)) :
    ∀ (k : Nat) (s : Int), 3 * exNs l + 2 ≤ k → 0 ≤ s → s ≤ 1048576 → laws_szExS.f k l s = some (if (exNs l : Int) ≤ s then s - exNs l else -1) := by
  intro k s hk h0 h1
  obtain ⟨k, rfl⟩ : ∃ m, k = m + 1 := ⟨k - 1, by omega⟩
  have hq := exNs_len l
  rw [laws_szExS.f, wr (s - _) (by omega)]
  by_cases h : s - (l.length : Int) < 0
  · rw [if_pos h, if_neg (by omega)]
  · rw [if_neg h]
    have := szExS_loop k (laws_szEx.f k) l (fun e he s g0 g1 => H e he k s (by have := exNs_mem he; omega) g0 g1) hl l.length k 0 (s - l.length) (by omega) (by omega) (by omega) (by omega)
    rw [show ((0 : Nat) : Int) = 0 from rfl, List.drop_zero] at this
    rw [this]
    by_cases h2 : (exNs l : Int) ≤ s
    · rw [if_pos (by omega), if_pos h2]
      simp only [Option.bind_some, Option.some.injEq]; omega
    · rw [if_neg (by omega), if_neg h2]; rfl
theorem szEx_k : ∀ e : GEx, exSm e → ∀ (k : Nat) (s : Int), 3 * exN e ≤ k → 0 ≤ s → s ≤ 1048576 → laws_szEx.f k e s = some (if (exNs e.Kids : Int) ≤ s then s - exNs e.Kids else -1) := by
  refine exInd fun e ih hs k s hk h0 h1 => ?_
  obtain ⟨hl, hks⟩ := exSm_eq hs
  rw [exN_eq] at hk
  obtain ⟨k, rfl⟩ : ∃ m, k = m + 1 := ⟨k - 1, by omega⟩
  rw [laws_szEx.f, szExS_k e.Kids hl (fun x hx k s => ih x hx (hks x hx) k s) k s (by omega) h0 h1]
  simp only [Option.bind_some]
  by_cases h : (exNs e.Kids : Int) ≤ s
  · rw [if_pos h, if_neg (by omega)]
  · rw [if_neg h, if_pos (by decide)]
/- copies -/
theorem toExS_loop (k : Nat) (rec' : GEx → Option GEx) (l : List GEx) (hl : l.length < 4611686018427387904) (H : ∀ e ∈ l, rec' e = some e) :
    ∀ (d n i : Nat) (acc : List GEx), i + d = l.length → d < n → acc.length = l.length → acc.take i = l.take i → laws_toExS.l0 k rec' l n acc (i : Int) = some l := by
  intro d
  induction d with
  | zero =>
    intro n i acc hi hn ha ht
    obtain ⟨n, rfl⟩ : ∃ m, n = m + 1 := ⟨n - 1, by omega⟩
    rw [laws_toExS.l0, if_neg (by omega)]
    rw [show i = l.length by omega, List.take_length, ← ha, List.take_length] at ht
    rw [ht]
  | succ d ih =>
    intro n i acc hi hn ha ht
    obtain ⟨n, rfl⟩ : ∃ m, n = m + 1 := ⟨n - 1, by omega⟩
    have hlt : i < l.length := by omega
    rw [laws_toExS.l0, if_pos (by omega), req_pos (by omega), Int.toNat_natCast, List.getElem?_eq_getElem hlt]
    simp only [Option.bind_some, H l[i] (List.getElem_mem hlt)]
    rw [req_pos (by omega), req_pos (by omega), List.getElem?_eq_getElem (show i < acc.length by omega)]
    simp only [Option.bind_some]
    rw [wrS i (by omega)]
    refine ih n (i + 1) _ (by omega) (by omega) (by simpa using ha) ?_
    rw [List.take_add_one, List.take_set_of_le (Nat.le_refl _), ht, List.take_add_one]
    simp [hlt, ha]
theorem toEx_k : ∀ e : GEx, exN e ≤ 1048577 → ∀ k : Nat, 3 * exN e ≤ k → laws_toEx.f k e = some e := by
  refine exInd fun e ih hs k hk => ?_
  rw [exN_eq] at hk hs
  have hq := exNs_len e.Kids
  obtain ⟨k, rfl⟩ : ∃ m, k = m + 2 := ⟨k - 2, by omega⟩
  rw [laws_toEx.f, laws_toExS.f, req_pos (by omega), req_pos (by omega), req_pos (by omega)]
  have := toExS_loop k (laws_toEx.f k) e.Kids (by omega) (fun x hx => ih x hx (by have := exNs_mem hx; omega) k (by have := exNs_mem hx; omega)) e.Kids.length k 0 (List.replicate e.Kids.length ⟨0, 0, 0, []⟩) (by omega) (by omega) (by simp) (by simp)
  rw [show ((0 : Nat) : Int) = 0 from rfl] at this
  rw [this]; cases e; rfl
theorem eqExS_loop (k : Nat) (rec' : GEx → GEx → Option Bool) (l : List GEx) (hl : l.length < 4611686018427387904) (H : ∀ e ∈ l, rec' e e = some true) :
    ∀ (d n i : Nat), i + d = l.length → d < n → laws_eqExS.l0 k rec' l l n (i : Int) = some (.ok ()) := by
  intro d
  induction d with
  | zero =>
    intro n i hi hn
    obtain ⟨n, rfl⟩ : ∃ m, n = m + 1 := ⟨n - 1, by omega⟩
    rw [laws_eqExS.l0, if_neg (by omega)]
  | succ d ih =>
    intro n i hi hn
    obtain ⟨n, rfl⟩ : ∃ m, n = m + 1 := ⟨n - 1, by omega⟩
    have hlt : i < l.length := by omega
    rw [laws_eqExS.l0, if_pos (by omega), req_pos (by omega), Int.toNat_natCast, List.getElem?_eq_getElem hlt]
    simp only [Option.bind_some]
    rw [req_pos (by omega)]
    simp only [H l[i] (List.getElem_mem hlt), Option.bind_some, if_true]
    rw [wrS i (by omega)]
    exact ih n (i + 1) (by omega) (by omega)
theorem eqEx_k : ∀ e : GEx, exN e ≤ 1048577 → ∀ k : Nat, 3 * exN e ≤ k → laws_eqEx.f k e e = some true := by
  refine exInd fun e ih hs k hk => ?_
  rw [exN_eq] at hk hs
  have hq := exNs_len e.Kids
  obtain ⟨k, rfl⟩ : ∃ m, k = m + 2 := ⟨k - 2, by omega⟩
  rw [laws_eqEx.f, if_pos rfl, if_pos rfl, if_pos rfl, laws_eqExS.f, if_pos rfl]
  have := eqExS_loop k (laws_eqEx.f k) e.Kids (by omega) (fun x hx => ih x hx (by have := exNs_mem hx; omega) k (by have := exNs_mem hx; omega)) e.Kids.length k 0 (by omega) (by omega)
  rw [show ((0 : Nat) : Int) = 0 from rfl] at this
  rw [this]; rfl
/- marks -/
/- Trees: marks. -/
mutual
def mkEx : Int → GEx → GEx
  | j, ⟨_, _, _, ks⟩ => ⟨j, j + 1, j + 2, mkExs (j + 3) ks⟩
def mkExs : Int → List GEx → List GEx
  | _, [] => []
  | j, x :: xs => mkEx j x :: mkExs (j + 3 * exN x) xs
end
theorem mkEx_eq (j : Int) (e : GEx) : mkEx j e = ⟨j, j + 1, j + 2, mkExs (j + 3) e.Kids⟩ := by cases e; simp only [mkEx]
theorem mkExs_nil (j : Int) : mkExs j [] = [] := by simp only [mkExs]
theorem mkExs_cons (j : Int) (x : GEx) (xs : List GEx) : mkExs j (x :: xs) = mkEx j x :: mkExs (j + 3 * exN x) xs := by simp only [mkExs]
theorem mkExs_len : ∀ (l : List GEx) (j : Int), (mkExs j l).length = l.length
  | [], j => by rw [mkExs_nil]
  | x :: xs, j => by rw [mkExs_cons]; simp only [List.length_cons, mkExs_len xs]
theorem markExS_loop (k : Nat) (rec' : List GEx → Int → Option (Int × List GEx)) : ∀ (l done : List GEx) (n : Nat) (s : Int),
    (∀ e ∈ l, ∀ j : Int, 0 ≤ j → j + 3 * exNs e.Kids ≤ 100000000 → rec' e.Kids j = some (j + 3 * exNs e.Kids, mkExs j e.Kids)) →
    done.length + l.length ≤ 1048577 → l.length < n → 0 ≤ s → s + 3 * exNs l ≤ 100000000 →
    laws_markExS.l0 k rec' n (done ++ l) s (done.length : Nat) = some (s + 3 * exNs l, done ++ mkExs s l)
  | [], done, n, s, H, hl, hn, h0, h1 => by
    obtain ⟨n, rfl⟩ : ∃ m, n = m + 1 := ⟨n - 1, by omega⟩
    rw [laws_markExS.l0, if_neg (by simp), exNs_nil, mkExs_nil]; simp
  | x :: xs, done, n, s, H, hl, hn, h0, h1 => by
    obtain ⟨n, rfl⟩ : ∃ m, n = m + 1 := ⟨n - 1, by omega⟩
    rw [exNs_cons, exN_eq] at h1
    simp only [List.length_cons] at hl hn
    have hx := H x (List.mem_cons_self ..) (s + 3) (by omega) (by push_cast at h1; omega)
    rw [laws_markExS.l0, if_pos (by simp; omega)]
    repeat rw [req_pos (show (0 : Int) ≤ ((done.length : Nat) : Int) by omega)]
    repeat rw [req_pos (show ((done.length : Nat) : Int) < ((done ++ x :: xs).length : Nat) by simp; omega)]
    rw [Int.toNat_natCast, List.getElem?_append_right (Nat.le_refl _), Nat.sub_self]
    simp only [List.getElem?_cons_zero, Option.bind_some, List.set_set]
    repeat rw [req_pos (show (0 : Int) ≤ ((done.length : Nat) : Int) by omega)]
    repeat rw [req_pos (show ((done.length : Nat) : Int) < ((done ++ x :: xs).length : Nat) by simp; omega)]
    push_cast at h1
    rw [wr (s + 1) (by omega), wr (s + 1 + 1) (by omega), wr (s + 1 + 1 + 1) (by omega), show s + 1 + 1 + 1 = s + 3 by omega, show s + 1 + 1 = s + 2 by omega, hx]
    simp only [Option.bind_some]
    rw [req_pos (mkExs_len _ _), wrS done.length (by omega)]
    have e : (done ++ x :: xs).set done.length ⟨s, s + 1, s + 2, mkExs (s + 3) x.Kids⟩ = (done ++ [mkEx s x]) ++ xs := by
      rw [List.set_append_right _ _ (Nat.le_refl _), Nat.sub_self, List.set_cons_zero, mkEx_eq]; simp
    have := markExS_loop k rec' xs (done ++ [mkEx s x]) n (s + 3 * exN x) (fun e he => H e (List.mem_cons_of_mem _ he)) (by simp; omega) (by omega) (by omega) (by rw [exN_eq]; push_cast; omega)
    rw [e, show s + 3 + 3 * ((exNs x.Kids : Nat) : Int) = s + 3 * ((exN x : Nat) : Int) by rw [exN_eq]; push_cast; omega]
    rw [show (done ++ [mkEx s x]).length = done.length + 1 by simp] at this
    rw [this, exNs_cons, mkExs_cons, List.append_assoc]
    congr 2; push_cast; omega
theorem markExS_all : ∀ e : GEx, exN e ≤ 1048577 → ∀ (k : Nat) (j : Int), 3 * exN e ≤ k → 0 ≤ j → j + 3 * exNs e.Kids ≤ 100000000 → laws_markExS.f k e.Kids j = some (j + 3 * exNs e.Kids, mkExs j e.Kids) := by
  refine exInd fun e ih hs k j hk h0 h1 => ?_
  rw [exN_eq] at hk hs
  have hq := exNs_len e.Kids
  obtain ⟨k, rfl⟩ : ∃ m, k = m + 1 := ⟨k - 1, by omega⟩
  have := markExS_loop k (laws_markExS.f k) e.Kids [] k j (fun x hx j g0 g1 => ih x hx (by have := exNs_mem hx; omega) k j (by have := exNs_mem hx; omega) g0 g1) (by simp; omega) (by omega) h0 h1
  rw [laws_markExS.f]
  rw [show (([] : List GEx).length : Nat) = 0 from rfl, List.nil_append] at this
  rw [show ((0 : Nat) : Int) = 0 from rfl] at this
  rw [this]; rfl
/- Events: copies, and both alike. -/
/- copies, comparisons, marks -/
theorem toEvS_loop (k : Nat) (l : List GEv) (hl : l.length < 4611686018427387904) : ∀ (d n i : Nat) (acc : List GEv), i + d = l.length → d < n → acc.length = l.length → acc.take i = l.take i →
    laws_toEvS.l0 k l n acc (i : Int) = some l := by
  intro d
  induction d with
  | zero =>
    intro n i acc hi hn ha ht
    obtain ⟨n, rfl⟩ : ∃ m, n = m + 1 := ⟨n - 1, by omega⟩
    rw [laws_toEvS.l0, if_neg (by omega)]
    rw [show i = l.length by omega, List.take_length, ← ha, List.take_length] at ht
    rw [ht]
  | succ d ih =>
    intro n i acc hi hn ha ht
    obtain ⟨n, rfl⟩ : ∃ m, n = m + 1 := ⟨n - 1, by omega⟩
    have hlt : i < l.length := by omega
    rw [laws_toEvS.l0, if_pos (by omega), req_pos (by omega), Int.toNat_natCast, List.getElem?_eq_getElem hlt]
    simp only [Option.bind_some, laws_toEv.f]
    rw [req_pos (by omega), req_pos (by omega), List.getElem?_eq_getElem (show i < acc.length by omega)]
    simp only [Option.bind_some]
    rw [wrS i (by omega)]
    refine ih n (i + 1) _ (by omega) (by omega) (by simpa using ha) ?_
    rw [List.take_add_one, List.take_set_of_le (Nat.le_refl _), ht, List.take_add_one]
    simp [hlt, ha]
theorem toEvS_eq (l : List GEv) (hl : l.length * 24 ≤ reachBytes) : Evn (fun k => laws_toEvS.f k l) l := by
  refine ⟨l.length + 1, fun k hk => ?_⟩
  dsimp only
  unfold laws_toEvS.f
  have hb := reach_le hl
  rw [req_pos (by omega), req_pos (by omega), req_pos (by omega)]
  have := toEvS_loop k l (reach_lt hl (by omega)) l.length k 0 (List.replicate l.length ⟨0, 0, 0⟩) (by omega) (by omega) (by simp) (by simp)
  rw [show ((0 : Nat) : Int) = 0 from rfl] at this
  rw [this]; rfl
theorem eqEv_refl (e : GEv) : laws_eqEv.f e e = some true := by unfold laws_eqEv.f; simp
theorem eqEvS_loop (k : Nat) (l : List GEv) (hl : l.length < 4611686018427387904) : ∀ (d n i : Nat), i + d = l.length → d < n → laws_eqEvS.l0 k l l n (i : Int) = some (.ok ()) := by
  intro d
  induction d with
  | zero =>
    intro n i hi hn
    obtain ⟨n, rfl⟩ : ∃ m, n = m + 1 := ⟨n - 1, by omega⟩
    rw [laws_eqEvS.l0, if_neg (by omega)]
  | succ d ih =>
    intro n i hi hn
    obtain ⟨n, rfl⟩ : ∃ m, n = m + 1 := ⟨n - 1, by omega⟩
    have hlt : i < l.length := by omega
    rw [laws_eqEvS.l0, if_pos (by omega), req_pos (by omega), Int.toNat_natCast, List.getElem?_eq_getElem hlt]
    simp only [Option.bind_some]
    rw [req_pos (by omega)]
    simp only [eqEv_refl, Option.bind_some, if_true]
    rw [wrS i (by omega)]
    exact ih n (i + 1) (by omega) (by omega)
theorem eqEvS_refl (l : List GEv) (hl : l.length < 4611686018427387904) : Evn (fun k => laws_eqEvS.f k l l) true := by
  refine ⟨l.length + 1, fun k hk => ?_⟩
  dsimp only
  unfold laws_eqEvS.f
  have := eqEvS_loop k l hl l.length k 0 (by omega) (by omega)
  rw [show ((0 : Nat) : Int) = 0 from rfl] at this
  rw [if_pos rfl, this]; rfl
/- Events: marks. -/
def markEv (j : Int) (i : Nat) : GEv := ⟨j + 3 * i, j + 3 * i + 1, j + 3 * i + 2⟩
theorem markEvS_loop (k : Nat) (m : Nat) (j : Int) (hm : m < 1152921504606846976) (hj : 0 ≤ j ∧ j < 1152921504606846976) : ∀ (d n i : Nat) (acc : List GEv), i + d = m → d < n → acc.length = m → (∀ t, t < i → acc[t]? = some (markEv j t)) →
    ∃ l', laws_markEvS.l0 k n acc (j + 3 * i) (i : Int) = some (j + 3 * m, l') ∧ l'.length = m ∧ ∀ t, t < m → l'[t]? = some (markEv j t) := by
  intro d
  induction d with
  | zero =>
    intro n i acc hi hn ha ht
    obtain ⟨n, rfl⟩ : ∃ m, n = m + 1 := ⟨n - 1, by omega⟩
    refine ⟨acc, ?_, ha, fun t h => ht t (by omega)⟩
    rw [laws_markEvS.l0, if_neg (by omega), show i = m by omega]
  | succ d ih =>
    intro n i acc hi hn ha ht
    obtain ⟨n, rfl⟩ : ∃ m, n = m + 1 := ⟨n - 1, by omega⟩
    have hlt : i < acc.length := by omega
    rw [laws_markEvS.l0, if_pos (by omega), req_pos (by omega), req_pos (by omega), Int.toNat_natCast, List.getElem?_eq_getElem hlt]
    simp only [Option.bind_some, List.set_set]
    try simp only [List.length_set]
    rw [req_pos (by omega), req_pos (by omega), req_pos (by omega), req_pos (by omega)]
    rw [wrS i (by omega), wr (j + 3 * i + 1) (by omega), wr (j + 3 * i + 1 + 1) (by omega), wr (j + 3 * i + 1 + 1 + 1) (by omega)]
    have e : j + 3 * (i : Int) + 1 + 1 + 1 = j + 3 * ((i + 1 : Nat) : Int) := by push_cast; omega
    rw [e]
    refine ih n (i + 1) _ (by omega) (by omega) (by simpa using ha) (fun t h => ?_)
    rw [List.getElem?_set]
    by_cases e2 : i = t
    · subst e2; rw [if_pos rfl, if_pos hlt]; simp only [markEv, Option.some.injEq, GEv.mk.injEq, true_and]; omega
    · rw [if_neg e2]; exact ht t (by omega)
theorem markEvS_eq (l : List GEv) (j : Int) (hl : l.length < 1152921504606846976) (hj : 0 ≤ j ∧ j < 1152921504606846976) : ∃ l' : List GEv, l'.length = l.length ∧ (∀ t, t < l.length → l'[t]? = some (markEv j t)) ∧ Evn (fun k => laws_markEvS.f k l j) (j + 3 * l.length, l') := by
  have h : ∀ k, l.length + 1 ≤ k → ∃ l', laws_markEvS.l0 k k l j 0 = some (j + 3 * l.length, l') ∧ l'.length = l.length ∧ ∀ t, t < l.length → l'[t]? = some (markEv j t) := by
    intro k hk
    have := markEvS_loop k l.length j hl hj l.length k 0 l (by omega) (by omega) rfl (fun t h => by omega)
    simpa using this
  obtain ⟨l', h1, h2, h3⟩ := h (l.length + 1) (Nat.le_refl _)
  refine ⟨l', h2, h3, l.length + 1, fun k hk => ?_⟩
  obtain ⟨l2, g1, g2, g3⟩ := h k hk
  have : l2 = l' := by
    apply List.ext_getElem?
    intro t
    rcases Nat.lt_or_ge t l.length with h | h
    · rw [g3 t h, h3 t h]
    · rw [List.getElem?_eq_none (by omega), List.getElem?_eq_none (by omega)]
  subst this
  dsimp only
  unfold laws_markEvS.f
  rw [g1]; rfl
/- Trees and events as arguments: taken, alike, marked. -/
theorem toEx_evn {e : GEx} (h : exN e ≤ 1048577) : Evn (fun k => laws_toEx.f k e) e := ⟨3 * exN e, fun k hk => toEx_k e h k hk⟩
theorem eqEx_evn {e : GEx} (h : exN e ≤ 1048577) : Evn (fun k => laws_eqEx.f k e e) true := ⟨3 * exN e, fun k hk => eqEx_k e h k hk⟩
theorem markEx_evn {e : GEx} (he : exN e ≤ 1048577) : Evn (fun k => laws_markEx.f k e 1) (1 + 3 * exNs e.Kids, ⟨e.Kind, e.Sym, e.N, mkExs 1 e.Kids⟩) := by
  have he2 := he
  rw [exN_eq] at he2
  refine ⟨3 * exN e, fun k hk => ?_⟩
  dsimp only
  unfold laws_markEx.f
  rw [markExS_all e he k 1 hk (by decide) (by omega)]
  simp only [Option.bind_some]
  rw [req_pos (mkExs_len _ _)]
theorem szEvS_evn (l : List GEv) (x : Int) (hx : 0 ≤ x ∧ x ≤ 1048576) (hl : l.length < 4611686018427387904) : laws_szEvS.f l x = some (if x - (l.length : Int) < 0 then -1 else x - (l.length : Int)) := by
  unfold laws_szEvS.f
  rw [wr _ (by omega)]
  split <;> rfl
/- Numbers: alike, marked, held. -/
theorem eqIntS_loop (k : Nat) (l : List Int) (hl : l.length < 4611686018427387904) : ∀ (d n i : Nat), i + d = l.length → d < n → laws_eqIntS.l0 k l l n (i : Int) = some (.ok ()) := by
  intro d
  induction d with
  | zero =>
    intro n i hi hn
    obtain ⟨n, rfl⟩ : ∃ m, n = m + 1 := ⟨n - 1, by omega⟩
    rw [laws_eqIntS.l0, if_neg (by omega)]
  | succ d ih =>
    intro n i hi hn
    obtain ⟨n, rfl⟩ : ∃ m, n = m + 1 := ⟨n - 1, by omega⟩
    have hlt : i < l.length := by omega
    rw [laws_eqIntS.l0, if_pos (by omega), req_pos (by omega), Int.toNat_natCast, List.getElem?_eq_getElem hlt]
    simp only [Option.bind_some]
    rw [req_pos (by omega)]
    simp only [if_true]
    rw [wrS i (by omega)]
    exact ih n (i + 1) (by omega) (by omega)
theorem eqIntS_k (l : List Int) (hl : l.length < 4611686018427387904) (k : Nat) (hk : l.length + 1 ≤ k) : laws_eqIntS.f k l l = some true := by
  unfold laws_eqIntS.f
  have := eqIntS_loop k l hl l.length k 0 (by omega) (by omega)
  rw [show ((0 : Nat) : Int) = 0 from rfl] at this
  rw [if_pos rfl, this]; rfl
def marks (j : Int) (n : Nat) : List Int := (List.range n).map fun t : Nat => j + (t : Int)
theorem marks_get (j : Int) (n t : Nat) (h : t < n) : (marks j n)[t]? = some (j + (t : Int)) := by simp [marks, h]
theorem markIntS_loop (k : Nat) (m : Nat) (j : Int) (hm : m < 1152921504606846976) (hj : 0 ≤ j ∧ j < 1152921504606846976) : ∀ (d n i : Nat) (acc : List Int), i + d = m → d < n → acc.length = m → (∀ t, t < i → acc[t]? = some (j + t)) →
    ∃ l', laws_markIntS.l0 k n acc (j + i) (i : Int) = some (j + m, l') ∧ l'.length = m ∧ ∀ t, t < m → l'[t]? = some (j + t) := by
  intro d
  induction d with
  | zero =>
    intro n i acc hi hn ha ht
    obtain ⟨n, rfl⟩ : ∃ m, n = m + 1 := ⟨n - 1, by omega⟩
    refine ⟨acc, ?_, ha, fun t h => ht t (by omega)⟩
    rw [laws_markIntS.l0, if_neg (by omega), show i = m by omega]
  | succ d ih =>
    intro n i acc hi hn ha ht
    obtain ⟨n, rfl⟩ : ∃ m, n = m + 1 := ⟨n - 1, by omega⟩
    have hlt : i < acc.length := by omega
    rw [laws_markIntS.l0, if_pos (by omega), req_pos (by omega), req_pos (by omega), Int.toNat_natCast, List.getElem?_eq_getElem hlt]
    simp only [Option.bind_some]
    rw [wrS i (by omega), wr (j + i + 1) (by omega)]
    have e : j + (i : Int) + 1 = j + ((i + 1 : Nat) : Int) := by push_cast; omega
    rw [e]
    refine ih n (i + 1) _ (by omega) (by omega) (by simpa using ha) (fun t h => ?_)
    rw [List.getElem?_set]
    by_cases e2 : i = t
    · subst e2; rw [if_pos rfl, if_pos hlt]
    · rw [if_neg e2]; exact ht t (by omega)
theorem markIntS_k (l : List Int) (j : Int) (hl : l.length < 1152921504606846976) (hj : 0 ≤ j ∧ j < 1152921504606846976) (k : Nat) (hk : l.length + 1 ≤ k) : laws_markIntS.f k l j = some (j + l.length, marks j l.length) := by
  have := markIntS_loop k l.length j hl hj l.length k 0 l (by omega) (by omega) rfl (fun t h => by omega)
  simp only [Int.natCast_zero, Int.add_zero] at this
  obtain ⟨l', h1, h2, h3⟩ := this
  have e : l' = marks j l.length := by
    apply List.ext_getElem?
    intro t
    rcases Nat.lt_or_ge t l.length with h | h
    · rw [h3 t h, marks_get j _ t h]
    · rw [List.getElem?_eq_none (by omega), List.getElem?_eq_none (by simp [marks]; omega)]
  unfold laws_markIntS.f
  rw [h1, e]; rfl
theorem heldIntS_loop (k : Nat) (j : Int) (m : Nat) (hm : m < 1152921504606846976) (hj : 0 ≤ j ∧ j < 1152921504606846976) : ∀ (d n i : Nat), i + d = m → d < n → laws_heldIntS.l0 k (marks j m) n (j + i) (i : Int) = some (.ok (j + m)) := by
  intro d
  induction d with
  | zero =>
    intro n i hi hn
    obtain ⟨n, rfl⟩ : ∃ m, n = m + 1 := ⟨n - 1, by omega⟩
    rw [laws_heldIntS.l0, if_neg (by simp [marks]; omega), show i = m by omega]
  | succ d ih =>
    intro n i hi hn
    obtain ⟨n, rfl⟩ : ∃ m, n = m + 1 := ⟨n - 1, by omega⟩
    rw [laws_heldIntS.l0, if_pos (by simp [marks]; omega), req_pos (by omega), Int.toNat_natCast, marks_get j m i (by omega)]
    simp only [Option.bind_some, if_true]
    rw [wrS i (by omega), wr (j + i + 1) (by omega)]
    have e : j + (i : Int) + 1 = j + ((i + 1 : Nat) : Int) := by push_cast; omega
    rw [e]
    exact ih n (i + 1) (by omega) (by omega)
theorem heldIntS_k (j : Int) (m : Nat) (hm : m < 1152921504606846976) (hj : 0 ≤ j ∧ j < 1152921504606846976) (k : Nat) (hk : m + 1 ≤ k) : laws_heldIntS.f k (marks j m) j = some (j + m) := by
  unfold laws_heldIntS.f
  have := heldIntS_loop k j m hm hj m k 0 (by omega) (by omega)
  simp only [Int.natCast_zero, Int.add_zero] at this
  rw [this]; rfl
/- All events of all that is meant: the law over data. -/
theorem FnExactMeanUsed_pure (p0 : GEx) (p1 : Int) (p2 : List GEv) (h0 : exSm p0) (h2 : p2.length * 24 ≤ reachBytes) : ∃ k, laws_FnExactMeanUsed.f k p0 p1 p2 = some true := by
  have hl : p2.length < 4611686018427387904 := reach_lt h2 (by omega)
  suffices Evn (fun k => laws_FnExactMeanUsed.f k p0 p1 p2) true from this.get
  unfold laws_FnExactMeanUsed.f
  refine Evn.bind ⟨3 * exN p0, fun k hk => szEx_k p0 h0 k 1048576 hk (by decide) (by decide)⟩ ?_
  by_cases hz : (exNs p0.Kids : Int) ≤ 1048576
  rotate_left
  · exact Evn.pos (by rw [if_neg hz]; decide) (Evn.const rfl)
  have hn : exN p0 ≤ 1048577 := by rw [exN_eq]; omega
  rw [if_pos hz]
  refine Evn.neg (by omega) (Evn.bind (Evn.const (szEvS_evn p2 _ (by omega) hl)) ?_)
  by_cases hy : 1048576 - (exNs p0.Kids : Int) - (p2.length : Int) < 0
  · rw [if_pos hy]; exact Evn.pos (by decide) (Evn.const rfl)
  rw [if_neg hy]
  have hto := toEx_evn hn
  have heq := eqEx_evn hn
  have htv := toEvS_eq p2 h2
  have hev := eqEvS_refl p2 hl
  have hs := spec_MeanUsed_eq p0 p1 p2 hn hl
  have hi := impl_MeanUsed_eq p0 p1 p2 hn hl
  have lu := idsOk_len (used_ok (ids_of_ok (meanOf_ok p0 p1 p2)) idsOk_nil)
  change (usedM (meanOf p0 p1 p2).1).length ≤ 24 at lu
  generalize usedM (meanOf p0 p1 p2).1 = r at hs hi lu
  have hoc : Evn (fun k => laws_eqIntS.f k r r) true := ⟨r.length + 1, fun k hk => eqIntS_k r (by omega) k hk⟩
  obtain ⟨l', g1, g2, g3⟩ := markEvS_eq p2 (1 + 3 * exNs p0.Kids) (by omega) (by omega)
  have m3 : Evn (fun k => laws_markIntS.f k r 1) (1 + r.length, marks 1 r.length) := ⟨r.length + 1, fun k hk => markIntS_k r 1 (by omega) (by omega) k hk⟩
  have hh : Evn (fun k => laws_heldIntS.f k (marks 1 r.length) 1) (1 + r.length) := ⟨r.length + 1, fun k hk => heldIntS_k 1 r.length (by omega) (by omega) k hk⟩
  have m1 : (marks 1 r.length).length = r.length := by simp [marks]
  refine Evn.neg (by omega) (Evn.bind hto (Evn.bind htv (Evn.bind hs (Evn.bind hto (Evn.bind htv (Evn.bind hi (Evn.bind hoc (Evn.pos rfl ?_))))))))
  refine Evn.bind hto (Evn.bind heq (Evn.pos rfl (Evn.bind htv (Evn.bind hev (Evn.pos rfl (Evn.bind (markEx_evn hn) (Evn.req (mkExs_len _ _) (Evn.bind g3 (Evn.req g1 (Evn.neg (by dsimp only; omega) (Evn.bind hoc (Evn.pos rfl (Evn.bind m3 (Evn.req m1 (Evn.bind hh (Evn.neg (by omega) (Evn.pos rfl ?_)))))))))))))))))
  exact Evn.bind hto (Evn.bind htv (Evn.bind hi (Evn.bind hoc (Evn.pos rfl (Evn.bind hh (Evn.neg (by omega) (Evn.pos rfl (Evn.const rfl))))))))
end Go.Proofs.YtdhlbpgjcfdofaaGreat
