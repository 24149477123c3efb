/- Plain lemmas about the functions over data; second part. -/
import Derived.Test.YtdhlbpgjcfdofaaGreatQ0
namespace Go.Proofs.YtdhlbpgjcfdofaaGreat
open Go Go.Vm
set_option linter.unusedVariables false
set_option linter.unusedSimpArgs false
/- Delays; where an event is found; the time of the last event: both programs. -/
theorem putM_last {o : GOcc} : ∀ {l : List GOcc}, (∀ x ∈ l, occLess x o = true) → putM l o = l ++ [o]
  | [], _ => rfl
  | y :: l, h => by
    unfold putM
    rw [if_pos (h y (by simp)), putM_last fun x hx => h x (by simp [hx])]
    rfl
theorem asc_snoc {l : List GOcc} {o : GOcc} (h : Asc (l ++ [o])) : ∀ x ∈ l, occLess x o = true := fun x hx => (List.pairwise_append.1 h).2.2 x hx o (by simp)
theorem mergeM_append : ∀ {m l : List GOcc}, Asc (l ++ m) → mergeM l m = l ++ m
  | [], l, _ => by simp [mergeM]
  | y :: m, l, h => by
    have h' : Asc ((l ++ [y]) ++ m) := by simpa using h
    rw [mergeM_cons, putM_last (asc_snoc (List.pairwise_append.1 h').1), mergeM_append h']
    simp
def latM (n : Int) (o : GOcc) : GOcc := ⟨o.From, o.To + n, o.Ids⟩
theorem occLess_iff (a b : GOcc) : occLess a b = true ↔ a.To < b.To ∨ (a.To = b.To ∧ (a.From < b.From ∨ (a.From = b.From ∧ lexCmp a.Ids b.Ids < 0))) := by
  unfold occLess
  rw [decide_eq_true_eq, occCmp_lt]
theorem latM_less (n : Int) (a b : GOcc) : occLess (latM n a) (latM n b) = occLess a b := by
  rw [Bool.eq_iff_iff, occLess_iff, occLess_iff]
  unfold latM
  dsimp only
  constructor
  · rintro (h | ⟨h, h2⟩)
    · exact .inl (by omega)
    · exact .inr ⟨by omega, h2⟩
  · rintro (h | ⟨h, h2⟩)
    · exact .inl (by omega)
    · exact .inr ⟨by omega, h2⟩
def inTime (n till : Int) (o : GOcc) : Bool := decide (o.To + n ≤ till) && decide (o.To + n ≤ 2000)
def latesM (n till : Int) (l : List GOcc) : List GOcc := (l.filter (inTime n till)).map (latM n)
theorem asc_lates {n till : Int} {l : List GOcc} (h : Asc l) : Asc (latesM n till l) := by
  unfold latesM Asc
  rw [List.pairwise_map]
  refine List.Pairwise.imp ?_ (List.Pairwise.sublist List.filter_sublist h)
  intro a b hab
  rw [latM_less]; exact hab
def plusM (n till : Int) (l : List GOcc) : List GOcc × Bool := if occsOk l = true ∧ 1 ≤ n ∧ n ≤ 20 then (latesM n till l, true) else ([], false)
theorem latesM_snoc (n till : Int) (l : List GOcc) (o : GOcc) : latesM n till (l ++ [o]) = if inTime n till o = true then latesM n till l ++ [latM n o] else latesM n till l := by
  unfold latesM
  by_cases h : inTime n till o = true
  · rw [if_pos h, List.filter_append, List.filter_cons_of_pos h]; simp
  · rw [if_neg h, List.filter_append, List.filter_cons_of_neg h]; simp
theorem latesM_len (n till : Int) (l : List GOcc) : (latesM n till l).length ≤ l.length := by unfold latesM; rw [List.length_map]; exact List.length_filter_le _ _
theorem fold_snoc_ind {α σ : Type} (g : σ → α → σ) (P : List α → σ → Prop) (l : List α) (s : σ) (h0 : P [] s) (hs : ∀ i s (h : i < l.length), P (l.take i) s → P (l.take (i + 1)) (g s l[i])) : P l (l.foldl g s) := by
  have := fold_inv g (fun i s => P (l.take i) s) l 0 s (fun j s h hI => by simpa using hs j s h (by simpa using hI)) (by simpa using h0)
  simpa using this
theorem take_snoc {α : Type} (l : List α) (i : Nat) (h : i < l.length) : l.take (i + 1) = l.take i ++ [l[i]] := by
  rw [List.take_add_one, List.getElem?_eq_getElem h]; rfl
theorem latM_few {n : Int} {o : GOcc} (h : Few o) : Few (latM n o) := h
theorem lates_few {n till : Int} {l : List GOcc} (h : Fews l) : Fews (latesM n till l) := fun x hx => by
  unfold latesM at hx
  obtain ⟨y, hy, rfl⟩ := List.mem_map.1 hx
  exact h y (List.mem_filter.1 hy).1
theorem impl_plus_loop (k : Nat) (hk : 1000000000000 ≤ k) (l : List GOcc) (n till : Int) (hn : 1 ≤ n ∧ n ≤ 20) (h : occsOk l = true) : impl_PlusOf.l0 k l n till k [] 0 = some (latesM n till l) := by
  have hl := occsOk_len h
  have q := loop_inv0 (fun s : List GOcc => s) l (impl_PlusOf.l0 k l n till) (fun s o => if inTime n till o = true then s ++ [latM n o] else s) (fun i s => s = latesM n till (l.take i) ∧ s.length ≤ i)
    (fun m s => by rw [impl_PlusOf.l0, if_neg (by omega)])
    (fun m s i hi hI => by
      have ho := occsOk_all h _ (List.getElem_mem hi)
      have hf : Few l[i] := by omega
      refine ⟨?_, ?_, ?_⟩
      · have c1 : impl_later.f l[i] n = some (latM n l[i]) := by
          unfold impl_later.f
          rw [clone_k _ hf]
          simp only [Option.bind_some]
          rw [wr _ (by omega)]; rfl
        rw [impl_PlusOf.l0, if_pos (by omega), req_pos (by omega), Int.toNat_natCast, List.getElem?_eq_getElem hi]
        simp only [Option.bind_some]
        rw [wr (l[i].To + n) (by omega), c1, wrS i (by omega)]
        simp only [Option.bind_some]
        unfold inTime
        by_cases t : 2000 < till
        · rw [if_pos t]
          by_cases u : 2000 < l[i].To + n
          · rw [if_pos u, if_neg (by simp; omega)]
          · rw [if_neg u, req_pos (by omega), if_pos (by simp; omega)]
        · rw [if_neg t]
          by_cases u : till < l[i].To + n
          · rw [if_pos u, if_neg (by simp; omega)]
          · rw [if_neg u, req_pos (by omega), if_pos (by simp; omega)]
      · rw [take_snoc l i hi, latesM_snoc, ← hI.1]
      · split
        · simp; omega
        · omega)
    k [] (by omega) ⟨rfl, by simp⟩
  rw [q.1]
  have := q.2.1
  simpa using this
theorem spec_plus_loop (k : Nat) (hk : 1000000000000 ≤ k) (l : List GOcc) (n till : Int) (hn : 1 ≤ n ∧ n ≤ 20) (h : occsOk l = true) : spec_PlusOf.l0 k l n till k [] 0 = some (latesM n till l) := by
  have hl := occsOk_len h
  have q := loop_inv0 (fun s : List GOcc => s) l (spec_PlusOf.l0 k l n till) (fun s o => if inTime n till o = true then s ++ [latM n o] else s) (fun i s => s = latesM n till (l.take i) ∧ s.length ≤ i)
    (fun m s => by rw [spec_PlusOf.l0, if_neg (by omega)])
    (fun m s i hi hI => by
      have ho := occsOk_all h _ (List.getElem_mem hi)
      have hf : Few l[i] := by omega
      have hs : Fews s := by rw [hI.1]; exact lates_few fun x hx => fews_of_ok h x (List.mem_of_mem_take hx)
      refine ⟨?_, ?_, ?_⟩
      · have c1 : spec_l5Later.f l[i] n = some (latM n l[i]) := by
          unfold spec_l5Later.f
          rw [copy_k _ hf]
          simp only [Option.bind_some]
          rw [wr _ (by omega)]; rfl
        rw [spec_PlusOf.l0, if_pos (by omega), req_pos (by omega), Int.toNat_natCast, List.getElem?_eq_getElem hi]
        simp only [Option.bind_some]
        rw [wr (l[i].To + n) (by omega), c1, wrS i (by omega)]
        simp only [Option.bind_some]
        by_cases t : till < l[i].To + n
        · rw [if_pos t, if_neg (by unfold inTime; simp; omega)]
        rw [if_neg t, req_pos (by omega)]
        by_cases u : 2000 < l[i].To + n
        · rw [if_pos u, if_neg (by unfold inTime; simp; omega)]
        have w : inTime n till l[i] = true := by unfold inTime; simp; omega
        rw [if_neg u, req_pos (by omega), spec_put_eq k hk s _ (by omega) hs (latM_few hf), if_pos w]
        simp only [Option.bind_some]
        have e : latesM n till (l.take (i + 1)) = s ++ [latM n l[i]] := by rw [take_snoc l i hi, latesM_snoc, if_pos w, hI.1]
        rw [putM_last (asc_snoc (by rw [← e]; exact asc_lates (List.Pairwise.sublist (List.take_sublist _ _) (asc_of_ok h))))]
      · rw [take_snoc l i hi, latesM_snoc, ← hI.1]
      · split
        · simp; omega
        · omega)
    k [] (by omega) ⟨rfl, by simp⟩
  rw [q.1]
  have := q.2.1
  simpa using this
theorem impl_PlusOf_eq (k : Nat) (hk : 1000000000000 ≤ k) (l : List GOcc) (n till : Int) (sl : Small l) : impl_PlusOf.f k l n till = some (plusM n till l) := by
  unfold impl_PlusOf.f plusM
  rw [impl_ok_k k hk l sl]
  simp only [Option.bind_some]
  by_cases h : occsOk l = true
  · rw [if_pos h, in_eq]
    simp only [Option.bind_some]
    by_cases hn : 1 ≤ n ∧ n ≤ 20
    · rw [if_pos (by simp [hn]), if_pos ⟨h, hn⟩, impl_plus_loop k hk l n till hn h]; rfl
    · rw [if_neg (by simpa using hn), if_neg (fun x => hn x.2)]
  · rw [if_neg h, if_neg (fun x => h x.1)]
theorem spec_PlusOf_eq (k : Nat) (hk : 1000000000000 ≤ k) (l : List GOcc) (n till : Int) (sl : Small l) : spec_PlusOf.f k l n till = some (plusM n till l) := by
  unfold spec_PlusOf.f plusM
  rw [spec_ok_k k hk l sl]
  simp only [Option.bind_some]
  by_cases h : occsOk l = true
  · rw [if_pos h]
    by_cases h1 : n < 1
    · rw [if_pos h1, if_neg (fun x => by omega)]
    rw [if_neg h1]
    by_cases h2 : 20 < n
    · rw [if_pos h2, if_neg (fun x => by omega)]
    have := latesM_len n till l
    have := occsOk_len h
    rw [if_neg h2, if_pos ⟨h, by omega, by omega⟩, spec_plus_loop k hk l n till ⟨by omega, by omega⟩ h]
    simp only [Option.bind_some]
    rw [told_k k hk _ (by omega) (lates_few (fews_of_ok h))]
    simp only [Option.bind_some]
    unfold told
    rw [if_neg (by omega)]
  · rw [if_neg h, if_neg (fun x => h x.1)]
def symFrom (sym : Int) : Nat → List GEv → List GOcc
  | _, [] => []
  | i, e :: l => if e.Sym = sym then ⟨e.At, e.At, [(i : Int)]⟩ :: symFrom sym (i + 1) l else symFrom sym (i + 1) l
theorem impl_sym_loop (k : Nat) (x : GEx) (l : List GEv) (hl : l.length ≤ 1000000) : ∀ (d i n : Nat) (acc : List GOcc), i + d = l.length → d < n → acc.length ≤ i → impl_Ex_mean.l1 k x l n acc (i : Int) = some (acc ++ symFrom x.Sym i (l.drop i)) := by
  intro d
  induction d with
  | zero =>
    intro i n acc hi hn ha
    obtain ⟨n, rfl⟩ : ∃ m, n = m + 1 := ⟨n - 1, by omega⟩
    rw [impl_Ex_mean.l1, if_neg (by omega), List.drop_eq_nil_of_le (by omega)]
    simp [symFrom]
  | succ d ih =>
    intro i n acc hi hn ha
    obtain ⟨n, rfl⟩ : ∃ m, n = m + 1 := ⟨n - 1, by omega⟩
    have h : i < l.length := by omega
    rw [impl_Ex_mean.l1, if_pos (by omega), req_pos (by omega), Int.toNat_natCast, List.getElem?_eq_getElem h, List.drop_eq_getElem_cons h, symFrom]
    simp only [Option.bind_some]
    rw [wrS i (by omega)]
    by_cases c : l[i].Sym = x.Sym
    · rw [if_pos c, if_pos c, req_pos (by omega), ih (i + 1) n _ (by omega) (by omega) (by simp; omega)]
      simp
    · rw [if_neg c, if_neg c, ih (i + 1) n _ (by omega) (by omega) (by omega)]
theorem spec_sym_loop (k : Nat) (sym : Int) (l : List GEv) (hl : l.length ≤ 1000000) : ∀ (d i n : Nat) (acc : List GOcc), i + d = l.length → d < n → acc.length ≤ i → spec_l6Sym.l0 k sym l n acc (i : Int) = some (acc ++ symFrom sym i (l.drop i)) := by
  intro d
  induction d with
  | zero =>
    intro i n acc hi hn ha
    obtain ⟨n, rfl⟩ : ∃ m, n = m + 1 := ⟨n - 1, by omega⟩
    rw [spec_l6Sym.l0, if_neg (by omega), List.drop_eq_nil_of_le (by omega)]
    simp [symFrom]
  | succ d ih =>
    intro i n acc hi hn ha
    obtain ⟨n, rfl⟩ : ∃ m, n = m + 1 := ⟨n - 1, by omega⟩
    have h : i < l.length := by omega
    rw [spec_l6Sym.l0, if_pos (by omega), req_pos (by omega), Int.toNat_natCast, List.getElem?_eq_getElem h, List.drop_eq_getElem_cons h, symFrom]
    simp only [Option.bind_some]
    rw [wrS i (by omega)]
    by_cases c : l[i].Sym = sym
    · rw [if_pos c, if_pos c]
      repeat rw [req_pos (by omega)]
      rw [ih (i + 1) n _ (by omega) (by omega) (by simp; omega)]
      simp
    · rw [if_neg c, if_neg c, ih (i + 1) n _ (by omega) (by omega) (by omega)]
theorem impl_sym_eq (k : Nat) (hk : 1000000000000 ≤ k) (x : GEx) (l : List GEv) (hl : l.length ≤ 1000000) : impl_Ex_mean.l1 k x l k [] 0 = some (symFrom x.Sym 0 l) := by
  have := impl_sym_loop k x l hl l.length 0 k [] (by omega) (by omega) (by simp)
  rw [show ((0 : Nat) : Int) = 0 from rfl, List.drop_zero, List.nil_append] at this
  exact this
theorem spec_sym_eq (k : Nat) (hk : 1000000000000 ≤ k) (sym : Int) (l : List GEv) (hl : l.length ≤ 1000000) : spec_l6Sym.f k sym l = some (symFrom sym 0 l) := by
  unfold spec_l6Sym.f
  have := spec_sym_loop k sym l hl l.length 0 k [] (by omega) (by omega) (by simp)
  rw [show ((0 : Nat) : Int) = 0 from rfl, List.drop_zero, List.nil_append] at this
  rw [this]; rfl
def endM (l : List GEv) : Int := match l.getLast? with | some e => e.At | none => 0
theorem now_eq (l : List GEv) (hl : l.length ≤ 1000000) : impl_now.f l = some (endM l) ∧ spec_l6End.f l = some (endM l) := by
  have : (if (l.length : Int) = 0 then some (0 : Int) else (req ((0 : Int) ≤ (IntKind.wrap .i64 ((l.length : Int) - 1))) ((l[(IntKind.wrap .i64 ((l.length : Int) - 1)).toNat]?).bind fun e4 => (some e4.At)))) = some (endM l) := by
    unfold endM
    by_cases h : (l.length : Int) = 0
    · have e : l = [] := List.length_eq_zero_iff.1 (by omega)
      subst e; rfl
    · rw [if_neg h, wr _ (by omega), req_pos (by omega), List.getLast?_eq_getElem?, show ((l.length : Int) - 1).toNat = l.length - 1 by omega, List.getElem?_eq_getElem (show l.length - 1 < l.length by omega)]
      rfl
  exact ⟨this, this⟩
/- Trees: how many nodes, induction. -/
mutual
/-- how many nodes -/
def exN : GEx → Nat
  | ⟨_, _, _, ks⟩ => 1 + exNs ks
def exNs : List GEx → Nat
  | [] => 0
  | x :: xs => exN x + exNs xs
end
theorem exNs_nil : exNs [] = 0 := by simp only [exNs]
theorem exNs_cons (x : GEx) (xs : List GEx) : exNs (x :: xs) = exN x + exNs xs := by simp only [exNs]
theorem exN_eq (e : GEx) : exN e = 1 + exNs e.Kids := by cases e; simp only [exN]
theorem exNs_len : ∀ l : List GEx, l.length ≤ exNs l
  | [] => by simp [exNs_nil]
  | x :: xs => by have := exNs_len xs; rw [exNs_cons, exN_eq]; simp only [List.length_cons]; omega
theorem exNs_mem {e : GEx} : ∀ {l : List GEx}, e ∈ l → exN e ≤ exNs l
  | x :: xs, h => by
    rw [exNs_cons]
    rcases List.mem_cons.1 h with rfl | h
    · omega
    · have := exNs_mem h; omega
mutual
theorem exInd {P : GEx → Prop} (h : ∀ e : GEx, (∀ x ∈ e.Kids, P x) → P e) : ∀ e, P e
  | ⟨a, b, c, ks⟩ => h ⟨a, b, c, ks⟩ (exIndS h ks)
theorem exIndS {P : GEx → Prop} (h : ∀ e : GEx, (∀ x ∈ e.Kids, P x) → P e) : ∀ l : List GEx, ∀ x ∈ l, P x
  | [], _, hx => by simp at hx
  | y :: ys, x, hx => by
    rcases List.mem_cons.1 hx with e | hx
    · rw [e]; exact exInd h y
    · exact exIndS h ys x hx
end
mutual
/-- lengths that memory can hold, all the way down -/
def exSm : GEx → Prop
  | ⟨_, _, _, ks⟩ => ks.length < 4611686018427387904 ∧ exSms ks
def exSms : List GEx → Prop
  | [] => True
  | x :: xs => exSm x ∧ exSms xs
end
theorem exSms_mem {e : GEx} : ∀ {l : List GEx}, exSms l → e ∈ l → exSm e
  | x :: xs, hs, h => by
    simp only [exSms] at hs
    rcases List.mem_cons.1 h with rfl | h
    · exact hs.1
    · exact exSms_mem hs.2 h
theorem exSm_eq {e : GEx} (h : exSm e) : e.Kids.length < 4611686018427387904 ∧ ∀ x ∈ e.Kids, exSm x := by
  cases e; simp only [exSm] at h; exact ⟨h.1, fun x hx => exSms_mem h.2 hx⟩
/- Trees: which are well formed, in both programs. -/
def kidsN (a : Int) : Int := if a = 1 then 0 else if a = 7 then 1 else if a = 2 then 2 else if a = 3 then 2 else if a = 4 then 2 else if a = 5 then 3 else if a = 6 then 3 else -1
theorem l2Kids_eq (a : Int) : spec_l2Kids.f a = some (kidsN a) := by
  unfold spec_l2Kids.f kidsN
  repeat' split
  all_goals rfl
def exHere (e : GEx) : Bool := decide (kidsN e.Kind = (e.Kids.length : Int)) && decide (0 ≤ e.Sym) && decide (e.Sym < 5) && (decide (e.Kind = 1) || decide (e.Sym = 0)) && (if e.Kind = 7 then decide (1 ≤ e.N) && decide (e.N ≤ 20) else decide (e.N = 0))
mutual
def exForm : GEx → Bool
  | ⟨a, b, c, ks⟩ => exHere ⟨a, b, c, ks⟩ && exForms ks
def exForms : List GEx → Bool
  | [] => true
  | x :: xs => exForm x && exForms xs
end
mutual
def exD : GEx → Nat
  | ⟨_, _, _, ks⟩ => 1 + exDs ks
def exDs : List GEx → Nat
  | [] => 0
  | x :: xs => max (exD x) (exDs xs)
end
theorem exForm_eq (e : GEx) : exForm e = (exHere e && exForms e.Kids) := by cases e; simp only [exForm]
theorem exD_eq (e : GEx) : exD e = 1 + exDs e.Kids := by cases e; simp only [exD]
theorem exForms_all : ∀ l : List GEx, exForms l = l.all exForm
  | [] => by simp only [exForms]; rfl
  | x :: xs => by simp only [exForms, exForms_all xs, List.all_cons]
theorem exDs_le : ∀ (l : List GEx) (d : Nat), exDs l ≤ d ↔ ∀ x ∈ l, exD x ≤ d
  | [], d => by simp [exDs]
  | x :: xs, d => by
    simp only [exDs, Nat.max_le, exDs_le xs d, List.mem_cons]
    exact ⟨fun h y hy => hy.elim (fun e => e ▸ h.1) (h.2 y), fun h => ⟨h x (.inl rfl), fun y hy => h y (.inr hy)⟩⟩
/-- well formed, no deeper than d -/
def formD : Nat → GEx → Bool
  | 0, _ => false
  | d + 1, e => exHere e && e.Kids.all (formD d)
theorem formD_eq : ∀ (d : Nat) (e : GEx), formD d e = (decide (exD e ≤ d) && exForm e)
  | 0, e => by rw [exD_eq]; simp [formD]
  | d + 1, e => by
    rw [formD, exForm_eq, exForms_all, exD_eq]
    have h : e.Kids.all (formD d) = (decide (1 + exDs e.Kids ≤ d + 1) && e.Kids.all exForm) := by
      rw [Bool.eq_iff_iff]
      simp only [List.all_eq_true, Bool.and_eq_true, decide_eq_true_eq, formD_eq d]
      constructor
      · intro h
        refine ⟨?_, fun x hx => (h x hx).2⟩
        have := (exDs_le e.Kids d).2 fun x hx => (h x hx).1
        omega
      · rintro ⟨h1, h2⟩ x hx
        exact ⟨(exDs_le e.Kids d).1 (by omega) x hx, h2 x hx⟩
    rw [h]
    cases exHere e <;> cases decide (1 + exDs e.Kids ≤ d + 1) <;> rfl
theorem l2Form_loops (k : Nat) (rec' : GEx → Int → Option Bool) (e : GEx) (q : Int) (g : GEx → Bool) (hl : e.Kids.length < 4611686018427387904) (H : ∀ x ∈ e.Kids, rec' x (IntKind.wrap .i64 (q - 1)) = some (g x)) :
    ∀ (d n i : Nat), i + d = e.Kids.length → d < n →
      spec_l2Form.l0 k rec' e q n (i : Int) = some (if (e.Kids.drop i).all g then .ok () else .error false) ∧
      spec_l2Form.l1 k rec' e q n (i : Int) = some (if (e.Kids.drop i).all g then .ok () else .error false) ∧
      spec_l2Form.l2 k rec' e q n (i : Int) = some (if (e.Kids.drop i).all g then .ok () else .error false) ∧
      spec_l2Form.l3 k rec' e q n (i : Int) = some (if (e.Kids.drop i).all g then .ok () else .error false) := by
  intro d
  induction d with
  | zero =>
    intro n i hi hn
    obtain ⟨n, rfl⟩ : ∃ m, n = m + 1 := ⟨n - 1, by omega⟩
    rw [List.drop_eq_nil_of_le (by omega)]
    exact ⟨by rw [spec_l2Form.l0, if_neg (by omega)]; rfl, by rw [spec_l2Form.l1, if_neg (by omega)]; rfl, by rw [spec_l2Form.l2, if_neg (by omega)]; rfl, by rw [spec_l2Form.l3, if_neg (by omega)]; rfl⟩
  | succ d ih =>
    intro n i hi hn
    obtain ⟨n, rfl⟩ : ∃ m, n = m + 1 := ⟨n - 1, by omega⟩
    have hlt : i < e.Kids.length := by omega
    obtain ⟨i0, i1, i2, i3⟩ := ih n (i + 1) (by omega) (by omega)
    rw [List.drop_eq_getElem_cons hlt, List.all_cons]
    refine ⟨?_, ?_, ?_, ?_⟩
    · rw [spec_l2Form.l0, if_pos (by omega), req_pos (by omega), Int.toNat_natCast, List.getElem?_eq_getElem hlt]
      simp only [Option.bind_some, H e.Kids[i] (List.getElem_mem hlt)]
      cases g e.Kids[i]
      · rfl
      · rw [if_pos rfl, wrS i (by omega), i0, Bool.true_and]
    · rw [spec_l2Form.l1, if_pos (by omega), req_pos (by omega), Int.toNat_natCast, List.getElem?_eq_getElem hlt]
      simp only [Option.bind_some, H e.Kids[i] (List.getElem_mem hlt)]
      cases g e.Kids[i]
      · rfl
      · rw [if_pos rfl, wrS i (by omega), i1, Bool.true_and]
    · rw [spec_l2Form.l2, if_pos (by omega), req_pos (by omega), Int.toNat_natCast, List.getElem?_eq_getElem hlt]
      simp only [Option.bind_some, H e.Kids[i] (List.getElem_mem hlt)]
      cases g e.Kids[i]
      · rfl
      · rw [if_pos rfl, wrS i (by omega), i2, Bool.true_and]
    · rw [spec_l2Form.l3, if_pos (by omega), req_pos (by omega), Int.toNat_natCast, List.getElem?_eq_getElem hlt]
      simp only [Option.bind_some, H e.Kids[i] (List.getElem_mem hlt)]
      cases g e.Kids[i]
      · rfl
      · rw [if_pos rfl, wrS i (by omega), i3, Bool.true_and]
theorem l2Form_k : ∀ (d : Nat) (e : GEx) (k : Nat), d ≤ 5 → exN e ≤ 1048577 → 3 * exN e ≤ k → spec_l2Form.f k e (d : Int) = some (formD d e)
  | 0, e, k, hd, hs, hk => by
    rw [exN_eq] at hk
    obtain ⟨k, rfl⟩ : ∃ m, k = m + 1 := ⟨k - 1, by omega⟩
    rw [spec_l2Form.f, if_pos (by decide)]; rfl
  | d + 1, e, k, hd, hs, hk => by
    rw [exN_eq] at hk hs
    have hq := exNs_len e.Kids
    obtain ⟨k, rfl⟩ : ∃ m, k = m + 1 := ⟨k - 1, by omega⟩
    have hw : IntKind.wrap .i64 (((d + 1 : Nat) : Int) - 1) = (d : Int) := wrP d (by omega)
    have H : ∀ x ∈ e.Kids, spec_l2Form.f k x (IntKind.wrap .i64 (((d + 1 : Nat) : Int) - 1)) = some (formD d x) := fun x hx => by
      have := exNs_mem hx
      rw [hw]; exact l2Form_k d x k (by omega) (by omega) (by omega)
    obtain ⟨i0, i1, i2, i3⟩ := l2Form_loops k (spec_l2Form.f k) e ((d + 1 : Nat) : Int) (formD d) (by omega) H e.Kids.length k 0 (by omega) (by omega)
    rw [show ((0 : Nat) : Int) = 0 from rfl, List.drop_zero] at i0 i1 i2 i3
    rw [spec_l2Form.f, if_neg (by omega), l2Kids_eq]
    simp only [Option.bind_some, i0, i1, i2, i3, formD, exHere]
    cases hA : e.Kids.all (formD d) <;> (repeat' split) <;> simp_all <;> omega
theorem l2Many_loop (k : Nat) (rec' : GEx → Int → Option Int) (e : GEx) (q : Int) (hq : 0 < q) (hl : e.Kids.length < 4611686018427387904) (H : ∀ x ∈ e.Kids, rec' x (IntKind.wrap .i64 (q - 1)) = some (exN x : Int)) :
    ∀ (d n i : Nat) (s : Int), i + d = e.Kids.length → d < n → 0 ≤ s → s + exNs (e.Kids.drop i) ≤ 100000000 →
      spec_l2Many.l0 k rec' e q n s (i : Int) = some (s + exNs (e.Kids.drop i)) := by
  intro d
  induction d with
  | zero =>
    intro n i s hi hn h0 h1
    obtain ⟨n, rfl⟩ : ∃ m, n = m + 1 := ⟨n - 1, by omega⟩
    rw [spec_l2Many.l0, if_neg (by omega), List.drop_eq_nil_of_le (by omega), exNs_nil]; simp
  | succ d ih =>
    intro n i s hi hn h0 h1
    obtain ⟨n, rfl⟩ : ∃ m, n = m + 1 := ⟨n - 1, by omega⟩
    have hlt : i < e.Kids.length := by omega
    rw [List.drop_eq_getElem_cons hlt, exNs_cons] at h1 ⊢
    rw [spec_l2Many.l0, if_pos (by omega), if_pos hq, req_pos (by omega), Int.toNat_natCast, List.getElem?_eq_getElem hlt]
    simp only [Option.bind_some, H e.Kids[i] (List.getElem_mem hlt)]
    push_cast at h1
    rw [wrS i (by omega), wr (s + _) (by omega), ih n (i + 1) _ (by omega) (by omega) (by omega) (by omega)]
    congr 1; push_cast; omega
theorem l2Many_k : ∀ (d : Nat) (e : GEx) (k : Nat), d ≤ 5 → exD e ≤ d → exN e ≤ 1048577 → 3 * exN e ≤ k → spec_l2Many.f k e (d : Int) = some (exN e : Int)
  | 0, e, k, _, hd, _, _ => by rw [exD_eq] at hd; omega
  | d + 1, e, k, hd5, hd, hs, hk => by
    rw [exD_eq] at hd
    rw [exN_eq] at hk hs ⊢
    have hq := exNs_len e.Kids
    obtain ⟨k, rfl⟩ : ∃ m, k = m + 1 := ⟨k - 1, by omega⟩
    have hdd := (exDs_le e.Kids d).1 (by omega)
    have := l2Many_loop k (spec_l2Many.f k) e ((d + 1 : Nat) : Int) (by omega) (by omega) (fun x hx => by
      have := exNs_mem hx
      rw [wrP d (by omega)]; exact l2Many_k d x k (by omega) (hdd x hx) (by omega) (by omega)) e.Kids.length k 0 1 (by omega) (by omega) (by omega) (by simp only [List.drop_zero]; omega)
    rw [show ((0 : Nat) : Int) = 0 from rfl, List.drop_zero] at this
    rw [spec_l2Many.f, this]
    simp
theorem exD_le : ∀ e : GEx, exD e ≤ exN e := by
  refine exInd fun e ih => ?_
  rw [exD_eq, exN_eq]
  have := (exDs_le e.Kids (exNs e.Kids)).2 fun x hx => by
    have := ih x hx; have := exNs_mem hx; omega
  omega
theorem exDs_cons (x : GEx) (xs : List GEx) : exDs (x :: xs) = max (exD x) (exDs xs) := by simp only [exDs]
theorem size_loop (k : Nat) (rec' : GEx → Option (Int × Int)) (e : GEx) (hl : e.Kids.length < 4611686018427387904) (H : ∀ x ∈ e.Kids, rec' x = some ((exN x : Int), (exD x : Int))) (hb : exNs e.Kids ≤ 1048577) :
    ∀ (d n i : Nat) (s t : Int), i + d = e.Kids.length → d < n → 0 ≤ s → s + exNs (e.Kids.drop i) ≤ 100000000 → 1 ≤ t →
      impl_Ex_size.l0 k rec' e n s t (i : Int) = some (s + exNs (e.Kids.drop i), max t (1 + exDs (e.Kids.drop i) : Nat)) := by
  intro d
  induction d with
  | zero =>
    intro n i s t hi hn h0 h1 h2
    obtain ⟨n, rfl⟩ : ∃ m, n = m + 1 := ⟨n - 1, by omega⟩
    rw [impl_Ex_size.l0, if_neg (by omega), List.drop_eq_nil_of_le (by omega), exNs_nil, show exDs [] = 0 by simp only [exDs]]
    congr 2
    · simp
    · push_cast; omega
  | succ d ih =>
    intro n i s t hi hn h0 h1 h2
    obtain ⟨n, rfl⟩ : ∃ m, n = m + 1 := ⟨n - 1, by omega⟩
    have hlt : i < e.Kids.length := by omega
    have hd := exD_le e.Kids[i]
    have hm := exNs_mem (List.getElem_mem hlt : e.Kids[i] ∈ e.Kids)
    rw [List.drop_eq_getElem_cons hlt, exNs_cons] at h1 ⊢
    rw [exDs_cons, impl_Ex_size.l0, if_pos (by omega), req_pos (by omega), Int.toNat_natCast, List.getElem?_eq_getElem hlt]
    simp only [Option.bind_some, H e.Kids[i] (List.getElem_mem hlt)]
    push_cast at h1
    rw [wrS i (by omega), wr (s + _) (by omega), wr ((exD e.Kids[i] : Int) + 1) (by omega)]
    by_cases h : t < (exD e.Kids[i] : Int) + 1
    · rw [if_pos h, ih n (i + 1) _ _ (by omega) (by omega) (by omega) (by omega) (by omega)]
      congr 2
      · push_cast; omega
      · push_cast; omega
    · rw [if_neg h, ih n (i + 1) _ _ (by omega) (by omega) (by omega) (by omega) (by omega)]
      congr 2
      · push_cast; omega
      · push_cast; omega
theorem size_k : ∀ e : GEx, exN e ≤ 1048577 → ∀ k : Nat, 3 * exN e ≤ k → impl_Ex_size.f k e = some ((exN e : Int), (exD e : Int)) := by
  refine exInd fun e ih hs k hk => ?_
  rw [exN_eq] at hk hs ⊢
  rw [exD_eq]
  have hq := exNs_len e.Kids
  obtain ⟨k, rfl⟩ : ∃ m, k = m + 1 := ⟨k - 1, by omega⟩
  have := size_loop k (impl_Ex_size.f k) e (by omega) (fun x hx => ih x hx (by have := exNs_mem hx; omega) k (by have := exNs_mem hx; omega)) (by omega) e.Kids.length k 0 1 1 (by omega) (by omega) (by omega) (by simp only [List.drop_zero]; omega) (by omega)
  rw [show ((0 : Nat) : Int) = 0 from rfl, List.drop_zero] at this
  rw [impl_Ex_size.f, this]
  simp only [Option.bind_some]
  congr 2
  push_cast; omega
theorem xindex_loop (k : Nat) (g : GEx → Option Bool) (h : GEx → Bool) (l : List GEx) (hl : l.length < 4611686018427387904) (H : ∀ x ∈ l, g x = some (h x)) :
    ∀ (d n i : Nat), i + d = l.length → d < n → ∃ r, slices_IndexFunc.l0 k g l n (i : Int) = some r ∧ ((∃ j : Int, r = .error j ∧ 0 ≤ j ∧ (l.drop i).any h = true) ∨ (r = .ok () ∧ (l.drop i).any h = false)) := by
  intro d
  induction d with
  | zero =>
    intro n i hi hn
    obtain ⟨n, rfl⟩ : ∃ m, n = m + 1 := ⟨n - 1, by omega⟩
    rw [slices_IndexFunc.l0, if_neg (by omega), List.drop_eq_nil_of_le (by omega)]
    exact ⟨_, rfl, .inr ⟨rfl, rfl⟩⟩
  | succ d ih =>
    intro n i hi hn
    obtain ⟨n, rfl⟩ : ∃ m, n = m + 1 := ⟨n - 1, by omega⟩
    have hlt : i < l.length := by omega
    rw [slices_IndexFunc.l0, if_pos (by omega), req_pos (by omega), Int.toNat_natCast, List.getElem?_eq_getElem hlt, List.drop_eq_getElem_cons hlt, List.any_cons]
    simp only [Option.bind_some, H l[i] (List.getElem_mem hlt)]
    cases hh : h l[i] with
    | true => rw [if_pos rfl]; exact ⟨_, rfl, .inl ⟨_, rfl, by omega, rfl⟩⟩
    | false =>
      rw [if_neg (by decide), wrS i (by omega), Bool.false_or]
      exact ih n (i + 1) (by omega) (by omega)
theorem xcontains_k (k : Nat) (g : GEx → Option Bool) (h : GEx → Bool) (l : List GEx) (hl : l.length < 4611686018427387904) (H : ∀ x ∈ l, g x = some (h x)) (hk : l.length < k) : slices_ContainsFunc.f g k l = some (l.any h) := by
  obtain ⟨r, h1, h2⟩ := xindex_loop k g h l hl H l.length k 0 (by omega) hk
  rw [show ((0 : Nat) : Int) = 0 from rfl] at h1
  rw [List.drop_zero] at h2
  unfold slices_ContainsFunc.f slices_IndexFunc.f
  rw [h1]
  rcases h2 with ⟨j, rfl, h3, h4⟩ | ⟨rfl, h4⟩
  · simp only [Option.bind_some, h4, Option.some.injEq, Bool.not_eq_true', decide_eq_false_iff_not]; omega
  · simp only [Option.bind_some, h4]; rfl
theorem kids_tab (a : Int) (h : 1 ≤ a ∧ a ≤ 7) : impl_kids.f a = some (kidsN a) := by
  have : a = 1 ∨ a = 2 ∨ a = 3 ∨ a = 4 ∨ a = 5 ∨ a = 6 ∨ a = 7 := by omega
  rcases this with h | h | h | h | h | h | h <;> subst h <;> rfl
theorem kidsN_out (a : Int) (h : ¬ (1 ≤ a ∧ a ≤ 7)) : kidsN a = -1 := by
  unfold kidsN
  repeat rw [if_neg (by omega)]
theorem in_k (a b c : Int) : impl_in.f a b c = some (decide (b ≤ a) && decide (a ≤ c)) := in_eq a b c
theorem any_not (l : List GEx) : (!(l.any fun x => !exForm x)) = exForms l := by
  rw [exForms_all]
  induction l with
  | nil => rfl
  | cons x xs ih => simp only [List.any_cons, List.all_cons, ← ih]; cases exForm x <;> simp
theorem formed_k : ∀ e : GEx, exN e ≤ 1048577 → ∀ k : Nat, 3 * exN e ≤ k → impl_Ex_formed.f k e = some (exForm e) := by
  refine exInd fun e ih hs k hk => ?_
  rw [exN_eq] at hk hs
  have hq := exNs_len e.Kids
  obtain ⟨k, rfl⟩ : ∃ m, k = m + 2 := ⟨k - 2, by omega⟩
  have hc : slices_ContainsFunc.f (fun y0 => impl_Ex_formed_1.f (k + 1) y0) (k + 1) e.Kids = some (e.Kids.any fun x => !exForm x) := by
    refine xcontains_k (k + 1) _ _ _ (by omega) (fun x hx => ?_) (by omega)
    have := exNs_mem hx
    rw [impl_Ex_formed_1.f, ih x hx (by omega) k (by omega)]; rfl
  rw [impl_Ex_formed.f, exForm_eq, ← any_not]
  simp only [impl_isKind.f, impl_isSym.f, in_k, hc, Option.bind_some]
  by_cases hk7 : 1 ≤ e.Kind ∧ e.Kind ≤ 7
  · simp only [kids_tab e.Kind hk7, Option.bind_some, exHere]
    cases hA : e.Kids.any (fun x => !exForm x) <;> (repeat' split) <;> simp_all <;> omega
  · have h0 := kidsN_out e.Kind hk7
    have h1 : exHere e = false := by unfold exHere; rw [h0]; have : ¬ ((-1 : Int) = (e.Kids.length : Int)) := by omega
                                     simp [this]
    have h2 : (decide (1 ≤ e.Kind) && decide (e.Kind ≤ 7)) = false := by
      rw [Bool.eq_false_iff]; simp only [ne_eq, Bool.and_eq_true, decide_eq_true_eq]; exact hk7
    rw [h1, h2]; rfl
def exOk (e : GEx) : Bool := decide (exN e ≤ 12) && decide (exD e ≤ 5) && exForm e
theorem spec_ExOk_k (e : GEx) (hs : exN e ≤ 1048577) (k : Nat) (hk : 3 * exN e ≤ k) : spec_ExOk.f k e = some (exOk e) := by
  unfold spec_ExOk.f
  rw [show (5 : Int) = ((5 : Nat) : Int) from rfl, l2Form_k 5 e k (by omega) hs hk, formD_eq]
  simp only [Option.bind_some, exOk]
  by_cases hd : exD e ≤ 5
  · rw [l2Many_k 5 e k (by omega) hd hs hk]
    cases exForm e
    · simp
    · simp only [hd, decide_true, Bool.and_self, if_true, Option.bind_some, Bool.and_true]
      by_cases h : exN e ≤ 12
      · simp [h]; omega
      · simp [h]; omega
  · simp [hd]
theorem impl_ExOk_k (e : GEx) (hs : exN e ≤ 1048577) (k : Nat) (hk : 3 * exN e ≤ k) : impl_ExOk.f k e = some (exOk e) := by
  unfold impl_ExOk.f
  rw [size_k e hs k hk, formed_k e hs k hk]
  simp only [Option.bind_some, exOk]
  by_cases h : 12 < (exN e : Int)
  · rw [if_pos h]; simp; omega
  · rw [if_neg h]
    by_cases h2 : 5 < (exD e : Int)
    · rw [if_pos h2]; simp; omega
    · rw [if_neg h2]
      have a1 : exN e ≤ 12 := by omega
      have a2 : exD e ≤ 5 := by omega
      simp [a1, a2]
/- What is meant, over all that happened: both programs give one answer. -/
def combM (mode : Int) (l : List GEv) (kd n : Int) (r : List (List GOcc)) : List GOcc × Bool :=
  if kd = 2 then orM (r.getD 0 []) (r.getD 1 []) else if kd = 3 then pairOfM (andF mode) (r.getD 0 []) (r.getD 1 []) else if kd = 4 then pairOfM (seqF mode) (r.getD 0 []) (r.getD 1 []) else
  if kd = 5 then spanOfM (notF mode) (r.getD 0 []) (r.getD 1 []) (r.getD 2 []) else if kd = 6 then spanOfM (eachF mode) (r.getD 0 []) (r.getD 1 []) (r.getD 2 []) else plusM n (endM l) (r.getD 0 [])
mutual
/-- what is meant -/
def meanM (mode : Int) (l : List GEv) : GEx → List GOcc × Bool
  | ⟨kd, sy, n, ks⟩ => if kd = 1 then (symFrom sy 0 l, true) else match meansM mode l ks with
    | none => ([], false)
    | some r => combM mode l kd n r
def meansM (mode : Int) (l : List GEv) : List GEx → Option (List (List GOcc))
  | [] => some []
  | x :: xs => if (meanM mode l x).2 = true then (meansM mode l xs).map fun r => (meanM mode l x).1 :: r else none
end
theorem meanM_eq (mode : Int) (l : List GEv) (x : GEx) : meanM mode l x = if x.Kind = 1 then (symFrom x.Sym 0 l, true) else match meansM mode l x.Kids with
    | none => ([], false)
    | some r => combM mode l x.Kind x.N r := by
  obtain ⟨a, b, c, d⟩ := x
  simp only [meanM]
theorem meansM_nil (mode : Int) (l : List GEv) : meansM mode l [] = some [] := by simp only [meansM]
theorem meansM_cons (mode : Int) (l : List GEv) (x : GEx) (xs : List GEx) : meansM mode l (x :: xs) = if (meanM mode l x).2 = true then (meansM mode l xs).map fun r => (meanM mode l x).1 :: r else none := by simp only [meansM]
theorem meansM_some {mode : Int} {l : List GEv} : ∀ {xs : List GEx} {r : List (List GOcc)}, meansM mode l xs = some r → r.length = xs.length ∧ ∀ i (h : i < xs.length), (meanM mode l xs[i]).2 = true ∧ r.getD i [] = (meanM mode l xs[i]).1
  | [], r, h => by
    rw [meansM_nil] at h
    cases h
    exact ⟨rfl, fun i hi => by simp at hi⟩
  | x :: xs, r, h => by
    rw [meansM_cons] at h
    split at h
    · rename_i h1
      rw [Option.map_eq_some_iff] at h
      obtain ⟨r', h2, rfl⟩ := h
      obtain ⟨a, b⟩ := meansM_some h2
      refine ⟨by simp [a], fun i hi => ?_⟩
      cases i with
      | zero => exact ⟨h1, rfl⟩
      | succ i =>
        have := b i (by simpa using hi)
        exact ⟨this.1, by simpa using this.2⟩
    · cases h
/-- what the loops over the parts give -/
def partsM (mode : Int) (l : List GEv) (acc : List (List GOcc)) (xs : List GEx) : Except (List GOcc × Bool) (List (List GOcc)) := match meansM mode l xs with
  | none => .error ([], false)
  | some r => .ok (acc ++ r)
theorem partsM_cons (mode : Int) (l : List GEv) (acc : List (List GOcc)) (x : GEx) (xs : List GEx) : partsM mode l acc (x :: xs) = if (meanM mode l x).2 = true then partsM mode l (acc ++ [(meanM mode l x).1]) xs else .error ([], false) := by
  unfold partsM
  rw [meansM_cons]
  by_cases h : (meanM mode l x).2 = true
  · rw [if_pos h, if_pos h]
    cases meansM mode l xs with
    | none => rfl
    | some r => simp
  · rw [if_neg h, if_neg h]
theorem impl_kids_loop (k : Nat) (rec' : GEx → Int → List GEv → Option (List GOcc × Bool)) (x : GEx) (mode : Int) (l : List GEv) (hx : x.Kids.length ≤ 1000000) (hr : ∀ y ∈ x.Kids, rec' y mode l = some (meanM mode l y)) :
    ∀ (d i n : Nat) (acc : List (List GOcc)), i + d = x.Kids.length → d < n → acc.length ≤ i → impl_Ex_mean.l0 k rec' x mode l n acc (i : Int) = some (partsM mode l acc (x.Kids.drop i)) := by
  intro d
  induction d with
  | zero =>
    intro i n acc hi hn ha
    obtain ⟨n, rfl⟩ : ∃ m, n = m + 1 := ⟨n - 1, by omega⟩
    rw [impl_Ex_mean.l0, if_neg (by omega), List.drop_eq_nil_of_le (by omega)]
    simp [partsM, meansM_nil]
  | succ d ih =>
    intro i n acc hi hn ha
    obtain ⟨n, rfl⟩ : ∃ m, n = m + 1 := ⟨n - 1, by omega⟩
    have h : i < x.Kids.length := by omega
    rw [impl_Ex_mean.l0, if_pos (by omega), req_pos (by omega), Int.toNat_natCast, List.getElem?_eq_getElem h, List.drop_eq_getElem_cons h, partsM_cons]
    simp only [Option.bind_some, hr _ (List.getElem_mem h)]
    by_cases c : (meanM mode l x.Kids[i]).2 = true
    · rw [if_pos c, if_pos c, req_pos (by omega), wrS i (by omega), ih (i + 1) n _ (by omega) (by omega) (by simp; omega)]
    · rw [if_neg c, if_neg c]
theorem spec_kids_loop (k : Nat) (rec' : GEx → Int → List GEv → Option (List GOcc × Bool)) (x : GEx) (mode : Int) (l : List GEv) (hx : x.Kids.length ≤ 1000000) (hr : ∀ y ∈ x.Kids, rec' y mode l = some (meanM mode l y)) :
    ∀ (d i n : Nat) (acc : List (List GOcc)), i + d = x.Kids.length → d < n → acc.length ≤ i → spec_l6Mean.l0 k rec' x mode l n acc (i : Int) = some (partsM mode l acc (x.Kids.drop i)) := by
  intro d
  induction d with
  | zero =>
    intro i n acc hi hn ha
    obtain ⟨n, rfl⟩ : ∃ m, n = m + 1 := ⟨n - 1, by omega⟩
    rw [spec_l6Mean.l0, if_neg (by omega), List.drop_eq_nil_of_le (by omega)]
    simp [partsM, meansM_nil]
  | succ d ih =>
    intro i n acc hi hn ha
    obtain ⟨n, rfl⟩ : ∃ m, n = m + 1 := ⟨n - 1, by omega⟩
    have h : i < x.Kids.length := by omega
    rw [spec_l6Mean.l0, if_pos (by omega), req_pos (by omega), Int.toNat_natCast, List.getElem?_eq_getElem h, List.drop_eq_getElem_cons h, partsM_cons]
    simp only [Option.bind_some, hr _ (List.getElem_mem h)]
    by_cases c : (meanM mode l x.Kids[i]).2 = true
    · rw [if_pos c, if_pos c, req_pos (by omega), wrS i (by omega), ih (i + 1) n _ (by omega) (by omega) (by simp; omega)]
    · rw [if_neg c, if_neg c]
theorem told_small {l : List GOcc} (h : Fews l) : Small (told l).1 := by
  unfold told
  split
  · exact small_nil
  · exact ⟨by dsimp only; omega, h⟩
theorem comb_small {mode : Int} {l : List GEv} {kd n : Int} {r : List (List GOcc)} : Small (combM mode l kd n r).1 := by
  unfold combM
  split
  · unfold orM
    split
    · rename_i h; exact told_small (fews_mergeM (fews_of_ok h.1) (fews_of_ok h.2))
    · exact small_nil
  split
  · unfold pairOfM
    split
    · rename_i h; exact told_small (pair_ok (andF_ok mode) h.1 h.2).2.1.few
    · exact small_nil
  split
  · unfold pairOfM
    split
    · rename_i h; exact told_small (pair_ok (seqF_ok mode) h.1 h.2).2.1.few
    · exact small_nil
  split
  · unfold spanOfM
    split
    · rename_i h; exact told_small (span_ok (notF_ok mode) h.1 h.2.1 h.2.2).2.1.few
    · exact small_nil
  split
  · unfold spanOfM
    split
    · rename_i h; exact told_small (span_ok (eachF_ok mode) h.1 h.2.1 h.2.2).2.1.few
    · exact small_nil
  · unfold plusM
    split
    · rename_i h; exact ⟨by have := latesM_len n (endM l) (r.getD 0 []); have := occsOk_len h.1; dsimp only; omega, lates_few (fews_of_ok h.1)⟩
    · exact small_nil
theorem symFrom_facts (sym : Int) : ∀ (l : List GEv) (i : Nat), (symFrom sym i l).length ≤ l.length ∧ ∀ o ∈ symFrom sym i l, o.Ids.length = 1
  | [], i => by simp [symFrom]
  | e :: l, i => by
    have := symFrom_facts sym l (i + 1)
    unfold symFrom
    split
    · exact ⟨by simp; omega, fun o ho => by
        rcases List.mem_cons.1 ho with rfl | h
        · rfl
        · exact this.2 o h⟩
    · exact ⟨by simp; omega, this.2⟩
theorem mean_small {mode : Int} {l : List GEv} (hl : l.length ≤ 1000000) (x : GEx) : Small (meanM mode l x).1 := by
  rw [meanM_eq]
  split
  · have := symFrom_facts x.Sym l 0
    exact ⟨by dsimp only; omega, fun o ho => by have := this.2 o ho; omega⟩
  · split
    · exact small_nil
    · exact comb_small
theorem form_kids {e : GEx} (h : exForm e = true) : exHere e = true ∧ ∀ x ∈ e.Kids, exForm x = true := by
  rw [exForm_eq, Bool.and_eq_true, exForms_all, List.all_eq_true] at h
  exact h
theorem here_kinds {e : GEx} (h : exHere e = true) : (e.Kind = 1 ∧ e.Kids.length = 0) ∨ (e.Kind = 2 ∧ e.Kids.length = 2) ∨ (e.Kind = 3 ∧ e.Kids.length = 2) ∨ (e.Kind = 4 ∧ e.Kids.length = 2) ∨ (e.Kind = 5 ∧ e.Kids.length = 3) ∨ (e.Kind = 6 ∧ e.Kids.length = 3) ∨ (e.Kind = 7 ∧ e.Kids.length = 1 ∧ 1 ≤ e.N ∧ e.N ≤ 20) := by
  unfold exHere kidsN at h
  simp only [Bool.and_eq_true, decide_eq_true_eq] at h
  obtain ⟨⟨⟨⟨h1, h2⟩, h3⟩, h4⟩, h5⟩ := h
  repeat' split at h1
  all_goals first | omega | skip
  rw [if_pos (by assumption), Bool.and_eq_true, decide_eq_true_eq, decide_eq_true_eq] at h5
  omega
theorem getD_some {α : Type} {r : List α} {d : α} {i : Nat} (h : i < r.length) : r[i]? = some (r.getD i d) := by
  rw [List.getD_eq_getElem?_getD, List.getElem?_eq_getElem h]; rfl
theorem pair_eta {α β : Type} (p : α × β) : some (p.1, p.2) = some p := rfl
theorem mean_eq (mode : Int) (hmo : 0 ≤ mode ∧ mode ≤ 4) (l : List GEv) (hl : l.length ≤ 1000000) : ∀ x : GEx, exN x ≤ 1000000 → exForm x = true → ∀ k : Nat, 1000000000000 + exN x ≤ k → impl_Ex_mean.f k x mode l = some (meanM mode l x) ∧ spec_l6Mean.f k x mode l = some (meanM mode l x) := by
  refine exInd fun x ih hn hf k hk => ?_
  obtain ⟨here, hks⟩ := form_kids hf
  rw [exN_eq] at hn hk
  obtain ⟨k, rfl⟩ : ∃ m, k = m + 1 := ⟨k - 1, by omega⟩
  have hkk : 1000000000000 ≤ k := by omega
  have hlen := exNs_len x.Kids
  have kind := here_kinds here
  have hrec : ∀ y ∈ x.Kids, impl_Ex_mean.f k y mode l = some (meanM mode l y) ∧ spec_l6Mean.f k y mode l = some (meanM mode l y) := fun y hy => by
    have := exNs_mem hy
    exact ih y hy (by omega) (hks y hy) k (by omega)
  have L1 := impl_kids_loop k (impl_Ex_mean.f k) x mode l (by omega) (fun y hy => (hrec y hy).1) x.Kids.length 0 k [] (by omega) (by omega) (by simp)
  have L2 := spec_kids_loop k (spec_l6Mean.f k) x mode l (by omega) (fun y hy => (hrec y hy).2) x.Kids.length 0 k [] (by omega) (by omega) (by simp)
  rw [show ((0 : Nat) : Int) = 0 from rfl, List.drop_zero] at L1 L2
  rw [impl_Ex_mean.f, spec_l6Mean.f, L1, L2, meanM_eq]
  simp only [Option.bind_some]
  unfold partsM
  cases hm : meansM mode l x.Kids with
  | none =>
    have h1 : x.Kind ≠ 1 := fun h1 => by
      have e : x.Kids = [] := List.length_eq_zero_iff.1 (by omega)
      rw [e, meansM_nil] at hm
      cases hm
    rw [if_neg h1, if_neg h1]
    exact ⟨rfl, rfl⟩
  | some r =>
    obtain ⟨rl, rg⟩ := meansM_some hm
    have small : ∀ i, i < x.Kids.length → Small (r.getD i []) := fun i hi => by rw [(rg i hi).2]; exact mean_small hl _
    dsimp only [List.nil_append]
    have N := now_eq l hl
    rcases kind with ⟨a, b⟩ | ⟨a, b⟩ | ⟨a, b⟩ | ⟨a, b⟩ | ⟨a, b⟩ | ⟨a, b⟩ | ⟨a, b, c⟩
    · rw [a]
      simp only [if_true, if_false, show ¬ (1 : Int) = 2 by omega, show ¬ (1 : Int) = 3 by omega, show ¬ (1 : Int) = 4 by omega, show ¬ (1 : Int) = 5 by omega, show ¬ (1 : Int) = 6 by omega, show ¬ (1 : Int) = 7 by omega]
      rw [impl_sym_eq k hkk x l hl, spec_sym_eq k hkk x.Sym l hl]
      exact ⟨rfl, rfl⟩
    · have s0 := small 0 (by omega); have s1 := small 1 (by omega)
      have g0 := getD_some (r := r) (d := []) (i := 0) (by omega); have g1 := getD_some (r := r) (d := []) (i := 1) (by omega)
      rw [a]; unfold combM
      simp only [if_true, if_false, show ¬ (2 : Int) = 1 by omega]
      rw [req_pos (by omega), req_pos (by omega), req_pos (by omega), req_pos (by omega), g0]
      simp only [Option.bind_some]
      rw [req_pos (by omega), req_pos (by omega), req_pos (by omega), req_pos (by omega), g1]
      simp only [Option.bind_some]
      rw [impl_OrOf_eq k hkk _ _ s0 s1, spec_OrOf_eq k hkk _ _ s0 s1]
      exact ⟨rfl, rfl⟩
    · have s0 := small 0 (by omega); have s1 := small 1 (by omega)
      have g0 := getD_some (r := r) (d := []) (i := 0) (by omega); have g1 := getD_some (r := r) (d := []) (i := 1) (by omega)
      rw [a]; unfold combM
      simp only [if_true, if_false, show ¬ (3 : Int) = 1 by omega, show ¬ (3 : Int) = 2 by omega]
      rw [req_pos (by omega), req_pos (by omega), req_pos (by omega), req_pos (by omega), g0]
      simp only [Option.bind_some]
      rw [req_pos (by omega), req_pos (by omega), req_pos (by omega), req_pos (by omega), g1]
      simp only [Option.bind_some]
      rw [impl_AndOf_eq k hkk mode hmo _ _ s0 s1, spec_AndOf_eq k hkk mode hmo _ _ s0 s1]
      exact ⟨rfl, rfl⟩
    · have s0 := small 0 (by omega); have s1 := small 1 (by omega)
      have g0 := getD_some (r := r) (d := []) (i := 0) (by omega); have g1 := getD_some (r := r) (d := []) (i := 1) (by omega)
      rw [a]; unfold combM
      simp only [if_true, if_false, show ¬ (4 : Int) = 1 by omega, show ¬ (4 : Int) = 2 by omega, show ¬ (4 : Int) = 3 by omega]
      rw [req_pos (by omega), req_pos (by omega), req_pos (by omega), req_pos (by omega), g0]
      simp only [Option.bind_some]
      rw [req_pos (by omega), req_pos (by omega), req_pos (by omega), req_pos (by omega), g1]
      simp only [Option.bind_some]
      rw [impl_SeqOf_eq k hkk mode hmo _ _ s0 s1, spec_SeqOf_eq k hkk mode hmo _ _ s0 s1]
      exact ⟨rfl, rfl⟩
    · have s0 := small 0 (by omega); have s1 := small 1 (by omega); have s2 := small 2 (by omega)
      have g0 := getD_some (r := r) (d := []) (i := 0) (by omega); have g1 := getD_some (r := r) (d := []) (i := 1) (by omega); have g2 := getD_some (r := r) (d := []) (i := 2) (by omega)
      rw [a]; unfold combM
      simp only [if_true, if_false, show ¬ (5 : Int) = 1 by omega, show ¬ (5 : Int) = 2 by omega, show ¬ (5 : Int) = 3 by omega, show ¬ (5 : Int) = 4 by omega]
      rw [req_pos (by omega), req_pos (by omega), req_pos (by omega), req_pos (by omega), g0]
      simp only [Option.bind_some]
      rw [req_pos (by omega), req_pos (by omega), req_pos (by omega), req_pos (by omega), g1]
      simp only [Option.bind_some]
      rw [req_pos (by omega), req_pos (by omega), req_pos (by omega), req_pos (by omega), g2]
      simp only [Option.bind_some]
      rw [impl_NotOf_eq k hkk mode hmo _ _ _ s0 s1 s2, spec_NotOf_eq k hkk mode hmo _ _ _ s0 s1 s2]
      exact ⟨rfl, rfl⟩
    · have s0 := small 0 (by omega); have s1 := small 1 (by omega); have s2 := small 2 (by omega)
      have g0 := getD_some (r := r) (d := []) (i := 0) (by omega); have g1 := getD_some (r := r) (d := []) (i := 1) (by omega); have g2 := getD_some (r := r) (d := []) (i := 2) (by omega)
      rw [a]; unfold combM
      simp only [if_true, if_false, show ¬ (6 : Int) = 1 by omega, show ¬ (6 : Int) = 2 by omega, show ¬ (6 : Int) = 3 by omega, show ¬ (6 : Int) = 4 by omega, show ¬ (6 : Int) = 5 by omega]
      rw [req_pos (by omega), req_pos (by omega), req_pos (by omega), req_pos (by omega), g0]
      simp only [Option.bind_some]
      rw [req_pos (by omega), req_pos (by omega), req_pos (by omega), req_pos (by omega), g1]
      simp only [Option.bind_some]
      rw [req_pos (by omega), req_pos (by omega), req_pos (by omega), req_pos (by omega), g2]
      simp only [Option.bind_some]
      rw [impl_EachOf_eq k hkk mode hmo _ _ _ s0 s1 s2, spec_EachOf_eq k hkk mode hmo _ _ _ s0 s1 s2]
      exact ⟨rfl, rfl⟩
    · have s0 := small 0 (by omega)
      have g0 := getD_some (r := r) (d := []) (i := 0) (by omega)
      rw [a]; unfold combM
      simp only [if_true, if_false, show ¬ (7 : Int) = 1 by omega, show ¬ (7 : Int) = 2 by omega, show ¬ (7 : Int) = 3 by omega, show ¬ (7 : Int) = 4 by omega, show ¬ (7 : Int) = 5 by omega, show ¬ (7 : Int) = 6 by omega]
      rw [req_pos (by omega), req_pos (by omega), req_pos (by omega), req_pos (by omega), g0, N.1, N.2]
      simp only [Option.bind_some]
      rw [impl_PlusOf_eq k hkk _ _ _ s0, spec_PlusOf_eq k hkk _ _ _ s0]
      exact ⟨rfl, rfl⟩
def meanOf (x : GEx) (mode : Int) (l : List GEv) : List GOcc × Bool := if exOk x = true ∧ (0 ≤ mode ∧ mode ≤ 4) ∧ evsOk l = true then meanM mode l x else ([], false)
theorem exOk_form {x : GEx} (h : exOk x = true) : exN x ≤ 12 ∧ exForm x = true := by
  unfold exOk at h
  simp only [Bool.and_eq_true, decide_eq_true_eq] at h
  exact ⟨h.1.1, h.2⟩
theorem impl_MeanOf_eq (x : GEx) (mode : Int) (l : List GEv) (hx : exN x ≤ 1048577) (hl : l.length < 4611686018427387904) : Evn (fun k => impl_MeanOf.f k x mode l) (meanOf x mode l) := by
  obtain ⟨K, he⟩ := impl_EvsOk_eq l hl
  refine ⟨K + 3 * exN x + 1000000000100, fun k hk => ?_⟩
  dsimp only
  unfold impl_MeanOf.f meanOf
  have he' : impl_EvsOk.f k l = some (evsOk l) := he k (by omega)
  rw [impl_ExOk_k x hx k (by omega), he', (isMode_eq mode).1]
  simp only [Option.bind_some]
  by_cases h1 : exOk x = true
  · rw [if_pos h1]
    by_cases h2 : 0 ≤ mode ∧ mode ≤ 4
    · rw [if_pos (by simp [h2])]
      by_cases h3 : evsOk l = true
      · have hf := exOk_form h1
        have := evsOk_len h3
        rw [if_pos h3, if_pos ⟨h1, h2, h3⟩, (mean_eq mode h2 l (by omega) x (by omega) hf.2 k (by omega)).1]
        rfl
      · rw [if_neg h3, if_neg (fun h => h3 h.2.2)]
    · rw [if_neg (by simpa using h2), if_neg (fun h => h2 h.2.1)]
  · rw [if_neg h1, if_neg (fun h => h1 h.1)]
theorem spec_MeanOf_eq (x : GEx) (mode : Int) (l : List GEv) (hx : exN x ≤ 1048577) (hl : l.length < 4611686018427387904) : Evn (fun k => spec_MeanOf.f k x mode l) (meanOf x mode l) := by
  obtain ⟨K, he⟩ := spec_EvsOk_eq l hl
  refine ⟨K + 3 * exN x + 1000000000100, fun k hk => ?_⟩
  dsimp only
  unfold spec_MeanOf.f meanOf
  have he' : spec_EvsOk.f k l = some (evsOk l) := he k (by omega)
  rw [spec_ExOk_k x hx k (by omega), he', (isMode_eq mode).2]
  simp only [Option.bind_some]
  by_cases h1 : exOk x = true
  · rw [if_pos h1]
    by_cases h2 : 0 ≤ mode ∧ mode ≤ 4
    · rw [if_pos (by simp [h2])]
      by_cases h3 : evsOk l = true
      · have hf := exOk_form h1
        have := evsOk_len h3
        rw [if_pos h3, if_pos ⟨h1, h2, h3⟩, (mean_eq mode h2 l (by omega) x (by omega) hf.2 k (by omega)).2]
        rfl
      · rw [if_neg h3, if_neg (fun h => h3 h.2.2)]
    · rw [if_neg (by simpa using h2), if_neg (fun h => h2 h.2.1)]
  · rw [if_neg h1, if_neg (fun h => h1 h.1)]
/- What holds of all that is paired, if joining keeps it. -/
def All (Q : GOcc → Prop) (l : List GOcc) : Prop := ∀ x ∈ l, Q x
def Joins (Q : GOcc → Prop) : Prop := ∀ a b, Q a → Q b → Q (joinM a b)
theorem All.nil {Q : GOcc → Prop} : All Q [] := fun x hx => by simp at hx
theorem All.filter {Q : GOcc → Prop} {l : List GOcc} (h : All Q l) (p : GOcc → Bool) : All Q (l.filter p) := fun x hx => h x (List.mem_filter.1 hx).1
theorem All.merge {Q : GOcc → Prop} {l m : List GOcc} (h : All Q l) (hm : All Q m) : All Q (mergeM l m) := fun x hx => by
  rcases mem_mergeM.1 hx with h1 | h1
  · exact h x h1
  · exact hm x h1
theorem All.put {Q : GOcc → Prop} {l : List GOcc} {o : GOcc} (h : All Q l) (ho : Q o) : All Q (putM l o) := fun x hx => by
  rcases mem_putM.1 hx with h1 | rfl
  · exact h x h1
  · exact ho
theorem All.rem {Q : GOcc → Prop} {l g : List GOcc} (h : All Q l) : All Q (remM l g) := h.filter _
theorem All.sum {Q : GOcc → Prop} (hj : Joins Q) : ∀ {l : List GOcc} {o : GOcc}, All Q l → Q o → Q (sumM o l)
  | [], o, _, ho => ho
  | x :: l, o, h, ho => All.sum hj (l := l) (o := joinM o x) (fun y hy => h y (by simp [hy])) (hj _ _ ho (h x (by simp)))
theorem All.eachs {Q : GOcc → Prop} (hj : Joins Q) {o : GOcc} (ho : Q o) : ∀ (l acc : List GOcc), All Q l → All Q acc → All Q (l.foldl (fun s e => putM s (joinM o e)) acc)
  | [], acc, _, ha => ha
  | x :: l, acc, h, ha => All.eachs hj ho l _ (fun y hy => h y (by simp [hy])) (ha.put (hj _ _ ho (h x (by simp))))
theorem All.found {Q : GOcc → Prop} (hj : Joins Q) {mode : Int} {o : GOcc} {l : List GOcc} (h : All Q l) (ho : Q o) : All Q (foundM mode o l) := by
  have one : ∀ x : GOcc, Q x → All Q [x] := fun x hx y hy => by rw [List.mem_singleton.1 hy]; exact hx
  unfold foundM
  by_cases h0 : l.length = 0
  · rw [if_pos h0]; exact All.nil
  rw [if_neg h0]
  split
  · exact one _ (hj _ _ ho (by rw [List.getElem?_eq_getElem (show l.length - 1 < l.length by omega)]; exact h _ (List.getElem_mem _)))
  split
  · exact one _ (hj _ _ ho (by rw [List.getElem?_eq_getElem (show 0 < l.length by omega)]; exact h _ (List.getElem_mem _)))
  split
  · exact one _ (All.sum hj h ho)
  · exact All.eachs hj ho l [] h All.nil
theorem All.one {Q : GOcc → Prop} (hj : Joins Q) {mode : Int} {p : GOcc → GOcc → Bool} {s : List GOcc × List GOcc} {o : GOcc} (h1 : All Q s.1) (h2 : All Q s.2) (ho : Q o) : All Q (oneM mode p s o).1 ∧ All Q (oneM mode p s o).2 :=
  ⟨h1.rem, h2.merge ((h1.filter _).found hj ho)⟩
theorem All.ones {Q : GOcc → Prop} (hj : Joins Q) {mode : Int} {p : GOcc → GOcc → Bool} : ∀ (r : List GOcc) {s : List GOcc × List GOcc}, All Q r → All Q s.1 → All Q s.2 → All Q (r.foldl (oneM mode p) s).1 ∧ All Q (r.foldl (oneM mode p) s).2
  | [], s, _, h1, h2 => ⟨h1, h2⟩
  | o :: r, s, hr, h1, h2 => by
    obtain ⟨a, b⟩ := All.one hj (mode := mode) (p := p) h1 h2 (hr o (by simp))
    exact All.ones hj r (s := oneM mode p s o) (fun y hy => hr y (by simp [hy])) a b
theorem All.store {Q : GOcc → Prop} {mode : Int} {own : List GOcc} {o : GOcc} {alone : Bool} (h : All Q own) (ho : Q o) : All Q (storeM mode own o alone) := by
  unfold storeM
  split
  · exact fun y hy => by rw [List.mem_singleton.1 hy]; exact ho
  split
  · exact h.put ho
  split
  · exact h.put ho
  · exact h
def All3 (Q : GOcc → Prop) (s : List GOcc × List GOcc × List GOcc) : Prop := All Q s.1 ∧ All Q s.2.1 ∧ All Q s.2.2
theorem All3.half {Q : GOcc → Prop} (hj : Joins Q) {mode : Int} {s : List GOcc × List GOcc × List GOcc} {o : GOcc} (h : All3 Q s) (ho : Q o) : All3 Q (halfM mode s o) := ⟨h.1.store ho, h.2.1.rem, h.2.2.merge (h.2.1.found hj ho)⟩
theorem All3.other {Q : GOcc → Prop} (hj : Joins Q) {mode : Int} {s : List GOcc × List GOcc × List GOcc} {o : GOcc} (h : All3 Q s) (ho : Q o) : All3 Q (otherM mode s o) := by
  have := All3.half hj (mode := mode) (s := (s.2.1, s.1, s.2.2)) ⟨h.2.1, h.1, h.2.2⟩ ho
  exact ⟨this.2.1, this.1, this.2.2⟩
theorem all_fold {α σ : Type} (P : σ → Prop) (g : σ → α → σ) : ∀ (l : List α) (s : σ), (∀ s, ∀ x ∈ l, P s → P (g s x)) → P s → P (l.foldl g s)
  | [], s, _, h => h
  | x :: l, s, hs, h => all_fold P g l (g s x) (fun s y hy => hs s y (by simp [hy])) (hs s x (by simp) h)
/-- a step keeps Q -/
def Keeps (Q : GOcc → Prop) (f : Two → List GOcc → List GOcc → Two × List GOcc) : Prop := ∀ (p : Two) (l r : List GOcc), All Q p.1 → All Q p.2 → All Q l → All Q r → All Q (f p l r).1.1 ∧ All Q (f p l r).1.2 ∧ All Q (f p l r).2
def Keeps3 (Q : GOcc → Prop) (f : Two → List GOcc → List GOcc → List GOcc → Two × List GOcc) : Prop := ∀ (p : Two) (a b c : List GOcc), All Q p.1 → All Q p.2 → All Q a → All Q b → All Q c → All Q (f p a b c).1.1 ∧ All Q (f p a b c).1.2 ∧ All Q (f p a b c).2
theorem keeps_seq {Q : GOcc → Prop} (hj : Joins Q) (mode : Int) : Keeps Q (seqF mode) := fun p l r h1 h2 hl hr => by
  obtain ⟨a, b⟩ := All.ones hj (mode := mode) (p := before) r (s := (p.1, [])) hr h1 All.nil
  exact ⟨a.merge hl, h2, b⟩
theorem keeps_and {Q : GOcc → Prop} (hj : Joins Q) (mode : Int) : Keeps Q (andF mode) := fun p l r h1 h2 hl hr => by
  have a := all_fold (All3 Q) (halfM mode) l (p.1, p.2, []) (fun s x hx h => h.half hj (hl x hx)) ⟨h1, h2, All.nil⟩
  have b := all_fold (All3 Q) (otherM mode) r _ (fun s x hx h => h.other hj (hr x hx)) a
  exact ⟨b.1, b.2.1, b.2.2⟩
theorem keeps_not {Q : GOcc → Prop} (hj : Joins Q) (mode : Int) : Keeps3 Q (notF mode) := fun p a b c h1 h2 ha hb hc => by
  obtain ⟨x, y⟩ := All.ones hj (mode := mode) (p := openM p.2) c (s := (p.1, [])) hc h1 All.nil
  exact ⟨x.merge ha, h2.merge hb, y⟩
theorem keeps_each {Q : GOcc → Prop} (hj : Joins Q) (mode : Int) : Keeps3 Q (eachF mode) := fun p a b c h1 h2 ha hb hc =>
  ⟨h1.merge ha, h2.merge hc, all_fold (All Q) _ b [] (fun s x hx h => h.merge ((h1.filter _).found hj (hb x hx))) All.nil⟩
def AllRun (Q : GOcc → Prop) (s : Two × List GOcc) : Prop := All Q s.1.1 ∧ All Q s.1.2 ∧ All Q s.2
theorem all_pair {Q : GOcc → Prop} {f : Two → List GOcc → List GOcc → Two × List GOcc} (hf : Keeps Q f) {a b : List GOcc} (ha : All Q a) (hb : All Q b) : All Q (pairM f a b) :=
  (all_fold (AllRun Q) _ (timesM [a, b]) (([], []), []) (fun s t _ h => by
    obtain ⟨x, y, z⟩ := hf s.1 (atM a t) (atM b t) h.1 h.2.1 (ha.filter _) (hb.filter _)
    exact ⟨x, y, h.2.2.merge z⟩) ⟨All.nil, All.nil, All.nil⟩).2.2
theorem all_span {Q : GOcc → Prop} {f : Two → List GOcc → List GOcc → List GOcc → Two × List GOcc} (hf : Keeps3 Q f) {a b c : List GOcc} (ha : All Q a) (hb : All Q b) (hc : All Q c) : All Q (spanM f a b c) :=
  (all_fold (AllRun Q) _ (timesM [a, b, c]) (([], []), []) (fun s t _ h => by
    obtain ⟨x, y, z⟩ := hf s.1 (atM a t) (atM b t) (atM c t) h.1 h.2.1 (ha.filter _) (hb.filter _) (hc.filter _)
    exact ⟨x, y, h.2.2.merge z⟩) ⟨All.nil, All.nil, All.nil⟩).2.2
theorem all_told {Q : GOcc → Prop} {l : List GOcc} (h : All Q l) : All Q (told l).1 := by
  unfold told
  split
  · exact All.nil
  · exact h
mutual
/-- the letters that are named -/
def symsOf : GEx → List Int
  | ⟨kd, sy, _, ks⟩ => if kd = 1 then [sy] else symsOfs ks
def symsOfs : List GEx → List Int
  | [] => []
  | x :: xs => symsOf x ++ symsOfs xs
end
theorem symsOf_eq (x : GEx) : symsOf x = if x.Kind = 1 then [x.Sym] else symsOfs x.Kids := by cases x; simp only [symsOf]
theorem symsOfs_mem {x : GEx} {s : Int} : ∀ {l : List GEx}, x ∈ l → s ∈ symsOf x → s ∈ symsOfs l
  | y :: l, hx, hs => by
    simp only [symsOfs, List.mem_append]
    rcases List.mem_cons.1 hx with rfl | hx
    · exact .inl hs
    · exact .inr (symsOfs_mem hx hs)
/-- what holds of events, is kept by joining, and by delays up to the last event, holds of all that is meant -/
theorem all_mean {Q : GOcc → Prop} (hj : Joins Q) {mode : Int} {l : List GEv} : ∀ x : GEx, exForm x = true →
    (∀ s ∈ symsOf x, All Q (symFrom s 0 l)) → (∀ n o, 1 ≤ n → Q o → inTime n (endM l) o = true → Q (latM n o)) → All Q (meanM mode l x).1 := by
  refine exInd fun x ih hf hs hp => ?_
  obtain ⟨here, hks⟩ := form_kids hf
  have kind := here_kinds here
  rw [meanM_eq]
  rw [symsOf_eq] at hs
  split
  · rename_i h1
    rw [if_pos h1] at hs
    exact hs _ (by simp)
  rename_i h1
  rw [if_neg h1] at hs
  cases hm : meansM mode l x.Kids with
  | none => exact All.nil
  | some r =>
    obtain ⟨rl, rg⟩ := meansM_some hm
    have q : ∀ i, i < x.Kids.length → All Q (r.getD i []) := fun i hi => by
      rw [(rg i hi).2]; exact ih _ (List.getElem_mem hi) (hks _ (List.getElem_mem hi)) (fun s h => hs s (symsOfs_mem (List.getElem_mem hi) h)) hp
    dsimp only
    unfold combM
    split
    · unfold orM
      split
      · exact all_told ((q 0 (by omega)).merge (q 1 (by omega)))
      · exact All.nil
    split
    · unfold pairOfM
      split
      · exact all_told (all_pair (keeps_and hj mode) (q 0 (by omega)) (q 1 (by omega)))
      · exact All.nil
    split
    · unfold pairOfM
      split
      · exact all_told (all_pair (keeps_seq hj mode) (q 0 (by omega)) (q 1 (by omega)))
      · exact All.nil
    split
    · unfold spanOfM
      split
      · exact all_told (all_span (keeps_not hj mode) (q 0 (by omega)) (q 1 (by omega)) (q 2 (by omega)))
      · exact All.nil
    split
    · unfold spanOfM
      split
      · exact all_told (all_span (keeps_each hj mode) (q 0 (by omega)) (q 1 (by omega)) (q 2 (by omega)))
      · exact All.nil
    · unfold plusM
      split
      · rename_i hn
        intro y hy
        unfold latesM at hy
        obtain ⟨o, ho, rfl⟩ := List.mem_map.1 hy
        obtain ⟨h1, h2⟩ := List.mem_filter.1 ho
        exact hp _ _ hn.2.1 (q 0 (by omega) o h1) h2
      · exact All.nil
/- What is meant is right: in order, few, of right occurrences, none behind the last event. -/
theorem idsUp_of : ∀ {l : List Int} {p : Int}, Up l → (∀ x ∈ l, p < x ∧ x ≤ 23) → idsUp p l = true
  | [], _, _, _ => rfl
  | x :: l, p, hu, h => by
    have hu' := List.pairwise_cons.1 hu
    have := h x (by simp)
    simp only [idsUp, Bool.and_eq_true, decide_eq_true_eq]
    exact ⟨this, idsUp_of hu'.2 fun y hy => ⟨hu'.1 y hy, (h y (by simp [hy])).2⟩⟩
theorem occOk_iff (o : GOcc) : occOk o = true ↔ 1 ≤ o.From ∧ o.From ≤ o.To ∧ o.To ≤ 2000 ∧ 1 ≤ o.Ids.length ∧ IdsOk o.Ids := by
  unfold occOk
  simp only [Bool.and_eq_true, decide_eq_true_eq]
  constructor
  · rintro ⟨⟨⟨⟨a, b⟩, c⟩, d⟩, e⟩
    exact ⟨a, b, c, d, idsOk_of e⟩
  · rintro ⟨a, b, c, d, e⟩
    exact ⟨⟨⟨⟨a, b⟩, c⟩, d⟩, idsUp_of e.1 fun x hx => by have := e.2 x hx; omega⟩
theorem occsOk_of {l : List GOcc} (h1 : All (fun o => occOk o = true) l) (h2 : Asc l) (h3 : l.length ≤ 40) : occsOk l = true := by
  unfold occsOk
  simp only [Bool.and_eq_true, List.all_eq_true, List.mem_range', decide_eq_true_eq]
  refine ⟨?_, h3⟩
  rintro i ⟨j, hj, rfl⟩
  rw [show 0 + 1 * j = j by omega]
  unfold occGood
  rw [List.getElem?_eq_getElem hj]
  simp only [Bool.and_eq_true]
  refine ⟨h1 _ (List.getElem_mem hj), ?_⟩
  cases j with
  | zero => rfl
  | succ j =>
    simp only [occPrev, List.getElem?_eq_getElem (show j < l.length by omega)]
    exact List.pairwise_iff_getElem.1 h2 _ _ _ _ (by omega)
/-- right, and not behind T -/
def Good (T : Int) (o : GOcc) : Prop := occOk o = true ∧ o.To ≤ T
theorem union_pos {a b : List Int} (h : 1 ≤ a.length) : 1 ≤ (unionM a b).length := by
  cases a with
  | nil => simp at h
  | cons x a => exact List.length_pos_of_mem (mem_unionM.2 (.inl (by simp : x ∈ x :: a)))
theorem good_join (T : Int) : Joins (Good T) := fun a b ha hb => by
  obtain ⟨a0, a5⟩ := ha
  obtain ⟨b0, b5⟩ := hb
  obtain ⟨a1, a2, a3, a4, a6⟩ := (occOk_iff a).1 a0
  obtain ⟨b1, b2, b3, b4, b6⟩ := (occOk_iff b).1 b0
  refine ⟨(occOk_iff _).2 ⟨?_, ?_, ?_, union_pos a4, idsOk_union a6 b6⟩, ?_⟩ <;> simp only [joinM] <;> omega
/-- events that rise in time -/
def EvsUp (l : List GEv) : Prop := l.Pairwise (fun a b => a.At < b.At) ∧ (∀ e ∈ l, 1 ≤ e.At ∧ e.At ≤ 1000) ∧ l.length ≤ 24
theorem evsUp_of {l : List GEv} (h : evsOk l = true) : EvsUp l := by
  have h24 := evsOk_len h
  refine ⟨?_, fun e he => by have := evsOk_ok h he; unfold evOk at this; simp only [Bool.and_eq_true, decide_eq_true_eq] at this; omega, h24⟩
  unfold evsOk at h
  simp only [Bool.and_eq_true, List.all_eq_true, List.mem_range', decide_eq_true_eq] at h
  have step : ∀ i (hi : i + 1 < l.length), l[i].At < l[i + 1].At := fun i hi => by
    have := h.1 (i + 1) ⟨i + 1, by omega, by omega⟩
    unfold evGood at this
    rw [List.getElem?_eq_getElem hi] at this
    simp only [Bool.and_eq_true, prevOk, List.getElem?_eq_getElem (show i < l.length by omega), decide_eq_true_eq] at this
    exact this.2
  have far : ∀ d i (hi : i + d + 1 < l.length), l[i].At < l[i + d + 1].At := fun d => by
    induction d with
    | zero => intro i hi; exact step i hi
    | succ d ih => intro i hi; have := ih i (by omega); have := step (i + d + 1) hi; simp only [show i + (d + 1) + 1 = i + d + 1 + 1 by omega]; omega
  refine List.pairwise_iff_getElem.2 fun i j hi hj hij => ?_
  have := far (j - i - 1) i (by omega)
  have e : i + (j - i - 1) + 1 = j := by omega
  simp only [e] at this
  exact this
theorem endM_ge {l : List GEv} (h : EvsUp l) : ∀ e ∈ l, e.At ≤ endM l := fun e he => by
  unfold endM
  obtain ⟨i, hi, rfl⟩ := List.mem_iff_getElem.1 he
  rw [List.getLast?_eq_getElem?, List.getElem?_eq_getElem (show l.length - 1 < l.length by omega)]
  dsimp only
  rcases Nat.lt_or_ge i (l.length - 1) with h1 | h1
  · have := List.pairwise_iff_getElem.1 h.1 i (l.length - 1) (by omega) (by omega) h1; omega
  · have e : i = l.length - 1 := by omega
    simp only [e]; omega
theorem endM_le {l : List GEv} (h : EvsUp l) : endM l ≤ 1000 := by
  unfold endM
  split
  · rename_i e he
    have := h.2.1 e (List.mem_of_getLast? he)
    omega
  · omega
theorem mem_symFrom {sym : Int} {o : GOcc} : ∀ {l : List GEv} {i : Nat}, o ∈ symFrom sym i l → ∃ j e, l[j]? = some e ∧ e.Sym = sym ∧ o = ⟨e.At, e.At, [((i + j : Nat) : Int)]⟩
  | [], i, h => by simp [symFrom] at h
  | e :: l, i, h => by
    unfold symFrom at h
    have step : o ∈ symFrom sym (i + 1) l → ∃ j e', (e :: l)[j]? = some e' ∧ e'.Sym = sym ∧ o = ⟨e'.At, e'.At, [((i + j : Nat) : Int)]⟩ := fun h => by
      obtain ⟨j, e', h1, h2, h3⟩ := mem_symFrom h
      exact ⟨j + 1, e', by simpa using h1, h2, by rw [h3, show i + 1 + j = i + (j + 1) by omega]⟩
    split at h
    · rcases List.mem_cons.1 h with h1 | h1
      · rename_i hs
        exact ⟨0, e, rfl, hs, by rw [h1]; rfl⟩
      · exact step h1
    · exact step h
theorem asc_symFrom {sym : Int} : ∀ {l : List GEv} {i : Nat}, l.Pairwise (fun a b => a.At < b.At) → Asc (symFrom sym i l)
  | [], i, _ => by simp [symFrom, Asc]
  | e :: l, i, h => by
    have h' := List.pairwise_cons.1 h
    unfold symFrom
    split
    · refine List.pairwise_cons.2 ⟨fun o ho => ?_, asc_symFrom h'.2⟩
      obtain ⟨j, e', h1, h2, rfl⟩ := mem_symFrom ho
      have := h'.1 e' (List.mem_of_getElem? h1)
      rw [occLess_iff]
      exact .inl this
    · exact asc_symFrom h'.2
theorem sym_good {l : List GEv} (h : EvsUp l) (sym : Int) : All (Good (endM l)) (symFrom sym 0 l) := fun o ho => by
  obtain ⟨j, e, h1, h2, rfl⟩ := mem_symFrom ho
  have hm := List.mem_of_getElem? h1
  have := h.2.1 e hm
  have := endM_ge h e hm
  have hj : j < l.length := by
    rcases Nat.lt_or_ge j l.length with q | q
    · exact q
    · rw [List.getElem?_eq_none q] at h1; cases h1
  have := h.2.2
  refine ⟨(occOk_iff _).2 ⟨by dsimp only; omega, by dsimp only; omega, by dsimp only; omega, by simp, ⟨by simp [Up], fun x hx => ?_⟩⟩, by dsimp only; omega⟩
  have := List.mem_singleton.1 hx
  omega
theorem asc_told {l : List GOcc} (h : Asc l) : Asc (told l).1 ∧ (told l).1.length ≤ 40 := by
  unfold told
  split
  · exact ⟨by simp [Asc], by simp⟩
  · exact ⟨h, by dsimp only; omega⟩
theorem mean_good {mode : Int} {l : List GEv} (h : EvsUp l) (x : GEx) (hf : exForm x = true) : All (Good (endM l)) (meanM mode l x).1 :=
  all_mean (good_join _) x hf (fun s _ => sym_good h s) fun n o hn ho hi => by
    unfold inTime at hi
    simp only [Bool.and_eq_true, decide_eq_true_eq] at hi
    obtain ⟨a1, a2, a3, a4, a5⟩ := (occOk_iff o).1 ho.1
    exact ⟨(occOk_iff _).2 ⟨by simp only [latM]; omega, by simp only [latM]; omega, by simp only [latM]; omega, by simpa only [latM] using a4, by simpa only [latM] using a5⟩, by simp only [latM]; omega⟩
theorem mean_asc {mode : Int} {l : List GEv} (h : EvsUp l) (x : GEx) (hf : exForm x = true) : Asc (meanM mode l x).1 ∧ (meanM mode l x).1.length ≤ 40 := by
  have nil : Asc ([] : List GOcc) ∧ ([] : List GOcc).length ≤ 40 := ⟨by simp [Asc], by simp⟩
  rw [meanM_eq]
  split
  · exact ⟨asc_symFrom h.1, by have := (symFrom_facts x.Sym l 0).1; have := h.2.2; dsimp only; omega⟩
  split
  · exact nil
  unfold combM
  split
  · unfold orM
    split
    · rename_i hh; exact asc_told (asc_mergeM (asc_of_ok hh.1))
    · exact nil
  split
  · unfold pairOfM
    split
    · rename_i hh; exact asc_told (pair_ok (andF_ok mode) hh.1 hh.2).1
    · exact nil
  split
  · unfold pairOfM
    split
    · rename_i hh; exact asc_told (pair_ok (seqF_ok mode) hh.1 hh.2).1
    · exact nil
  split
  · unfold spanOfM
    split
    · rename_i hh; exact asc_told (span_ok (notF_ok mode) hh.1 hh.2.1 hh.2.2).1
    · exact nil
  split
  · unfold spanOfM
    split
    · rename_i hh; exact asc_told (span_ok (eachF_ok mode) hh.1 hh.2.1 hh.2.2).1
    · exact nil
  · unfold plusM
    split
    · rename_i hh; exact ⟨asc_lates (asc_of_ok hh.1), Nat.le_trans (latesM_len _ _ _) (occsOk_len hh.1)⟩
    · exact nil
theorem mean_ok {mode : Int} {l : List GEv} (h : EvsUp l) (x : GEx) (hf : exForm x = true) : occsOk (meanM mode l x).1 = true := by
  obtain ⟨a, b⟩ := mean_asc (mode := mode) h x hf
  exact occsOk_of (fun o ho => (mean_good h x hf o ho).1) a b
theorem meanOf_ok (x : GEx) (mode : Int) (l : List GEv) : occsOk (meanOf x mode l).1 = true := by
  unfold meanOf
  split
  · rename_i h
    exact mean_ok (evsUp_of h.2.2) x (exOk_form h.1).2
  · exact occsOk_nil
/- All events of all that is meant: both programs. -/
theorem union_eq (k : Nat) (hk : 1000000000000 ≤ k) (a b : List Int) (ha : a.length ≤ 1000) (hb : b.length ≤ 1000) : spec_l3Union.f k a b = some (unionM a b) := by
  unfold spec_l3Union.f
  have := union_loop k a b ha hb (a.length + b.length) 0 0 k [] (by omega) (by omega) (by omega) (by omega) (by simp)
  rw [show ((0 : Nat) : Int) = 0 from rfl] at this
  rw [this]; rfl
def usedM (l : List GOcc) : List Int := l.foldl (fun s o => unionM s o.Ids) []
theorem idsOk_nil : IdsOk [] := ⟨by simp [Up], fun x hx => by simp at hx⟩
theorem used_ok : ∀ {l : List GOcc} {acc : List Int}, Ids l → IdsOk acc → IdsOk (l.foldl (fun s o => unionM s o.Ids) acc)
  | [], acc, _, h => h
  | x :: l, acc, hl, h => used_ok (l := l) (fun o ho => hl o (by simp [ho])) (idsOk_union h (hl x (by simp)))
theorem mem_used {z : Int} : ∀ {l : List GOcc} {acc : List Int}, z ∈ l.foldl (fun s o => unionM s o.Ids) acc ↔ z ∈ acc ∨ ∃ o ∈ l, z ∈ o.Ids
  | [], acc => by simp
  | x :: l, acc => by
    rw [List.foldl_cons, mem_used (l := l), mem_unionM]
    simp only [List.mem_cons, exists_eq_or_imp, or_assoc]
theorem set_self {α : Type} (l : List α) (i : Nat) (h : i < l.length) : l.set i l[i] = l := by
  refine List.ext_getElem (by simp) fun j h1 h2 => ?_
  rw [List.getElem_set]
  split
  · rename_i e; subst e; rfl
  · rfl
theorem loop_invE {α σ τ : Type} (ret : σ → τ) (l : List α) (L : Nat → σ → Int → Option τ) (g : σ → α → σ) (Inv : Nat → σ → Prop)
    (hend : ∀ n s, Inv l.length s → L (n + 1) s (l.length : Int) = some (ret s))
    (hstep : ∀ n s (i : Nat) (h : i < l.length), Inv i s → L (n + 1) s (i : Int) = L n (g s l[i]) ((i + 1 : Nat) : Int) ∧ Inv (i + 1) (g s l[i])) (n : Nat) (s : σ) (hn : l.length < n) (hI : Inv 0 s) :
    L n s 0 = some (ret (l.foldl g s)) ∧ Inv l.length (l.foldl g s) := by
  have : ∀ (d i n : Nat) (s : σ), i + d = l.length → d < n → Inv i s → L n s (i : Int) = some (ret ((l.drop i).foldl g s)) ∧ Inv l.length ((l.drop i).foldl g s) := by
    intro d
    induction d with
    | zero =>
      intro i n s hi hn hI
      obtain ⟨n, rfl⟩ : ∃ m, n = m + 1 := ⟨n - 1, by omega⟩
      have e : i = l.length := by omega
      subst e
      rw [hend n s hI, List.drop_length]
      exact ⟨rfl, hI⟩
    | succ d ih =>
      intro i n s hi hn hI
      obtain ⟨n, rfl⟩ : ∃ m, n = m + 1 := ⟨n - 1, by omega⟩
      have hlt : i < l.length := by omega
      obtain ⟨h1, h2⟩ := hstep n s i hlt hI
      rw [h1, List.drop_eq_getElem_cons hlt]
      exact ih (i + 1) n _ (by omega) (by omega) h2
  have := this l.length 0 n s (by omega) hn hI
  simpa using this
theorem spec_MeanUsed_of (k : Nat) (hk : 1000000000000 ≤ k) (x : GEx) (mode : Int) (l : List GEv) (h' : spec_MeanOf.f k x mode l = some (meanOf x mode l)) : spec_MeanUsed.f k x mode l = some (usedM (meanOf x mode l).1) := by
  have ok := meanOf_ok x mode l
  unfold spec_MeanUsed.f
  rw [h']
  simp only [Option.bind_some]
  generalize (meanOf x mode l).1 = r at ok
  have l1 := occsOk_len ok
  have q := loop_invE (fun s : List GOcc × List Int => s.2) r (fun n s i => spec_MeanUsed.l0 k n s.1 s.2 i) (fun s o => (s.1, unionM s.2 o.Ids)) (fun i s => s.1 = r ∧ IdsOk s.2)
    (fun n s hI => by rw [hI.1, spec_MeanUsed.l0, if_neg (by omega)])
    (fun n s i hi hI => by
      obtain ⟨e, hI⟩ := hI
      refine ⟨?_, e, idsOk_union hI (ids_of_ok ok _ (List.getElem_mem hi))⟩
      have l2 := idsOk_len hI
      have l3 := idsOk_len (ids_of_ok ok _ (List.getElem_mem hi))
      rw [e, spec_MeanUsed.l0, if_pos (by omega), req_pos (by omega), req_pos (by omega), Int.toNat_natCast, List.getElem?_eq_getElem hi]
      simp only [Option.bind_some]
      rw [union_eq k (by omega) _ _ (by omega) (by omega)]
      simp only [Option.bind_some]
      rw [wrS i (by omega), set_self])
    k (r, []) (by omega) ⟨rfl, idsOk_nil⟩
  have e : ∀ (m : List GOcc) (a : List GOcc) (b : List Int), (m.foldl (fun (s : List GOcc × List Int) o => (s.1, unionM s.2 o.Ids)) (a, b)).2 = m.foldl (fun s o => unionM s o.Ids) b := fun m => by
    induction m with
    | nil => intro a b; rfl
    | cons x m ih => intro a b; rw [List.foldl_cons, List.foldl_cons, ih]
  have q' : spec_MeanUsed.l0 k k r [] 0 = some (usedM r) := by
    have := q.1
    rw [e] at this
    exact this
  rw [q']; rfl
theorem spec_MeanUsed_eq (x : GEx) (mode : Int) (l : List GEv) (hx : exN x ≤ 1048577) (hl : l.length < 4611686018427387904) : Evn (fun k => spec_MeanUsed.f k x mode l) (usedM (meanOf x mode l).1) := by
  obtain ⟨K, h⟩ := spec_MeanOf_eq x mode l hx hl
  exact ⟨K + 1000000000000, fun k hk => spec_MeanUsed_of k (by omega) x mode l (h k (by omega))⟩
theorem impl_MeanUsed_of (k : Nat) (hk : 1000000000000 ≤ k) (x : GEx) (mode : Int) (l : List GEv) (h' : impl_MeanOf.f k x mode l = some (meanOf x mode l)) : impl_MeanUsed.f k x mode l = some (usedM (meanOf x mode l).1) := by
  have ok := meanOf_ok x mode l
  unfold impl_MeanUsed.f
  rw [h']
  simp only [Option.bind_some]
  generalize meanOf x mode l = r at ok
  have l1 := occsOk_len ok
  have q := loop_invE (fun s : List Int × List GOcc => s.1) r.1 (fun n s i => impl_MeanUsed.l0 k r n s.1 s.2 i) (fun s o => (s.1 ++ o.Ids, s.2)) (fun i s => s.2 = r.1 ∧ s.1.length ≤ 24 * i)
    (fun n s hI => by rw [impl_MeanUsed.l0, if_neg (by omega)])
    (fun n s i hi hI => by
      obtain ⟨e, hI⟩ := hI
      have l3 := idsOk_len (ids_of_ok ok _ (List.getElem_mem hi))
      refine ⟨?_, e, by simp; omega⟩
      rw [e, impl_MeanUsed.l0, if_pos (by omega), req_pos (by omega), req_pos (by omega), Int.toNat_natCast, List.getElem?_eq_getElem hi]
      simp only [Option.bind_some]
      rw [req_pos (by omega), wrS i (by omega), set_self])
    k ([], r.1) (by omega) ⟨rfl, by simp⟩
  have e : ∀ (m : List GOcc) (a : List Int) (b : List GOcc), (m.foldl (fun (s : List Int × List GOcc) o => (s.1 ++ o.Ids, s.2)) (a, b)).1 = a ++ (m.map (·.Ids)).flatten := fun m => by
    induction m with
    | nil => intro a b; simp
    | cons x m ih => intro a b; rw [List.foldl_cons, ih]; simp
  obtain ⟨q1, q2⟩ := q
  have b1 := q2.2
  rw [e, List.nil_append] at q1 b1
  have q' : impl_MeanUsed.l0 k r k [] r.1 0 = some ((r.1.map (·.Ids)).flatten) := q1
  rw [q']
  simp only [Option.bind_some]
  unfold slices_Sort.f slices_Compact.f
  have es : (r.1.map (·.Ids)).flatten.mergeSort (fun x y => decide (x ≤ y)) = sortM (r.1.map (·.Ids)).flatten := rfl
  have ls := length_sortM (r.1.map (·.Ids)).flatten
  have eu : uniq (sortM (r.1.map (·.Ids)).flatten) = usedM r.1 := by
    refine up_ext (up_uniq (sortM_le _)) (used_ok (ids_of_ok ok) idsOk_nil).1 fun z => ?_
    rw [mem_uniq, mem_sortM, usedM, mem_used]
    simp only [List.mem_flatten, List.mem_map, List.not_mem_nil, false_or]
    constructor
    · rintro ⟨_, ⟨o, h1, rfl⟩, h2⟩; exact ⟨o, h1, h2⟩
    · rintro ⟨o, h1, h2⟩; exact ⟨_, ⟨o, h1, rfl⟩, h2⟩
  have lu := idsOk_len (used_ok (ids_of_ok ok) idsOk_nil)
  rw [req_pos (by omega), es]
  simp only [Option.bind_some]
  rw [req_pos ls, req_pos (by omega), eu]
  simp only [Option.bind_some]
  rw [req_pos (show (usedM r.1).length * 8 ≤ 140737488355328 by unfold usedM; omega)]
theorem impl_MeanUsed_eq (x : GEx) (mode : Int) (l : List GEv) (hx : exN x ≤ 1048577) (hl : l.length < 4611686018427387904) : Evn (fun k => impl_MeanUsed.f k x mode l) (usedM (meanOf x mode l).1) := by
  obtain ⟨K, h⟩ := impl_MeanOf_eq x mode l hx hl
  exact ⟨K + 1000000000000, fun k hk => impl_MeanUsed_of k (by omega) x mode l (h k (by omega))⟩
/- What is meant, for all large bounds: both programs. -/
theorem spec_EvsOk_k (k : Nat) (hk : 1000000000000 ≤ k) (l : List GEv) (hl : l.length ≤ 1000000) : spec_EvsOk.f k l = some (evsOk l) := by
  unfold spec_EvsOk.f evsOk
  by_cases h : 24 < (l.length : Int)
  · rw [if_pos h]; have : ¬ l.length ≤ 24 := by omega
    simp [this]
  · rw [if_neg h]
    have := spec_EvsOk_loop k l (by omega) l.length k 0 (by omega) (by omega)
    rw [show ((0 : Nat) : Int) = 0 from rfl] at this
    rw [this]
    have h' : l.length ≤ 24 := by omega
    cases (List.range' 0 l.length).all (evGood l) <;> simp [h']
theorem impl_EvsOk_k (k : Nat) (hk : 1000000000000 ≤ k) (l : List GEv) (hl : l.length ≤ 1000000) : impl_EvsOk.f k l = some (evsOk l) := by
  unfold impl_EvsOk.f evsOk
  have := impl_EvsOk_loop k l (by omega) l.length k 0 (by omega) (by omega)
  rw [show ((0 : Nat) : Int) = 0 from rfl] at this
  rw [this]
  cases (List.range' 0 l.length).all (evGood l)
  · simp
  · simp only [if_true, Option.bind_some, Bool.true_and, Option.some.injEq]
    by_cases h : l.length ≤ 24
    · have : ¬ (24 : Int) < l.length := by omega
      simp [h, this]
    · have : (24 : Int) < l.length := by omega
      simp [h, this]
theorem impl_MeanOf_k (k : Nat) (hk : 2000000000000 ≤ k) (x : GEx) (mode : Int) (l : List GEv) (hx : exN x ≤ 1000000) (hl : l.length ≤ 1000000) : impl_MeanOf.f k x mode l = some (meanOf x mode l) := by
  unfold impl_MeanOf.f meanOf
  rw [impl_ExOk_k x (by omega) k (by omega), impl_EvsOk_k k (by omega) l hl, (isMode_eq mode).1]
  simp only [Option.bind_some]
  by_cases h1 : exOk x = true
  · rw [if_pos h1]
    by_cases h2 : 0 ≤ mode ∧ mode ≤ 4
    · rw [if_pos (by simp [h2])]
      by_cases h3 : evsOk l = true
      · have hf := exOk_form h1
        rw [if_pos h3, if_pos ⟨h1, h2, h3⟩, (mean_eq mode h2 l (by omega) x (by omega) hf.2 k (by omega)).1]
        rfl
      · rw [if_neg h3, if_neg (fun h => h3 h.2.2)]
    · rw [if_neg (by simpa using h2), if_neg (fun h => h2 h.2.1)]
  · rw [if_neg h1, if_neg (fun h => h1 h.1)]
theorem spec_MeanOf_k (k : Nat) (hk : 2000000000000 ≤ k) (x : GEx) (mode : Int) (l : List GEv) (hx : exN x ≤ 1000000) (hl : l.length ≤ 1000000) : spec_MeanOf.f k x mode l = some (meanOf x mode l) := by
  unfold spec_MeanOf.f meanOf
  rw [spec_ExOk_k x (by omega) k (by omega), spec_EvsOk_k k (by omega) l hl, (isMode_eq mode).2]
  simp only [Option.bind_some]
  by_cases h1 : exOk x = true
  · rw [if_pos h1]
    by_cases h2 : 0 ≤ mode ∧ mode ≤ 4
    · rw [if_pos (by simp [h2])]
      by_cases h3 : evsOk l = true
      · have hf := exOk_form h1
        rw [if_pos h3, if_pos ⟨h1, h2, h3⟩, (mean_eq mode h2 l (by omega) x (by omega) hf.2 k (by omega)).2]
        rfl
      · rw [if_neg h3, if_neg (fun h => h3 h.2.2)]
    · rw [if_neg (by simpa using h2), if_neg (fun h => h2 h.2.1)]
  · rw [if_neg h1, if_neg (fun h => h1 h.1)]
/- The first time of what is meant. -/
def firstM (l : List GOcc) : Int := match l with | [] => -1 | o :: _ => o.To
theorem spec_MeanFirst_of (k : Nat) (x : GEx) (mode : Int) (l : List GEv) (h' : spec_MeanOf.f k x mode l = some (meanOf x mode l)) : spec_MeanFirst.f k x mode l = some (firstM (meanOf x mode l).1) := by
  unfold spec_MeanFirst.f
  rw [h']
  simp only [Option.bind_some]
  cases hq : (meanOf x mode l).1 with
  | nil => rw [if_pos (by simp)]; rfl
  | cons o t => rw [if_neg (by simp; omega), req_pos (by omega), req_pos (by simp)]; rfl
theorem impl_MeanFirst_of (k : Nat) (x : GEx) (mode : Int) (l : List GEv) (h' : impl_MeanOf.f k x mode l = some (meanOf x mode l)) : impl_MeanFirst.f k x mode l = some (firstM (meanOf x mode l).1) := by
  unfold impl_MeanFirst.f
  rw [h']
  simp only [Option.bind_some]
  cases hq : (meanOf x mode l).1 with
  | nil => rw [if_pos (by simp)]; rfl
  | cons o t => rw [if_neg (by simp; omega), req_pos (by omega), req_pos (by simp)]; rfl
theorem spec_MeanFirst_eq (x : GEx) (mode : Int) (l : List GEv) (hx : exN x ≤ 1048577) (hl : l.length < 4611686018427387904) : Evn (fun k => spec_MeanFirst.f k x mode l) (firstM (meanOf x mode l).1) := by
  obtain ⟨K, h⟩ := spec_MeanOf_eq x mode l hx hl
  exact ⟨K, fun k hk => spec_MeanFirst_of k x mode l (h k hk)⟩
theorem impl_MeanFirst_eq (x : GEx) (mode : Int) (l : List GEv) (hx : exN x ≤ 1048577) (hl : l.length < 4611686018427387904) : Evn (fun k => impl_MeanFirst.f k x mode l) (firstM (meanOf x mode l).1) := by
  obtain ⟨K, h⟩ := impl_MeanOf_eq x mode l hx hl
  exact ⟨K, fun k hk => impl_MeanFirst_of k x mode l (h k hk)⟩
/- What is drawn: bytes, numbers. -/
theorem u8_ok {y : Int} (h : (Lit.int .u8 y).wf = true) : 0 ≤ y ∧ y ≤ 255 := by
  simp only [Lit.wf, Bool.and_eq_true, decide_eq_true_eq] at h
  exact h
theorem xor_ok (a b : Int) (ha : 0 ≤ a ∧ a < 4611686018427387904) (hb : 0 ≤ b ∧ b < 4611686018427387904) : 0 ≤ binOf .xor .i64 a b ∧ binOf .xor .i64 a b < 4611686018427387904 := by
  obtain ⟨m, rfl⟩ : ∃ m : Nat, a = m := ⟨a.toNat, by omega⟩
  obtain ⟨n, rfl⟩ : ∃ n : Nat, b = n := ⟨b.toNat, by omega⟩
  have h : (BitVec.ofInt 64 (m : Int) ^^^ BitVec.ofInt 64 (n : Int)).toNat = m ^^^ n := by
    rw [BitVec.toNat_xor, BitVec.ofInt_natCast, BitVec.ofInt_natCast, BitVec.toNat_ofNat, BitVec.toNat_ofNat, Nat.mod_eq_of_lt (by omega), Nat.mod_eq_of_lt (by omega)]
  have h2 : m ^^^ n < 2 ^ 62 := Nat.xor_lt_two_pow (by omega) (by omega)
  show 0 ≤ IntKind.wrap .i64 ((BitVec.ofInt 64 (m : Int) ^^^ BitVec.ofInt 64 (n : Int)).toNat : Int) ∧ _
  have e : binOf .xor .i64 (m : Int) (n : Int) = IntKind.wrap .i64 ((BitVec.ofInt 64 (m : Int) ^^^ BitVec.ofInt 64 (n : Int)).toNat : Int) := rfl
  rw [e, h, wr _ (by omega)]
  omega
theorem rem_eq (a b : Int) (ha : 0 ≤ a ∧ a < 4611686018427387904) (hb : 1 ≤ b ∧ b < 4611686018427387904) : binOf .rem .i64 a b = a % b := by
  show a.tmod b = a % b
  exact Int.tmod_eq_emod_of_nonneg ha.1
theorem quo_eq (a b : Int) (ha : 0 ≤ a ∧ a < 4611686018427387904) (hb : 1 ≤ b ∧ b < 4611686018427387904) : binOf .quo .i64 a b = a / b ∧ 0 ≤ a / b ∧ a / b ≤ a := by
  have e : binOf .quo .i64 a b = IntKind.wrap .i64 (a.tdiv b) := rfl
  have h1 := Int.ediv_nonneg ha.1 (show 0 ≤ b by omega)
  have h2 := Int.ediv_le_self b ha.1
  rw [e, Int.tdiv_eq_ediv_of_nonneg ha.1, wr _ (by omega)]
  exact ⟨rfl, h1, h2⟩
/-- a reader over bytes that has read no more than m -/
def RdOk (r : Gl14Rd) (m : Int) : Prop := (∀ x ∈ r.b, 0 ≤ x ∧ x ≤ 255) ∧ r.b.length ≤ 1048576 ∧ 0 ≤ r.p ∧ r.p ≤ m
theorem RdOk.mono {r : Gl14Rd} {m n : Int} (h : RdOk r m) (hm : m ≤ n) : RdOk r n := ⟨h.1, h.2.1, h.2.2.1, by have := h.2.2.2; omega⟩
theorem pick_ok (r : Gl14Rd) (n : Int) (m : Int) (h : RdOk r m) (hm : m ≤ 1000000000) (hn : n < 4611686018427387904) : ∃ v r', spec_l14Rd_pick.f r n = some (v, r') ∧ 0 ≤ v ∧ (1 ≤ n → v < n) ∧ (n < 1 → v = 0) ∧ RdOk r' (m + 1) := by
  obtain ⟨hb, hl, h0, h1⟩ := h
  have hw : IntKind.wrap .i64 (r.p + 1) = r.p + 1 := wr _ (by omega)
  have hr' : RdOk ⟨r.b, r.p + 1⟩ (m + 1) := ⟨hb, hl, by dsimp only; omega, by dsimp only; omega⟩
  unfold spec_l14Rd_pick.f
  simp only [hw]
  by_cases hn1 : n < 1
  · rw [if_pos hn1]; exact ⟨0, _, rfl, by omega, by omega, fun _ => rfl, hr'⟩
  rw [if_neg hn1]
  by_cases hb0 : (r.b.length : Int) = 0
  · rw [if_pos hb0]; exact ⟨0, _, rfl, by omega, by omega, fun _ => rfl, hr'⟩
  rw [if_neg hb0]
  have hq : IntKind.wrap .i64 (r.p + 1 - 1) = r.p := by rw [wr _ (by omega)]; omega
  simp only [hq]
  by_cases hp : r.p < (r.b.length : Int)
  · have hlt : r.p.toNat < r.b.length := by omega
    have he := hb r.b[r.p.toNat] (List.getElem_mem hlt)
    rw [if_pos hp, req_pos h0, List.getElem?_eq_getElem hlt]
    simp only [Option.bind_some]
    rw [req_pos (by omega), wr _ (by omega), rem_eq _ _ (by omega) (by omega)]
    have g1 := Int.emod_nonneg r.b[r.p.toNat] (show n ≠ 0 by omega)
    have g2 := Int.emod_lt_of_pos r.b[r.p.toNat] (show 0 < n by omega)
    exact ⟨_, _, rfl, g1, fun _ => g2, fun h => absurd h hn1, hr'⟩
  · rw [if_neg hp, req_pos hb0]
    rw [wr (r.p * 7) (by omega), wr (r.p * 7 + 3) (by omega), wr (r.p * 29) (by omega), rem_eq r.p _ (by omega) (by omega), rem_eq (r.p * 7 + 3) _ (by omega) (by omega), (quo_eq r.p _ (by omega) (by omega)).1]
    have q1 := Int.emod_nonneg r.p hb0
    have q2 := Int.emod_lt_of_pos r.p (show 0 < (r.b.length : Int) by omega)
    have q3 := Int.emod_nonneg (r.p * 7 + 3) hb0
    have q4 := Int.emod_lt_of_pos (r.p * 7 + 3) (show 0 < (r.b.length : Int) by omega)
    have q5 := (quo_eq r.p (r.b.length : Int) (by omega) (by omega)).2
    generalize r.p % (r.b.length : Int) = i at *
    generalize (r.p * 7 + 3) % (r.b.length : Int) = j at *
    generalize r.p / (r.b.length : Int) = d at *
    have hi : i.toNat < r.b.length := by omega
    have hj : j.toNat < r.b.length := by omega
    have e1 := hb r.b[i.toNat] (List.getElem_mem hi)
    have e2 := hb r.b[j.toNat] (List.getElem_mem hj)
    rw [req_pos q1, List.getElem?_eq_getElem hi]
    simp only [Option.bind_some]
    rw [req_pos hb0, req_pos q3, List.getElem?_eq_getElem hj]
    simp only [Option.bind_some]
    generalize r.b[i.toNat] = x at *
    generalize r.b[j.toNat] = y at *
    rw [req_pos hb0, req_pos (by omega)]
    simp only [wr x (by omega), wr y (by omega), wr (x * 131) (by omega), wr (y * 1117) (by omega), wr (d * 53) (by omega), wr (x * 131 + y * 1117) (by omega), wr (x * 131 + y * 1117 + r.p * 29) (by omega), wr (x * 131 + y * 1117 + r.p * 29 + d * 53) (by omega)]
    have u := quo_eq (x * 131 + y * 1117 + r.p * 29 + d * 53) 64 (by omega) (by omega)
    have v := xor_ok (x * 131 + y * 1117 + r.p * 29 + d * 53) (binOf .quo .i64 (x * 131 + y * 1117 + r.p * 29 + d * 53) 64) (by omega) (by rw [u.1]; omega)
    rw [rem_eq _ n v (by omega)]
    exact ⟨_, _, rfl, Int.emod_nonneg _ (by omega), fun _ => Int.emod_lt_of_pos _ (by omega), fun h => absurd h hn1, hr'⟩
theorem num_ok (r : Gl14Rd) (l : List Int) (m : Int) (h : RdOk r m) (hm : m ≤ 1000000000) (hl : 1 ≤ l.length ∧ l.length < 1000) : ∃ v r', spec_l14Rd_num.f r l = some (v, r') ∧ v ∈ l ∧ RdOk r' (m + 1) := by
  obtain ⟨v, r', h1, h2, h3, h4, h5⟩ := pick_ok r l.length m h hm (by omega)
  have hv := h3 (by omega)
  unfold spec_l14Rd_num.f
  rw [h1]
  simp only [Option.bind_some]
  rw [req_pos h2, List.getElem?_eq_getElem (show v.toNat < l.length by omega)]
  exact ⟨_, _, rfl, List.getElem_mem _, h5⟩
theorem l14Open_ok (l : List Int) (hl : l.length ≤ 1048576) (hb : ∀ y ∈ l, 0 ≤ y ∧ y ≤ 255) : ∃ r, spec_l14Open.f l = some r ∧ RdOk r 0 := by
  unfold spec_l14Open.f
  by_cases h : 2000 < (l.length : Int)
  · rw [if_pos h, req_pos (by omega), req_pos (by omega), req_pos (by omega)]
    exact ⟨_, rfl, fun x hx => hb x (List.mem_of_mem_take hx), by simp; omega, by dsimp only; omega, by dsimp only; omega⟩
  · rw [if_neg h]
    exact ⟨_, rfl, hb, hl, by dsimp only; omega, by dsimp only; omega⟩
/- Trees that are drawn. -/
theorem exNs_append : ∀ l m : List GEx, exNs (l ++ m) = exNs l + exNs m
  | [], m => by simp [exNs_nil]
  | x :: l, m => by rw [List.cons_append, exNs_cons, exNs_cons, exNs_append l m]; omega
theorem exNs_one (x : GEx) : exNs [x] = exN x := by rw [exNs_cons, exNs_nil]; omega
theorem exN_leaf (a b c : Int) : exN ⟨a, b, c, []⟩ = 1 := by rw [exN_eq, exNs_nil]
theorem l2Ex_loop0 (k : Nat) (rec' : Gl14Rd → Int → Option (GEx × Gl14Rd)) (p1 : Int) (B N : Nat) (M : Int)
    (H : ∀ (r : Gl14Rd) (m : Int), RdOk r m → m ≤ M → ∃ x r', rec' r (IntKind.wrap .i64 (p1 - 1)) = some (x, r') ∧ RdOk r' (m + B) ∧ exN x ≤ N) :
    ∀ (c n : Nat) (b : List Int) (p m : Int) (acc : List GEx), c < n → c ≤ 3 → RdOk ⟨b, p⟩ m → m + c * B ≤ M + B → exNs acc + c * N ≤ 1000000 →
      ∃ acc' b' p', spec_l2Ex.l0 k rec' p1 n b p acc (c : Int) = some (acc', b', p') ∧ RdOk ⟨b', p'⟩ (m + c * B) ∧ exNs acc' ≤ exNs acc + c * N := by
  intro c
  induction c with
  | zero =>
    intro n b p m acc hn hc hr hm ha
    obtain ⟨n, rfl⟩ : ∃ m, n = m + 1 := ⟨n - 1, by omega⟩
    rw [spec_l2Ex.l0, if_neg (by omega)]
    exact ⟨_, _, _, rfl, by simpa using hr, by simp⟩
  | succ c ih =>
    intro n b p m acc hn hc hr hm ha
    obtain ⟨n, rfl⟩ : ∃ m, n = m + 1 := ⟨n - 1, by omega⟩
    have hcB : ((c + 1 : Nat) : Int) * B = c * B + B := by rw [Int.natCast_succ, Int.add_mul]; omega
    have hcN : (c + 1) * N = c * N + N := Nat.succ_mul c N
    have hcB0 : (0 : Int) ≤ c * B := Int.mul_nonneg (by omega) (by omega)
    obtain ⟨x, r', e1, e2, e3⟩ := H ⟨b, p⟩ m hr (by omega)
    have hla := exNs_len acc
    rw [spec_l2Ex.l0, if_pos (by omega), e1]
    simp only [Option.bind_some]
    rw [req_pos (by omega), wrP c (by omega)]
    obtain ⟨acc', b', p', q1, q2, q3⟩ := ih n r'.b r'.p (m + B) (acc ++ [x]) (by omega) (by omega) e2 (by omega) (by rw [exNs_append, exNs_one]; omega)
    refine ⟨acc', b', p', q1, q2.mono (by omega), ?_⟩
    rw [exNs_append, exNs_one] at q3
    omega
theorem l2Ex_loop1 (k : Nat) (rec' : Gl14Rd → Int → Option (GEx × Gl14Rd)) (p1 : Int) (B N : Nat) (M : Int)
    (H : ∀ (r : Gl14Rd) (m : Int), RdOk r m → m ≤ M → ∃ x r', rec' r (IntKind.wrap .i64 (p1 - 1)) = some (x, r') ∧ RdOk r' (m + B) ∧ exN x ≤ N) :
    ∀ (c n : Nat) (b : List Int) (p m : Int) (acc : List GEx), c < n → c ≤ 3 → RdOk ⟨b, p⟩ m → m + c * B ≤ M + B → exNs acc + c * N ≤ 1000000 →
      ∃ acc' b' p', spec_l2Ex.l1 k rec' p1 n b p acc (c : Int) = some (acc', b', p') ∧ RdOk ⟨b', p'⟩ (m + c * B) ∧ exNs acc' ≤ exNs acc + c * N := by
  intro c
  induction c with
  | zero =>
    intro n b p m acc hn hc hr hm ha
    obtain ⟨n, rfl⟩ : ∃ m, n = m + 1 := ⟨n - 1, by omega⟩
    rw [spec_l2Ex.l1, if_neg (by omega)]
    exact ⟨_, _, _, rfl, by simpa using hr, by simp⟩
  | succ c ih =>
    intro n b p m acc hn hc hr hm ha
    obtain ⟨n, rfl⟩ : ∃ m, n = m + 1 := ⟨n - 1, by omega⟩
    have hcB : ((c + 1 : Nat) : Int) * B = c * B + B := by rw [Int.natCast_succ, Int.add_mul]; omega
    have hcN : (c + 1) * N = c * N + N := Nat.succ_mul c N
    have hcB0 : (0 : Int) ≤ c * B := Int.mul_nonneg (by omega) (by omega)
    obtain ⟨x, r', e1, e2, e3⟩ := H ⟨b, p⟩ m hr (by omega)
    have hla := exNs_len acc
    rw [spec_l2Ex.l1, if_pos (by omega), e1]
    simp only [Option.bind_some]
    rw [req_pos (by omega), wrP c (by omega)]
    obtain ⟨acc', b', p', q1, q2, q3⟩ := ih n r'.b r'.p (m + B) (acc ++ [x]) (by omega) (by omega) e2 (by omega) (by rw [exNs_append, exNs_one]; omega)
    refine ⟨acc', b', p', q1, q2.mono (by omega), ?_⟩
    rw [exNs_append, exNs_one] at q3
    omega
theorem kidsN_of {v : Int} (h : v ∈ ([2, 3, 3, 4, 4, 4, 5, 6, 7] : List Int)) : ∃ c : Nat, kidsN v = (c : Int) ∧ c ≤ 3 := by
  simp only [List.mem_cons, List.not_mem_nil, or_false] at h
  rcases h with rfl | rfl | rfl | rfl | rfl | rfl | rfl | rfl | rfl
  all_goals first | exact ⟨2, rfl, by omega⟩ | exact ⟨3, rfl, by omega⟩ | exact ⟨1, rfl, by omega⟩
theorem l2Ex_k : ∀ (d : Nat), d ≤ 4 → ∀ (k : Nat), 1000000000000 + d ≤ k → ∀ (r : Gl14Rd) (m : Int), RdOk r m → m ≤ 1000000 - 10 ^ (d + 1) → ∃ x r', spec_l2Ex.f k r (d : Int) = some (x, r') ∧ RdOk r' (m + (10 ^ (d + 1) : Nat)) ∧ exN x ≤ 4 ^ d := by
  intro d
  induction d with
  | zero =>
    intro hd k hk r m hr hm
    obtain ⟨k, rfl⟩ : ∃ m, k = m + 1 := ⟨k - 1, by omega⟩
    obtain ⟨v, r', h1, h2, h3⟩ := num_ok r [0, 0, 1, 1, 2, 2, 3, 4] m hr (by omega) (by simp)
    rw [spec_l2Ex.f, if_neg (by omega), h1]
    exact ⟨_, _, rfl, h3.mono (by omega), by rw [exN_leaf]; simp⟩
  | succ d ih =>
    intro hd k hk r m hr hm
    obtain ⟨k, rfl⟩ : ∃ m, k = m + 1 := ⟨k - 1, by omega⟩
    have p10 : (10 : Nat) ^ (d + 1 + 1) = 10 ^ (d + 1) * 10 := Nat.pow_succ ..
    have p10i : (10 : Int) ^ (d + 1 + 1) = 10 ^ (d + 1) * 10 := Int.pow_succ ..
    have c10 : ((10 ^ (d + 1) : Nat) : Int) = (10 : Int) ^ (d + 1) := by push_cast; rfl
    have b10 : 10 ≤ (10 : Nat) ^ (d + 1) := by rw [Nat.pow_succ]; have := Nat.one_le_pow d 10 (by omega); omega
    have p4 : (4 : Nat) ^ (d + 1) = 4 ^ d * 4 := Nat.pow_succ ..
    have b4 : 1 ≤ (4 : Nat) ^ d := Nat.one_le_pow d 4 (by omega)
    have t4 : (4 : Nat) ^ d ≤ 4 ^ 3 := Nat.pow_le_pow_right (by omega) (by omega)
    have t10 : (10 : Nat) ^ (d + 1) ≤ 10 ^ 4 := Nat.pow_le_pow_right (by omega) (by omega)
    rw [spec_l2Ex.f]
    by_cases h1 : 1 < ((d + 1 : Nat) : Int)
    rotate_left
    · rw [if_neg h1]
      obtain ⟨v, r', e1, e2, e3⟩ := num_ok r [0, 0, 1, 1, 2, 2, 3, 4] m hr (by omega) (by simp)
      rw [e1]
      exact ⟨_, _, rfl, e3.mono (by omega), by rw [exN_leaf]; omega⟩
    rw [if_pos h1]
    obtain ⟨v, r1, e1, e2, e3, e4, e5⟩ := pick_ok r 4 m hr (by omega) (by omega)
    rw [e1]
    simp only [Option.bind_some]
    by_cases h2 : v = 0
    · rw [if_pos h2]
      obtain ⟨v, r', g1, g2, g3⟩ := num_ok r1 [0, 0, 1, 1, 2, 2, 3, 4] (m + 1) e5 (by omega) (by simp)
      rw [g1]
      exact ⟨_, _, rfl, g3.mono (by omega), by rw [exN_leaf]; omega⟩
    rw [if_neg h2]
    obtain ⟨kd, r2, g1, g2, g3⟩ := num_ok r1 [2, 3, 3, 4, 4, 4, 5, 6, 7] (m + 1) e5 (by omega) (by simp)
    rw [g1]
    simp only [Option.bind_some]
    obtain ⟨c, hc, hc3⟩ := kidsN_of g2
    have H : ∀ (r : Gl14Rd) (m : Int), RdOk r m → m ≤ 1000000 - 10 ^ (d + 1) → ∃ x r', spec_l2Ex.f k r (IntKind.wrap .i64 (((d + 1 : Nat) : Int) - 1)) = some (x, r') ∧ RdOk r' (m + (10 ^ (d + 1) : Nat)) ∧ exN x ≤ 4 ^ d := fun r m hr hm => by
      rw [wrP d (by omega)]
      exact ih (by omega) k (by omega) r m hr hm
    have fin : ∀ (acc : List GEx), exNs acc ≤ exNs [] + c * 4 ^ d → 1 + exNs acc ≤ 4 ^ (d + 1) := fun acc h => by
      have : c * 4 ^ d ≤ 3 * 4 ^ d := Nat.mul_le_mul_right _ hc3
      rw [exNs_nil] at h
      omega
    have cB : (c : Int) * (10 ^ (d + 1) : Nat) ≤ 3 * (10 ^ (d + 1) : Nat) := Int.mul_le_mul_of_nonneg_right (by omega) (by omega)
    have cN : c * 4 ^ d ≤ 3 * 4 ^ d := Nat.mul_le_mul_right _ hc3
    by_cases h3 : kd = 7
    · rw [if_pos h3]
      obtain ⟨n, r3, f1, f2, f3⟩ := num_ok r2 [1, 2, 3, 5, 20] (m + 1 + 1) g3 (by omega) (by simp)
      rw [f1, l2Kids_eq, hc]
      simp only [Option.bind_some]
      obtain ⟨acc, b', p', q1, q2, q3⟩ := l2Ex_loop0 k (spec_l2Ex.f k) ((d + 1 : Nat) : Int) (10 ^ (d + 1)) (4 ^ d) (1000000 - 10 ^ (d + 1)) H c k r3.b r3.p (m + 1 + 1 + 1) [] (by omega) hc3 f3 (by omega) (by rw [exNs_nil]; omega)
      rw [q1]
      exact ⟨_, _, rfl, q2.mono (by omega), by rw [exN_eq]; exact fin acc q3⟩
    · rw [if_neg h3]
      rw [l2Kids_eq, hc]
      simp only [Option.bind_some]
      obtain ⟨acc, b', p', q1, q2, q3⟩ := l2Ex_loop1 k (spec_l2Ex.f k) ((d + 1 : Nat) : Int) (10 ^ (d + 1)) (4 ^ d) (1000000 - 10 ^ (d + 1)) H c k r2.b r2.p (m + 1 + 1) [] (by omega) hc3 g3 (by omega) (by rw [exNs_nil]; omega)
      rw [q1]
      exact ⟨_, _, rfl, q2.mono (by omega), by rw [exN_eq]; exact fin acc q3⟩
theorem l2Some_k (k : Nat) (hk : 2000000000000 ≤ k) (r : Gl14Rd) (m : Int) (hr : RdOk r m) (hm : m ≤ 500000) : ∃ x r', spec_l2Some.f k r = some (x, r') ∧ RdOk r' (m + 200000) ∧ exN x ≤ 256 := by
  unfold spec_l2Some.f
  obtain ⟨v, r1, e1, e2, e3, e4, e5⟩ := pick_ok r 4 m hr (by omega) (by omega)
  have hv := e3 (by omega)
  rw [e1]
  simp only [Option.bind_some]
  rw [wr (1 + v) (by omega)]
  obtain ⟨d, hd⟩ : ∃ d : Nat, 1 + v = (d : Int) := ⟨(1 + v).toNat, by omega⟩
  have t4 : (4 : Nat) ^ d ≤ 4 ^ 4 := Nat.pow_le_pow_right (by omega) (by omega)
  have t10 : (10 : Nat) ^ (d + 1) ≤ 10 ^ 5 := Nat.pow_le_pow_right (by omega) (by omega)
  have t10i : ((10 ^ (d + 1) : Nat) : Int) = (10 : Int) ^ (d + 1) := by push_cast; rfl
  obtain ⟨x, r2, g1, g2, g3⟩ := l2Ex_k d (by omega) k (by omega) r1 (m + 1) e5 (by omega)
  rw [hd, g1]
  simp only [Option.bind_some]
  rw [spec_ExOk_k x (by omega) k (by omega)]
  simp only [Option.bind_some]
  split
  · exact ⟨_, _, rfl, g2.mono (by omega), by omega⟩
  · obtain ⟨y, r3, f1, f2, f3⟩ := l2Ex_k 2 (by omega) k (by omega) r2 (m + 1 + (10 ^ (d + 1) : Nat)) g2 (by omega)
    rw [show (2 : Int) = ((2 : Nat) : Int) from rfl, f1]
    exact ⟨_, _, rfl, f2.mono (by omega), by show exN y ≤ 256; omega⟩
theorem l2Copy_loop (k : Nat) (rec' : GEx → Option GEx) (e : GEx) (hl : e.Kids.length ≤ 1000000) (H : ∀ y ∈ e.Kids, rec' y = some y) : ∀ (d i n : Nat) (acc : List GEx), i + d = e.Kids.length → d < n → acc = e.Kids.take i → spec_l2Copy.l0 k rec' e n acc (i : Int) = some e.Kids := by
  intro d
  induction d with
  | zero =>
    intro i n acc hi hn ha
    obtain ⟨n, rfl⟩ : ∃ m, n = m + 1 := ⟨n - 1, by omega⟩
    rw [spec_l2Copy.l0, if_neg (by omega), ha, List.take_of_length_le (by omega)]
  | succ d ih =>
    intro i n acc hi hn ha
    obtain ⟨n, rfl⟩ : ∃ m, n = m + 1 := ⟨n - 1, by omega⟩
    have h : i < e.Kids.length := by omega
    rw [spec_l2Copy.l0, if_pos (by omega), req_pos (by omega), Int.toNat_natCast, List.getElem?_eq_getElem h]
    simp only [Option.bind_some, H _ (List.getElem_mem h)]
    have hal : acc.length ≤ e.Kids.length := by rw [ha, List.length_take]; omega
    rw [req_pos (by omega), wrS i (by omega)]
    refine ih (i + 1) n _ (by omega) (by omega) ?_
    rw [ha, List.take_add_one, List.getElem?_eq_getElem h]; rfl
theorem l2Copy_k : ∀ e : GEx, exN e ≤ 1000000 → ∀ k : Nat, 1000000000000 + exN e ≤ k → spec_l2Copy.f k e = some e := by
  refine exInd fun e ih hn k hk => ?_
  rw [exN_eq] at hn hk
  obtain ⟨k, rfl⟩ : ∃ m, k = m + 1 := ⟨k - 1, by omega⟩
  have hq := exNs_len e.Kids
  have := l2Copy_loop k (spec_l2Copy.f k) e (by omega) (fun y hy => by have := exNs_mem hy; exact ih y hy (by omega) k (by omega)) e.Kids.length 0 k [] (by omega) (by omega) (by simp)
  rw [show ((0 : Nat) : Int) = 0 from rfl] at this
  rw [spec_l2Copy.f, this]; cases e; rfl
theorem bent_loop0 (k : Nat) : ∀ (c n : Nat) (a b d : Int) (ks : List GEx), c ≤ 5 → c < n → exNs ks + c ≤ 100000 → ∃ a' b' d' ks', spec_l2Bent.l0 k n a b d ks (5 - (c : Int)) = some (a', b', d', ks') ∧ exNs ks' ≤ exNs ks + c := by
  intro c
  induction c with
  | zero =>
    intro n a b d ks hc hn hk
    obtain ⟨n, rfl⟩ : ∃ m, n = m + 1 := ⟨n - 1, by omega⟩
    rw [spec_l2Bent.l0, if_neg (by omega)]
    exact ⟨_, _, _, _, rfl, by omega⟩
  | succ c ih =>
    intro n a b d ks hc hn hk
    obtain ⟨n, rfl⟩ : ∃ m, n = m + 1 := ⟨n - 1, by omega⟩
    rw [spec_l2Bent.l0, if_pos (by omega), wr _ (by omega), show 5 - ((c + 1 : Nat) : Int) + 1 = 5 - (c : Int) by omega]
    have e : exNs [(⟨a, b, d, ks⟩ : GEx)] = 1 + exNs ks := by rw [exNs_one, exN_eq]
    obtain ⟨a', b', d', ks', h1, h2⟩ := ih n 7 0 1 [⟨a, b, d, ks⟩] (by omega) (by omega) (by omega)
    exact ⟨_, _, _, _, h1, by omega⟩
theorem bent_loop1 (k : Nat) (hk : 2000000000000 ≤ k) : ∀ (c n : Nat) (a b d : Int) (ks : List GEx), c ≤ 4 → c < n → (exNs ks + 3) * 2 ^ c ≤ 100000 → ∃ a' b' d' ks', spec_l2Bent.l1 k n a b d ks (4 - (c : Int)) = some (a', b', d', ks') ∧ exNs ks' ≤ 100000 := by
  intro c
  induction c with
  | zero =>
    intro n a b d ks hc hn hk
    obtain ⟨n, rfl⟩ : ∃ m, n = m + 1 := ⟨n - 1, by omega⟩
    rw [spec_l2Bent.l1, if_neg (by omega)]
    exact ⟨_, _, _, _, rfl, by omega⟩
  | succ c ih =>
    intro n a b d ks hc hn hks
    obtain ⟨n, rfl⟩ : ∃ m, n = m + 1 := ⟨n - 1, by omega⟩
    have p2 : (2 : Nat) ^ (c + 1) = 2 ^ c * 2 := Nat.pow_succ ..
    have b2 : 1 ≤ (2 : Nat) ^ c := Nat.one_le_pow c 2 (by omega)
    have e : exN (⟨a, b, d, ks⟩ : GEx) = 1 + exNs ks := by rw [exN_eq]
    have m2 : (exNs ks + 3) * 2 ^ (c + 1) = (2 * (exNs ks + 3)) * 2 ^ c := by rw [p2, Nat.mul_comm (2 ^ c) 2, ← Nat.mul_assoc, Nat.mul_comm (exNs ks + 3) 2]
    have m3 : 2 * (exNs ks + 3) ≤ 2 * (exNs ks + 3) * 2 ^ c := Nat.le_mul_of_pos_right _ (by omega)
    rw [spec_l2Bent.l1, if_pos (by omega), l2Copy_k _ (by omega) k (by omega), wr _ (by omega), show 4 - ((c + 1 : Nat) : Int) + 1 = 4 - (c : Int) by omega]
    simp only [Option.bind_some]
    have e2 : exNs [(⟨a, b, d, ks⟩ : GEx), ⟨a, b, d, ks⟩] = 2 * (exNs ks + 1) := by rw [exNs_cons, exNs_one]; omega
    refine ih n 2 0 0 _ (by omega) (by omega) ?_
    rw [e2]
    exact Nat.le_trans (Nat.mul_le_mul_right (m := 2 * (exNs ks + 3)) _ (by omega)) (by rw [← m2]; exact hks)
theorem l2Bent_k (k : Nat) (hk : 2000000000000 ≤ k) (r : Gl14Rd) (m : Int) (hr : RdOk r m) (hm : m ≤ 400000) : ∃ x r', spec_l2Bent.f k r = some (x, r') ∧ RdOk r' (m + 300000) ∧ exN x ≤ 100001 := by
  unfold spec_l2Bent.f
  obtain ⟨x, r1, e1, e2, e3⟩ := l2Some_k k hk r m hr (by omega)
  rw [e1]
  simp only [Option.bind_some]
  obtain ⟨v, r2, g1, g2, g3, g4, g5⟩ := pick_ok r1 60 (m + 200000) e2 (by omega) (by omega)
  rw [g1]
  simp only [Option.bind_some]
  have hx : exNs x.Kids ≤ 256 := by rw [exN_eq] at e3; omega
  have fin : ∀ a b c, exN (⟨a, b, c, x.Kids⟩ : GEx) ≤ 100001 := fun a b c => by rw [exN_eq]; show 1 + exNs x.Kids ≤ _; omega
  split
  · obtain ⟨w, r3, f1, f2, f3⟩ := num_ok r2 [0, 8, 2, 5] (m + 200000 + 1) g5 (by omega) (by simp)
    rw [f1]
    exact ⟨_, _, rfl, f3.mono (by omega), fin _ _ _⟩
  split
  · obtain ⟨w, r3, f1, f2, f3⟩ := num_ok r2 [(-1), 5, 1] (m + 200000 + 1) g5 (by omega) (by simp)
    rw [f1]
    exact ⟨_, _, rfl, f3.mono (by omega), fin _ _ _⟩
  split
  · obtain ⟨w, r3, f1, f2, f3⟩ := num_ok r2 [(-1), 21, 1, 0] (m + 200000 + 1) g5 (by omega) (by simp)
    rw [f1]
    exact ⟨_, _, rfl, f3.mono (by omega), fin _ _ _⟩
  split
  · obtain ⟨a', b', d', ks', q1, q2⟩ := bent_loop0 k 5 k x.Kind x.Sym x.N x.Kids (by omega) (by omega) (by omega)
    rw [show (5 : Int) - ((5 : Nat) : Int) = 0 from rfl] at q1
    rw [q1]
    exact ⟨_, _, rfl, g5.mono (by omega), by rw [exN_eq]; show 1 + exNs ks' ≤ _; omega⟩
  split
  · obtain ⟨a', b', d', ks', q1, q2⟩ := bent_loop1 k hk 4 k x.Kind x.Sym x.N x.Kids (by omega) (by omega) (by omega)
    rw [show (4 : Int) - ((4 : Nat) : Int) = 0 from rfl] at q1
    rw [q1]
    exact ⟨_, _, rfl, g5.mono (by omega), by rw [exN_eq]; show 1 + exNs ks' ≤ _; omega⟩
  · exact ⟨_, _, rfl, g5.mono (by omega), by show exN x ≤ _; omega⟩
/- Events that are drawn; a tree, a mode and events. -/
theorem l1Evs_loop (k : Nat) : ∀ (c n : Nat) (b : List Int) (p m at' : Int) (acc : List GEv), c < n → c ≤ 100 → RdOk ⟨b, p⟩ m → m + 3 * c ≤ 1000000000 → 0 ≤ at' → at' + 7 * c ≤ 1000000 → acc.length + c ≤ 1000 →
    ∃ acc' b' p', spec_l1Evs.l0 k n b p acc at' (c : Int) = some (acc', b', p') ∧ RdOk ⟨b', p'⟩ (m + 3 * c) ∧ acc'.length = acc.length + c := by
  intro c
  induction c with
  | zero =>
    intro n b p m at' acc hn hc hr hm h0 h1 ha
    obtain ⟨n, rfl⟩ : ∃ m, n = m + 1 := ⟨n - 1, by omega⟩
    rw [spec_l1Evs.l0, if_neg (by omega)]
    exact ⟨_, _, _, rfl, hr.mono (by omega), by omega⟩
  | succ c ih =>
    intro n b p m at' acc hn hc hr hm h0 h1 ha
    obtain ⟨n, rfl⟩ : ∃ m, n = m + 1 := ⟨n - 1, by omega⟩
    obtain ⟨v, r1, e1, e2, e3⟩ := num_ok ⟨b, p⟩ [1, 1, 1, 2, 3, 7] m hr (by omega) (by simp)
    obtain ⟨w, r2, f1, f2, f3⟩ := num_ok r1 [0, 0, 1, 1, 2, 2, 3, 4] (m + 1) e3 (by omega) (by simp)
    obtain ⟨u, r3, g1, g2, g3⟩ := num_ok r2 [0, 0, 1, 5, 100] (m + 1 + 1) f3 (by omega) (by simp)
    have hv : 1 ≤ v ∧ v ≤ 7 := by
      simp only [List.mem_cons, List.not_mem_nil, or_false] at e2
      omega
    rw [spec_l1Evs.l0, if_pos (by omega), e1]
    simp only [Option.bind_some]
    rw [f1]
    simp only [Option.bind_some]
    rw [g1]
    simp only [Option.bind_some]
    rw [req_pos (by omega), wr (at' + v) (by omega), wrP c (by omega)]
    obtain ⟨acc', b', p', q1, q2, q3⟩ := ih n r3.b r3.p (m + 1 + 1 + 1) (at' + v) (acc ++ [⟨w, at' + v, u⟩]) (by omega) (by omega) g3 (by omega) (by omega) (by omega) (by simp; omega)
    exact ⟨acc', b', p', q1, q2.mono (by omega), by rw [q3]; simp; omega⟩
theorem l1Evs_k (k : Nat) (hk : 1000 ≤ k) (r : Gl14Rd) (m : Int) (hr : RdOk r m) (hm : m ≤ 1000000) (q : Nat) (hq : q ≤ 50) : ∃ l r', spec_l1Evs.f k r (q : Int) = some (l, r') ∧ RdOk r' (m + 200) ∧ l.length ≤ q := by
  unfold spec_l1Evs.f
  rw [wrS q (by omega)]
  obtain ⟨v, r1, e1, e2, e3, e4, e5⟩ := pick_ok r ((q + 1 : Nat) : Int) m hr (by omega) (by omega)
  have hv := e3 (by omega)
  rw [e1]
  simp only [Option.bind_some]
  obtain ⟨c, rfl⟩ : ∃ c : Nat, v = (c : Int) := ⟨v.toNat, by omega⟩
  obtain ⟨acc', b', p', q1, q2, q3⟩ := l1Evs_loop k c k r1.b r1.p (m + 1) 0 [] (by omega) (by omega) e5 (by omega) (by omega) (by omega) (by simp; omega)
  rw [q1]
  exact ⟨_, _, rfl, q2.mono (by omega), by rw [q3]; simp; omega⟩
theorem l1Bent_loop (k : Nat) : ∀ (d n : Nat) (l : List GEv), l.length + d = 25 → d < n → 1 ≤ l.length → ∃ l', spec_l1Bent.l0 k n l = some l' ∧ l'.length = 25 := by
  intro d
  induction d with
  | zero =>
    intro n l hl hn h1
    obtain ⟨n, rfl⟩ : ∃ m, n = m + 1 := ⟨n - 1, by omega⟩
    rw [spec_l1Bent.l0, if_pos (by omega)]
    exact ⟨l, rfl, by omega⟩
  | succ d ih =>
    intro n l hl hn h1
    obtain ⟨n, rfl⟩ : ∃ m, n = m + 1 := ⟨n - 1, by omega⟩
    obtain ⟨j, hj⟩ : ∃ j, l.length = j + 1 := ⟨l.length - 1, by omega⟩
    have ej : IntKind.wrap .i64 (((l.length : Nat) : Int) - 1) = (j : Int) := by rw [hj]; exact wrP j (by omega)
    rw [spec_l1Bent.l0, if_neg (by omega), ej, req_pos (by omega), req_pos (by omega), Int.toNat_natCast, List.getElem?_eq_getElem (show j < l.length by omega)]
    simp only [Option.bind_some]
    rw [req_pos (by omega)]
    exact ih n _ (by simp; omega) (by omega) (by simp)
theorem l1Bent_k (k : Nat) (hk : 1000 ≤ k) (r : Gl14Rd) (m : Int) (hr : RdOk r m) (hm : m ≤ 1000000) : ∃ l r', spec_l1Bent.f k r = some (l, r') ∧ RdOk r' (m + 300) ∧ l.length ≤ 25 := by
  unfold spec_l1Bent.f
  obtain ⟨l, r1, e1, e2, e3⟩ := l1Evs_k k hk r m hr hm 12 (by omega)
  rw [show (12 : Int) = ((12 : Nat) : Int) from rfl, e1]
  simp only [Option.bind_some]
  by_cases h0 : ((l.length : Nat) : Int) = 0
  · rw [if_pos h0]; exact ⟨_, _, rfl, e2.mono (by omega), by show l.length ≤ 25; omega⟩
  rw [if_neg h0]
  obtain ⟨v, r2, f1, f2, f3, f4, f5⟩ := pick_ok r1 ((l.length : Nat) : Int) (m + 200) e2 (by omega) (by omega)
  have hv := f3 (by omega)
  rw [f1]
  simp only [Option.bind_some]
  obtain ⟨i, rfl⟩ : ∃ i : Nat, v = (i : Int) := ⟨v.toNat, by omega⟩
  have hi : i < l.length := by omega
  obtain ⟨w, r3, g1, g2, g3, g4, g5⟩ := pick_ok r2 40 (m + 200 + 1) f5 (by omega) (by omega)
  rw [g1]
  simp only [Option.bind_some]
  split
  · obtain ⟨u, r4, q1, q2, q3⟩ := num_ok r3 [(-1), 5] (m + 200 + 1 + 1) g5 (by omega) (by simp)
    rw [q1]
    simp only [Option.bind_some]
    rw [req_pos (by omega), req_pos (by omega), Int.toNat_natCast, List.getElem?_eq_getElem hi]
    exact ⟨_, _, rfl, q3.mono (by omega), by simp; omega⟩
  split
  · rw [req_pos (by omega), req_pos (by omega), List.getElem?_eq_getElem (show 0 < l.length by omega)]
    simp only [Option.bind_some]
    obtain ⟨u, r4, q1, q2, q3⟩ := num_ok r3 [0, 1001, l[0].At] (m + 200 + 1 + 1) g5 (by omega) (by simp)
    rw [q1]
    simp only [Option.bind_some]
    rw [req_pos (by omega), req_pos (by omega), Int.toNat_natCast, List.getElem?_eq_getElem hi]
    exact ⟨_, _, rfl, q3.mono (by omega), by simp; omega⟩
  split
  · obtain ⟨u, r4, q1, q2, q3⟩ := num_ok r3 [(-1), 101] (m + 200 + 1 + 1) g5 (by omega) (by simp)
    rw [q1]
    simp only [Option.bind_some]
    rw [req_pos (by omega), req_pos (by omega), Int.toNat_natCast, List.getElem?_eq_getElem hi]
    exact ⟨_, _, rfl, q3.mono (by omega), by simp; omega⟩
  split
  · obtain ⟨l', q1, q2⟩ := l1Bent_loop k (25 - l.length) k l (by omega) (by omega) (by omega)
    rw [q1]
    exact ⟨_, _, rfl, g5.mono (by omega), by show l'.length ≤ 25; omega⟩
  · exact ⟨_, _, rfl, g5.mono (by omega), by show l.length ≤ 25; omega⟩
theorem l4Draw_k (r : Gl14Rd) (m : Int) (hr : RdOk r m) (hm : m ≤ 1000000) : ∃ v r', spec_l4Draw.f r = some (v, r') ∧ RdOk r' (m + 1) ∧ -1 ≤ v ∧ v ≤ 5 := by
  unfold spec_l4Draw.f
  obtain ⟨v, r1, e1, e2, e3⟩ := num_ok r [0, 1, 2, 3, 4, 0, 1, 2, 3, 4, 0, 1, 2, 3, 4, (-1), 5] m hr (by omega) (by simp)
  rw [e1]
  refine ⟨v, r1, rfl, e3, ?_⟩
  simp only [List.mem_cons, List.not_mem_nil, or_false] at e2
  omega
theorem l6Look_k (k : Nat) (hk : 2000000000000 ≤ k) (r : Gl14Rd) (m : Int) (hr : RdOk r m) (hm : m ≤ 100000) : ∃ x mode l r', spec_l6Look.f k r = some (x, mode, l, r') ∧ RdOk r' (m + 900000) ∧ exN x ≤ 100001 ∧ l.length ≤ 25 ∧ -1 ≤ mode ∧ mode ≤ 5 := by
  unfold spec_l6Look.f
  obtain ⟨x, r1, e1, e2, e3⟩ := l2Some_k k hk r m hr (by omega)
  rw [e1]
  simp only [Option.bind_some]
  obtain ⟨mode, r2, f1, f2, f3⟩ := l4Draw_k r1 (m + 200000) e2 (by omega)
  rw [f1]
  simp only [Option.bind_some]
  obtain ⟨v, r3, g1, g2, g3, g4, g5⟩ := pick_ok r2 30 (m + 200000 + 1) f2 (by omega) (by omega)
  rw [g1]
  simp only [Option.bind_some]
  split
  · obtain ⟨y, r4, q1, q2, q3⟩ := l2Bent_k k hk r3 (m + 200000 + 1 + 1) g5 (by omega)
    rw [q1]
    simp only [Option.bind_some]
    obtain ⟨l, r5, s1, s2, s3⟩ := l1Evs_k k (by omega) r4 (m + 200000 + 1 + 1 + 300000) q2 (by omega) 10 (by omega)
    rw [show (10 : Int) = ((10 : Nat) : Int) from rfl, s1]
    exact ⟨_, _, _, _, rfl, s2.mono (by omega), q3, by show l.length ≤ 25; omega, f3⟩
  split
  · obtain ⟨l, r5, s1, s2, s3⟩ := l1Bent_k k (by omega) r3 (m + 200000 + 1 + 1) g5 (by omega)
    rw [s1]
    exact ⟨_, _, _, _, rfl, s2.mono (by omega), by show exN x ≤ _; omega, s3, f3⟩
  split
  · obtain ⟨l, r5, s1, s2, s3⟩ := l1Evs_k k (by omega) r3 (m + 200000 + 1 + 1) g5 (by omega) 24 (by omega)
    rw [show (24 : Int) = ((24 : Nat) : Int) from rfl, s1]
    exact ⟨_, _, _, _, rfl, s2.mono (by omega), by show exN x ≤ _; omega, by show l.length ≤ 25; omega, f3⟩
  · obtain ⟨l, r5, s1, s2, s3⟩ := l1Evs_k k (by omega) r3 (m + 200000 + 1 + 1) g5 (by omega) 11 (by omega)
    rw [show (11 : Int) = ((11 : Nat) : Int) from rfl, s1]
    exact ⟨_, _, _, _, rfl, s2.mono (by omega), by show exN x ≤ _; omega, by show l.length ≤ 25; omega, f3⟩
/- Occurrences alike. -/
theorem OccsSame_loop (k : Nat) (l : List GOcc) (hl : l.length ≤ 1000) (hm : IdsLe l 1000) (hk : 1001 ≤ k) : ∀ (d n i : Nat), i + d = l.length → d < n →
    slices_EqualFunc.l0 k (fun y0 y1 => impl_OccsSame_1.f k y0 y1) l l n (i : Int) = some (.ok ()) := by
  intro d
  induction d with
  | zero =>
    intro n i hi hn
    obtain ⟨n, rfl⟩ : ∃ m, n = m + 1 := ⟨n - 1, by omega⟩
    rw [slices_EqualFunc.l0, if_neg (by omega)]
  | succ d ih =>
    intro n i hi hn
    obtain ⟨n, rfl⟩ : ∃ m, n = m + 1 := ⟨n - 1, by omega⟩
    have hlt : i < l.length := by omega
    have hb := hm l[i] (List.getElem_mem hlt)
    rw [slices_EqualFunc.l0, if_pos (by omega), req_pos (by omega), Int.toNat_natCast, List.getElem?_eq_getElem hlt]
    simp only [Option.bind_some]
    rw [req_pos (by omega)]
    simp only [impl_OccsSame_1.f, impl_compare_eq l[i] l[i] (by omega) k (by omega), occCmp_refl, Option.bind_some, BEq.rfl, if_true]
    rw [wrS i (by omega)]
    exact ih n (i + 1) (by omega) (by omega)
theorem OccsSame_refl (k : Nat) (l : List GOcc) (hl : l.length ≤ 1000) (hm : IdsLe l 1000) (hk : 1001 ≤ k) : impl_OccsSame.f k l l = some true := by
  unfold impl_OccsSame.f slices_EqualFunc.f
  have := OccsSame_loop k l hl hm hk l.length k 0 (by omega) (by omega)
  rw [show ((0 : Nat) : Int) = 0 from rfl] at this
  rw [if_pos rfl, this]; rfl
/- Detections are complete and timely: the law over data. -/
theorem DrawMeanAt_k (k : Nat) (hk : 2000000000000 ≤ k) (l : List Int) (hl : l.length ≤ 1048576) (hb : ∀ y ∈ l, 0 ≤ y ∧ y ≤ 255) : ∃ x mode ev at', spec_DrawMeanAt.f k l = some (x, mode, ev, at') ∧ exN x ≤ 100001 ∧ ev.length ≤ 25 := by
  unfold spec_DrawMeanAt.f
  obtain ⟨r, e1, e2⟩ := l14Open_ok l hl hb
  rw [e1]
  simp only [Option.bind_some]
  obtain ⟨x, mode, ev, r', f1, f2, f3, f4, _⟩ := l6Look_k k hk r 0 e2 (by omega)
  rw [f1]
  simp only [Option.bind_some]
  split
  · obtain ⟨v, r1, g1, g2, g3, g4, g5⟩ := pick_ok r' 4 (0 + 900000) f2 (by omega) (by omega)
    rw [g1]
    simp only [Option.bind_some]
    split
    · obtain ⟨w, r2, h1, h2, h3, h4, h5⟩ := pick_ok r1 ((ev.length : Nat) : Int) (0 + 900000 + 1) g5 (by omega) (by omega)
      have hw := h3 (by omega)
      rw [h1]
      simp only [Option.bind_some]
      rw [req_pos h2, req_pos hw, List.getElem?_eq_getElem (show w.toNat < ev.length by omega)]
      simp only [Option.bind_some]
      obtain ⟨u, r3, q1, q2, q3, q4, q5⟩ := pick_ok r2 6 (0 + 900000 + 1 + 1) h5 (by omega) (by omega)
      rw [q1]
      exact ⟨_, _, _, _, rfl, f3, f4⟩
    · obtain ⟨w, r2, h1, h2, h3, h4, h5⟩ := pick_ok r1 30 (0 + 900000 + 1) g5 (by omega) (by omega)
      rw [h1]
      exact ⟨_, _, _, _, rfl, f3, f4⟩
  · obtain ⟨w, r2, h1, h2, h3, h4, h5⟩ := pick_ok r' 30 (0 + 900000) f2 (by omega) (by omega)
    rw [h1]
    exact ⟨_, _, _, _, rfl, f3, f4⟩
theorem at_l20 (k : Nat) (r : List GOcc) (i j : Nat) (hi : i < r.length) (hj : j < r[i].Ids.length) (u : List Int) (hu : u.length ≤ 1000) : ∀ (d t n : Nat) (s : Bool), t + d = u.length → d < n →
    laws_FnMeanAt.l20 k (i : Int) (j : Int) u n r s (t : Int) = some (r, s || (u.drop t).any (fun x => x == r[i].Ids[j])) := by
  intro d
  induction d with
  | zero =>
    intro t n s ht hn
    obtain ⟨n, rfl⟩ : ∃ m, n = m + 1 := ⟨n - 1, by omega⟩
    rw [laws_FnMeanAt.l20, if_neg (by omega), List.drop_eq_nil_of_le (by omega)]
    simp
  | succ d ih =>
    intro t n s ht hn
    obtain ⟨n, rfl⟩ : ∃ m, n = m + 1 := ⟨n - 1, by omega⟩
    have h : t < u.length := by omega
    rw [laws_FnMeanAt.l20, if_pos (by omega), List.drop_eq_getElem_cons h, List.any_cons, wrS t (by omega)]
    cases s
    · rw [if_neg (by simp), req_pos (by omega), req_pos (by omega), Int.toNat_natCast, List.getElem?_eq_getElem h]
      simp only [Option.bind_some]
      rw [req_pos (by omega), req_pos (by omega), Int.toNat_natCast, List.getElem?_eq_getElem hi]
      simp only [Option.bind_some]
      rw [req_pos (by omega), req_pos (by omega), Int.toNat_natCast, List.getElem?_eq_getElem hj]
      simp only [Option.bind_some]
      rw [set_self, ih (t + 1) n (u[t] == r[i].Ids[j]) (by omega) (by omega)]
      simp
    · rw [if_pos rfl, ih (t + 1) n true (by omega) (by omega)]
      simp
theorem at_l24 (k : Nat) (r : List GOcc) (i j : Nat) (hi : i < r.length) (hj : j < r[i].Ids.length) (u : List Int) (hu : u.length ≤ 1000) : ∀ (d t n : Nat) (s : Bool), t + d = u.length → d < n →
    laws_FnMeanAt.l24 k (i : Int) (j : Int) u n r s (t : Int) = some (r, s || (u.drop t).any (fun x => x == r[i].Ids[j])) := by
  intro d
  induction d with
  | zero =>
    intro t n s ht hn
    obtain ⟨n, rfl⟩ : ∃ m, n = m + 1 := ⟨n - 1, by omega⟩
    rw [laws_FnMeanAt.l24, if_neg (by omega), List.drop_eq_nil_of_le (by omega)]
    simp
  | succ d ih =>
    intro t n s ht hn
    obtain ⟨n, rfl⟩ : ∃ m, n = m + 1 := ⟨n - 1, by omega⟩
    have h : t < u.length := by omega
    rw [laws_FnMeanAt.l24, if_pos (by omega), List.drop_eq_getElem_cons h, List.any_cons, wrS t (by omega)]
    cases s
    · rw [if_neg (by simp), req_pos (by omega), req_pos (by omega), Int.toNat_natCast, List.getElem?_eq_getElem h]
      simp only [Option.bind_some]
      rw [req_pos (by omega), req_pos (by omega), Int.toNat_natCast, List.getElem?_eq_getElem hi]
      simp only [Option.bind_some]
      rw [req_pos (by omega), req_pos (by omega), Int.toNat_natCast, List.getElem?_eq_getElem hj]
      simp only [Option.bind_some]
      rw [set_self, ih (t + 1) n (u[t] == r[i].Ids[j]) (by omega) (by omega)]
      simp
    · rw [if_pos rfl, ih (t + 1) n true (by omega) (by omega)]
      simp
theorem at_l19 (k : Nat) (hk : 2000000000000 ≤ k) (r : List GOcc) (i : Nat) (hi : i < r.length) (u : List Int) (hu : u.length ≤ 1000) (hl : r[i].Ids.length ≤ 1000) (hm : ∀ z ∈ r[i].Ids, z ∈ u) : ∀ (d j n : Nat), j + d = r[i].Ids.length → d < n →
    laws_FnMeanAt.l19 k (i : Int) u n r (j : Int) = some (.ok r) := by
  intro d
  induction d with
  | zero =>
    intro j n hj hn
    obtain ⟨n, rfl⟩ : ∃ m, n = m + 1 := ⟨n - 1, by omega⟩
    rw [laws_FnMeanAt.l19, req_pos (by omega), req_pos (by omega), Int.toNat_natCast, List.getElem?_eq_getElem hi]
    simp only [Option.bind_some]
    rw [if_neg (by omega), set_self]
  | succ d ih =>
    intro j n hj hn
    obtain ⟨n, rfl⟩ : ∃ m, n = m + 1 := ⟨n - 1, by omega⟩
    have hlt : j < r[i].Ids.length := by omega
    have q := at_l20 k r i j hi hlt u hu u.length 0 k false (by omega) (by omega)
    have ay : u.any (fun x => x == r[i].Ids[j]) = true := List.any_eq_true.2 ⟨_, hm _ (List.getElem_mem hlt), by simp⟩
    rw [show ((0 : Nat) : Int) = 0 from rfl, List.drop_zero, ay, Bool.false_or] at q
    rw [laws_FnMeanAt.l19, req_pos (by omega), req_pos (by omega), Int.toNat_natCast, List.getElem?_eq_getElem hi]
    simp only [Option.bind_some]
    rw [if_pos (by omega), set_self, q]
    simp only [Option.bind_some]
    rw [if_pos trivial, wrS j (by omega)]
    exact ih (j + 1) n (by omega) (by omega)
theorem at_l23 (k : Nat) (hk : 2000000000000 ≤ k) (r : List GOcc) (i : Nat) (hi : i < r.length) (u : List Int) (hu : u.length ≤ 1000) (hl : r[i].Ids.length ≤ 1000) (hm : ∀ z ∈ r[i].Ids, z ∈ u) : ∀ (d j n : Nat), j + d = r[i].Ids.length → d < n →
    laws_FnMeanAt.l23 k (i : Int) u n r (j : Int) = some (.ok r) := by
  intro d
  induction d with
  | zero =>
    intro j n hj hn
    obtain ⟨n, rfl⟩ : ∃ m, n = m + 1 := ⟨n - 1, by omega⟩
    rw [laws_FnMeanAt.l23, req_pos (by omega), req_pos (by omega), Int.toNat_natCast, List.getElem?_eq_getElem hi]
    simp only [Option.bind_some]
    rw [if_neg (by omega), set_self]
  | succ d ih =>
    intro j n hj hn
    obtain ⟨n, rfl⟩ : ∃ m, n = m + 1 := ⟨n - 1, by omega⟩
    have hlt : j < r[i].Ids.length := by omega
    have q := at_l24 k r i j hi hlt u hu u.length 0 k false (by omega) (by omega)
    have ay : u.any (fun x => x == r[i].Ids[j]) = true := List.any_eq_true.2 ⟨_, hm _ (List.getElem_mem hlt), by simp⟩
    rw [show ((0 : Nat) : Int) = 0 from rfl, List.drop_zero, ay, Bool.false_or] at q
    rw [laws_FnMeanAt.l23, req_pos (by omega), req_pos (by omega), Int.toNat_natCast, List.getElem?_eq_getElem hi]
    simp only [Option.bind_some]
    rw [if_pos (by omega), set_self, q]
    simp only [Option.bind_some]
    rw [if_pos trivial, wrS j (by omega)]
    exact ih (j + 1) n (by omega) (by omega)
theorem at_l16 (k : Nat) (hk : 2000000000000 ≤ k) (p : GEx × Int × List GEv × Int) (r : List GOcc) (u : List Int) (hr : r.length ≤ 1000) (hu : u.length ≤ 1000) (hm : ∀ o ∈ r, o.Ids.length ≤ 1000 ∧ ∀ z ∈ o.Ids, z ∈ u) : ∀ (d i n : Nat) (c : Nat), i + d = r.length → d < n → c ≤ i →
    laws_FnMeanAt.l16 k p u n r (c : Int) (i : Int) = some (.ok (r, ((c + (atM (r.drop i) p.2.2.2).length : Nat) : Int))) := by
  intro d
  induction d with
  | zero =>
    intro i n c hi hn hc
    obtain ⟨n, rfl⟩ : ∃ m, n = m + 1 := ⟨n - 1, by omega⟩
    rw [laws_FnMeanAt.l16, if_neg (by omega), List.drop_eq_nil_of_le (by omega)]
    simp [atM]
  | succ d ih =>
    intro i n c hi hn hc
    obtain ⟨n, rfl⟩ : ∃ m, n = m + 1 := ⟨n - 1, by omega⟩
    have h : i < r.length := by omega
    have hmi := hm _ (List.getElem_mem h)
    have q := at_l19 k hk r i h u hu hmi.1 hmi.2 r[i].Ids.length 0 k (by omega) (by omega)
    have q2 := at_l23 k hk r i h u hu hmi.1 hmi.2 r[i].Ids.length 0 k (by omega) (by omega)
    rw [show ((0 : Nat) : Int) = 0 from rfl] at q q2
    rw [laws_FnMeanAt.l16, if_pos (by omega), req_pos (by omega), req_pos (by omega), Int.toNat_natCast, List.getElem?_eq_getElem h, List.drop_eq_getElem_cons h]
    simp only [Option.bind_some]
    rw [q, q2]
    simp only [Option.bind_some]
    rw [wrS i (by omega), wrS c (by omega)]
    by_cases e : r[i].To = p.2.2.2
    · rw [if_pos e, ih (i + 1) n (c + 1) (by omega) (by omega) (by omega)]
      have : atM (r[i] :: r.drop (i + 1)) p.2.2.2 = r[i] :: atM (r.drop (i + 1)) p.2.2.2 := by unfold atM; rw [List.filter_cons_of_pos (by simpa using e)]
      rw [this, List.length_cons, show c + 1 + (atM (r.drop (i + 1)) p.2.2.2).length = c + ((atM (r.drop (i + 1)) p.2.2.2).length + 1) by omega]
    · rw [if_neg e, ih (i + 1) n c (by omega) (by omega) (by omega)]
      have : atM (r[i] :: r.drop (i + 1)) p.2.2.2 = atM (r.drop (i + 1)) p.2.2.2 := by unfold atM; rw [List.filter_cons_of_neg (by simpa using e)]
      rw [this]
theorem FnMeanAt_pure (p0 : List Int) (h0 : ∀ y ∈ p0, 0 ≤ y ∧ y ≤ 255) : ∃ k, laws_FnMeanAt.f k p0 = some true := by
  obtain ⟨k, hk⟩ : ∃ k : Nat, k = 2000000000000 := ⟨_, rfl⟩
  refine ⟨k, ?_⟩
  unfold laws_FnMeanAt.f
  by_cases c0 : 1048576 < (p0.length : Int)
  · rw [if_pos c0]
  rw [if_neg c0]
  obtain ⟨x, mode, ev, at', e1, e2, e3⟩ := DrawMeanAt_k k (by omega) p0 (by omega) h0
  rw [e1]
  simp only [Option.bind_some]
  have I := impl_MeanOf_k k (by omega) x mode ev (by omega) (by omega)
  have S := spec_MeanOf_k k (by omega) x mode ev (by omega) (by omega)
  have ok := meanOf_ok x mode ev
  have A1 : impl_MeanAt.f k x mode ev at' = some (atM (meanOf x mode ev).1 at') := by
    unfold impl_MeanAt.f
    rw [I]
    simp only [Option.bind_some]
    rw [those_eq k (by omega) (fun y0 => impl_MeanAt_1.f y0 at') (fun x => x.To == at') _ (by have := occsOk_len ok; omega) (fun x hx => rfl)]; rfl
  have A2 : spec_MeanAt.f k x mode ev at' = some (atM (meanOf x mode ev).1 at') := by
    unfold spec_MeanAt.f
    rw [S]
    simp only [Option.bind_some]
    have := occsOk_len ok
    have := atM_len (meanOf x mode ev).1 at'
    rw [spec_at_eq k (by omega) _ at' (by omega)]
    simp only [Option.bind_some]
    rw [spec_l3List_k k (by omega) _ (by omega) (atM_ids (ids_of_ok ok) at').few]; rfl
  rw [I, A1, A2, impl_MeanFirst_of k x mode ev I, spec_MeanFirst_of k x mode ev S, impl_MeanUsed_of k (by omega) x mode ev I, spec_MeanUsed_of k (by omega) x mode ev S]
  simp only [Option.bind_some]
  generalize (meanOf x mode ev).1 = r at ok
  have lr := occsOk_len ok
  have al := occsOk_all ok
  have la := atM_len r at'
  have lu := idsOk_len (used_ok (ids_of_ok ok) idsOk_nil)
  change (usedM r).length ≤ 24 at lu
  rw [OccsSame_refl k (atM r at') (by omega) (fun o ho => by have := al o (List.mem_filter.1 ho).1; omega) (by omega)]
  simp only [Option.bind_some]
  have L := at_l16 k (by omega) (x, mode, ev, at') r (usedM r) (by omega) (by omega) (fun o ho => ⟨by have := al o ho; omega, fun z hz => mem_used.2 (.inr ⟨o, ho, hz⟩)⟩) r.length 0 k 0 (by omega) (by omega) (by omega)
  rw [show ((0 : Nat) : Int) = 0 from rfl, List.drop_zero] at L
  rw [if_pos trivial, if_pos trivial, if_pos trivial, L]
  simp only [Option.bind_some]
  rw [if_pos (by omega)]
  cases r with
  | nil => rfl
  | cons o t =>
    have ho := al o (by simp)
    have f1 : firstM (o :: t) = o.To := rfl
    have used : 0 < (usedM (o :: t)).length := by
      have h1 := ((occOk_iff o).1 (occsOk_at ok (i := 0) (by simp)).1).2.2.2.1
      obtain ⟨z, hz⟩ := List.exists_mem_of_length_pos (show 0 < o.Ids.length from h1)
      have hu : z ∈ usedM (o :: t) := (mem_used (l := o :: t) (acc := [])).2 (.inr ⟨o, List.mem_cons_self, hz⟩)
      exact List.length_pos_of_mem hu
    rw [f1, if_neg (by omega), if_neg (by simp; omega), req_pos (by omega), req_pos (by simp)]
    simp only [List.getElem?_cons_zero, Option.bind_some]
    rw [if_pos trivial]
    have e1 : decide ((0 : Int) < (((usedM (o :: t)).length : Nat) : Int)) = true := by simpa using used
    have e2 : decide ((0 : Int) < (((o :: t).length : Nat) : Int)) = true := by simp
    rw [e1, e2]
    rfl
end Go.Proofs.YtdhlbpgjcfdofaaGreat
