/- Plain lemmas about the functions over data; second part. -/
import Derived.Test.YtdhlbpgjcfdofaaGreatQ0
namespace Go.Proofs.YtdhlbpgjcfdofaaGreat
open Go Go.Vm
set_option linter.unusedVariables false
set_option linter.unusedSimpArgs false
/- Delays; where an event is found; the time of the last event: both programs. -/
theorem putM_last {o : GOcc} : ∀ {l : List GOcc}, (∀ x ∈ l, occLess x o = true) → putM l o = l ++ [o]
  | [], _ => rfl
  | y :: l, h => by
    unfold putM
    rw [if_pos (h y (by simp)), putM_last fun x hx => h x (by simp [hx])]
    rfl
theorem asc_snoc {l : List GOcc} {o : GOcc} (h : Asc (l ++ [o])) : ∀ x ∈ l, occLess x o = true := fun x hx => (List.pairwise_append.1 h).2.2 x hx o (by simp)
theorem mergeM_append : ∀ {m l : List GOcc}, Asc (l ++ m) → mergeM l m = l ++ m
  | [], l, _ => by simp [mergeM]
  | y :: m, l, h => by
    have h' : Asc ((l ++ [y]) ++ m) := by simpa using h
    rw [mergeM_cons, putM_last (asc_snoc (List.pairwise_append.1 h').1), mergeM_append h']
    simp
def latM (n : Int) (o : GOcc) : GOcc := ⟨o.From, o.To + n, o.Ids⟩
theorem occLess_iff (a b : GOcc) : occLess a b = true ↔ a.To < b.To ∨ (a.To = b.To ∧ (a.From < b.From ∨ (a.From = b.From ∧ lexCmp a.Ids b.Ids < 0))) := by
  unfold occLess
  rw [decide_eq_true_eq, occCmp_lt]
theorem latM_less (n : Int) (a b : GOcc) : occLess (latM n a) (latM n b) = occLess a b := by
  rw [Bool.eq_iff_iff, occLess_iff, occLess_iff]
  unfold latM
  dsimp only
  constructor
  · rintro (h | ⟨h, h2⟩)
    · exact .inl (by omega)
    · exact .inr ⟨by omega, h2⟩
  · rintro (h | ⟨h, h2⟩)
    · exact .inl (by omega)
    · exact .inr ⟨by omega, h2⟩
def inTime (n till : Int) (o : GOcc) : Bool := decide (o.To + n ≤ till) && decide (o.To + n ≤ 2000)
def latesM (n till : Int) (l : List GOcc) : List GOcc := (l.filter (inTime n till)).map (latM n)
theorem asc_lates {n till : Int} {l : List GOcc} (h : Asc l) : Asc (latesM n till l) := by
  unfold latesM Asc
  rw [List.pairwise_map]
  refine List.Pairwise.imp ?_ (List.Pairwise.sublist List.filter_sublist h)
  intro a b hab
  rw [latM_less]; exact hab
def plusM (n till : Int) (l : List GOcc) : List GOcc × Bool := if occsOk l = true ∧ 1 ≤ n ∧ n ≤ 20 then (latesM n till l, true) else ([], false)
theorem latesM_snoc (n till : Int) (l : List GOcc) (o : GOcc) : latesM n till (l ++ [o]) = if inTime n till o = true then latesM n till l ++ [latM n o] else latesM n till l := by
  unfold latesM
  by_cases h : inTime n till o = true
  · rw [if_pos h, List.filter_append, List.filter_cons_of_pos h]; simp
  · rw [if_neg h, List.filter_append, List.filter_cons_of_neg h]; simp
theorem latesM_len (n till : Int) (l : List GOcc) : (latesM n till l).length ≤ l.length := by unfold latesM; rw [List.length_map]; exact List.length_filter_le _ _
theorem fold_snoc_ind {α σ : Type} (g : σ → α → σ) (P : List α → σ → Prop) (l : List α) (s : σ) (h0 : P [] s) (hs : ∀ i s (h : i < l.length), P (l.take i) s → P (l.take (i + 1)) (g s l[i])) : P l (l.foldl g s) := by
  have := fold_inv g (fun i s => P (l.take i) s) l 0 s (fun j s h hI => by simpa using hs j s h (by simpa using hI)) (by simpa using h0)
  simpa using this
theorem take_snoc {α : Type} (l : List α) (i : Nat) (h : i < l.length) : l.take (i + 1) = l.take i ++ [l[i]] := by
  rw [List.take_add_one, List.getElem?_eq_getElem h]; rfl
theorem latM_few {n : Int} {o : GOcc} (h : Few o) : Few (latM n o) := h
theorem lates_few {n till : Int} {l : List GOcc} (h : Fews l) : Fews (latesM n till l) := fun x hx => by
  unfold latesM at hx
  obtain ⟨y, hy, rfl⟩ := List.mem_map.1 hx
  exact h y (List.mem_filter.1 hy).1
theorem impl_plus_loop (k : Nat) (hk : 1000000000000 ≤ k) (l : List GOcc) (n till : Int) (hn : 1 ≤ n ∧ n ≤ 20) (h : occsOk l = true) : impl_PlusOf.l0 k l n till k [] 0 = some (latesM n till l) := by
  have hl := occsOk_len h
  have q := loop_inv0 (fun s : List GOcc => s) l (impl_PlusOf.l0 k l n till) (fun s o => if inTime n till o = true then s ++ [latM n o] else s) (fun i s => s = latesM n till (l.take i) ∧ s.length ≤ i)
    (fun m s => by rw [impl_PlusOf.l0, if_neg (by omega)])
    (fun m s i hi hI => by
      have ho := occsOk_all h _ (List.getElem_mem hi)
      have hf : Few l[i] := by omega
      refine ⟨?_, ?_, ?_⟩
      · have c1 : impl_later.f l[i] n = some (latM n l[i]) := by
          unfold impl_later.f
          rw [clone_k _ hf]
          simp only [Option.bind_some]
          rw [wr _ (by omega)]; rfl
        rw [impl_PlusOf.l0, if_pos (by omega), req_pos (by omega), Int.toNat_natCast, List.getElem?_eq_getElem hi]
        simp only [Option.bind_some]
        rw [wr (l[i].To + n) (by omega), c1, wrS i (by omega)]
        simp only [Option.bind_some]
        unfold inTime
        by_cases t : 2000 < till
        · rw [if_pos t]
          by_cases u : 2000 < l[i].To + n
          · rw [if_pos u, if_neg (by simp; omega)]
          · rw [if_neg u, req_pos (by omega), if_pos (by simp; omega)]
        · rw [if_neg t]
          by_cases u : till < l[i].To + n
          · rw [if_pos u, if_neg (by simp; omega)]
          · rw [if_neg u, req_pos (by omega), if_pos (by simp; omega)]
      · rw [take_snoc l i hi, latesM_snoc, ← hI.1]
      · split
        · simp; omega
        · omega)
    k [] (by omega) ⟨rfl, by simp⟩
  rw [q.1]
  have := q.2.1
  simpa using this
theorem spec_plus_loop (k : Nat) (hk : 1000000000000 ≤ k) (l : List GOcc) (n till : Int) (hn : 1 ≤ n ∧ n ≤ 20) (h : occsOk l = true) : spec_PlusOf.l0 k l n till k [] 0 = some (latesM n till l) := by
  have hl := occsOk_len h
  have q := loop_inv0 (fun s : List GOcc => s) l (spec_PlusOf.l0 k l n till) (fun s o => if inTime n till o = true then s ++ [latM n o] else s) (fun i s => s = latesM n till (l.take i) ∧ s.length ≤ i)
    (fun m s => by rw [spec_PlusOf.l0, if_neg (by omega)])
    (fun m s i hi hI => by
      have ho := occsOk_all h _ (List.getElem_mem hi)
      have hf : Few l[i] := by omega
      have hs : Fews s := by rw [hI.1]; exact lates_few fun x hx => fews_of_ok h x (List.mem_of_mem_take hx)
      refine ⟨?_, ?_, ?_⟩
      · have c1 : spec_l5Later.f l[i] n = some (latM n l[i]) := by
          unfold spec_l5Later.f
          rw [copy_k _ hf]
          simp only [Option.bind_some]
          rw [wr _ (by omega)]; rfl
        rw [spec_PlusOf.l0, if_pos (by omega), req_pos (by omega), Int.toNat_natCast, List.getElem?_eq_getElem hi]
        simp only [Option.bind_some]
        rw [wr (l[i].To + n) (by omega), c1, wrS i (by omega)]
        simp only [Option.bind_some]
        by_cases t : till < l[i].To + n
        · rw [if_pos t, if_neg (by unfold inTime; simp; omega)]
        rw [if_neg t, req_pos (by omega)]
        by_cases u : 2000 < l[i].To + n
        · rw [if_pos u, if_neg (by unfold inTime; simp; omega)]
        have w : inTime n till l[i] = true := by unfold inTime; simp; omega
        rw [if_neg u, req_pos (by omega), spec_put_eq k hk s _ (by omega) hs (latM_few hf), if_pos w]
        simp only [Option.bind_some]
        have e : latesM n till (l.take (i + 1)) = s ++ [latM n l[i]] := by rw [take_snoc l i hi, latesM_snoc, if_pos w, hI.1]
        rw [putM_last (asc_snoc (by rw [← e]; exact asc_lates (List.Pairwise.sublist (List.take_sublist _ _) (asc_of_ok h))))]
      · rw [take_snoc l i hi, latesM_snoc, ← hI.1]
      · split
        · simp; omega
        · omega)
    k [] (by omega) ⟨rfl, by simp⟩
  rw [q.1]
  have := q.2.1
  simpa using this
theorem impl_PlusOf_eq (k : Nat) (hk : 1000000000000 ≤ k) (l : List GOcc) (n till : Int) (sl : Small l) : impl_PlusOf.f k l n till = some (plusM n till l) := by
  unfold impl_PlusOf.f plusM
  rw [impl_ok_k k hk l sl]
  simp only [Option.bind_some]
  by_cases h : occsOk l = true
  · rw [if_pos h, in_eq]
    simp only [Option.bind_some]
    by_cases hn : 1 ≤ n ∧ n ≤ 20
    · rw [if_pos (by simp [hn]), if_pos ⟨h, hn⟩, impl_plus_loop k hk l n till hn h]; rfl
    · rw [if_neg (by simpa using hn), if_neg (fun x => hn x.2)]
  · rw [if_neg h, if_neg (fun x => h x.1)]
theorem spec_PlusOf_eq (k : Nat) (hk : 1000000000000 ≤ k) (l : List GOcc) (n till : Int) (sl : Small l) : spec_PlusOf.f k l n till = some (plusM n till l) := by
  unfold spec_PlusOf.f plusM
  rw [spec_ok_k k hk l sl]
  simp only [Option.bind_some]
  by_cases h : occsOk l = true
  · rw [if_pos h]
    by_cases h1 : n < 1
    · rw [if_pos h1, if_neg (fun x => by omega)]
    rw [if_neg h1]
    by_cases h2 : 20 < n
    · rw [if_pos h2, if_neg (fun x => by omega)]
    have := latesM_len n till l
    have := occsOk_len h
    rw [if_neg h2, if_pos ⟨h, by omega, by omega⟩, spec_plus_loop k hk l n till ⟨by omega, by omega⟩ h]
    simp only [Option.bind_some]
    rw [told_k k hk _ (by omega) (lates_few (fews_of_ok h))]
    simp only [Option.bind_some]
    unfold told
    rw [if_neg (by omega)]
  · rw [if_neg h, if_neg (fun x => h x.1)]
def symFrom (sym : Int) : Nat → List GEv → List GOcc
  | _, [] => []
  | i, e :: l => if e.Sym = sym then ⟨e.At, e.At, [(i : Int)]⟩ :: symFrom sym (i + 1) l else symFrom sym (i + 1) l
theorem impl_sym_loop (k : Nat) (x : GEx) (l : List GEv) (hl : l.length ≤ 1000000) : ∀ (d i n : Nat) (acc : List GOcc), i + d = l.length → d < n → acc.length ≤ i → impl_Ex_mean.l1 k x l n acc (i : Int) = some (acc ++ symFrom x.Sym i (l.drop i)) := by
  intro d
  induction d with
  | zero =>
    intro i n acc hi hn ha
    obtain ⟨n, rfl⟩ : ∃ m, n = m + 1 := ⟨n - 1, by omega⟩
    rw [impl_Ex_mean.l1, if_neg (by omega), List.drop_eq_nil_of_le (by omega)]
    simp [symFrom]
  | succ d ih =>
    intro i n acc hi hn ha
    obtain ⟨n, rfl⟩ : ∃ m, n = m + 1 := ⟨n - 1, by omega⟩
    have h : i < l.length := by omega
    rw [impl_Ex_mean.l1, if_pos (by omega), req_pos (by omega), Int.toNat_natCast, List.getElem?_eq_getElem h, List.drop_eq_getElem_cons h, symFrom]
    simp only [Option.bind_some]
    rw [wrS i (by omega)]
    by_cases c : l[i].Sym = x.Sym
    · rw [if_pos c, if_pos c, req_pos (by omega), ih (i + 1) n _ (by omega) (by omega) (by simp; omega)]
      simp
    · rw [if_neg c, if_neg c, ih (i + 1) n _ (by omega) (by omega) (by omega)]
theorem spec_sym_loop (k : Nat) (sym : Int) (l : List GEv) (hl : l.length ≤ 1000000) : ∀ (d i n : Nat) (acc : List GOcc), i + d = l.length → d < n → acc.length ≤ i → spec_l6Sym.l0 k sym l n acc (i : Int) = some (acc ++ symFrom sym i (l.drop i)) := by
  intro d
  induction d with
  | zero =>
    intro i n acc hi hn ha
    obtain ⟨n, rfl⟩ : ∃ m, n = m + 1 := ⟨n - 1, by omega⟩
    rw [spec_l6Sym.l0, if_neg (by omega), List.drop_eq_nil_of_le (by omega)]
    simp [symFrom]
  | succ d ih =>
    intro i n acc hi hn ha
    obtain ⟨n, rfl⟩ : ∃ m, n = m + 1 := ⟨n - 1, by omega⟩
    have h : i < l.length := by omega
    rw [spec_l6Sym.l0, if_pos (by omega), req_pos (by omega), Int.toNat_natCast, List.getElem?_eq_getElem h, List.drop_eq_getElem_cons h, symFrom]
    simp only [Option.bind_some]
    rw [wrS i (by omega)]
    by_cases c : l[i].Sym = sym
    · rw [if_pos c, if_pos c]
      repeat rw [req_pos (by omega)]
      rw [ih (i + 1) n _ (by omega) (by omega) (by simp; omega)]
      simp
    · rw [if_neg c, if_neg c, ih (i + 1) n _ (by omega) (by omega) (by omega)]
theorem impl_sym_eq (k : Nat) (hk : 1000000000000 ≤ k) (x : GEx) (l : List GEv) (hl : l.length ≤ 1000000) : impl_Ex_mean.l1 k x l k [] 0 = some (symFrom x.Sym 0 l) := by
  have := impl_sym_loop k x l hl l.length 0 k [] (by omega) (by omega) (by simp)
  rw [show ((0 : Nat) : Int) = 0 from rfl, List.drop_zero, List.nil_append] at this
  exact this
theorem spec_sym_eq (k : Nat) (hk : 1000000000000 ≤ k) (sym : Int) (l : List GEv) (hl : l.length ≤ 1000000) : spec_l6Sym.f k sym l = some (symFrom sym 0 l) := by
  unfold spec_l6Sym.f
  have := spec_sym_loop k sym l hl l.length 0 k [] (by omega) (by omega) (by simp)
  rw [show ((0 : Nat) : Int) = 0 from rfl, List.drop_zero, List.nil_append] at this
  rw [this]; rfl
def endM (l : List GEv) : Int := match l.getLast? with | some e => e.At | none => 0
theorem now_eq (l : List GEv) (hl : l.length ≤ 1000000) : impl_now.f l = some (endM l) ∧ spec_l6End.f l = some (endM l) := by
  have : (if (l.length : Int) = 0 then some (0 : Int) else (req ((0 : Int) ≤ (IntKind.wrap .i64 ((l.length : Int) - 1))) ((l[(IntKind.wrap .i64 ((l.length : Int) - 1)).toNat]?).bind fun e4 => (some e4.At)))) = some (endM l) := by
    unfold endM
    by_cases h : (l.length : Int) = 0
    · have e : l = [] := List.length_eq_zero_iff.1 (by omega)
      subst e; rfl
    · rw [if_neg h, wr _ (by omega), req_pos (by omega), List.getLast?_eq_getElem?, show ((l.length : Int) - 1).toNat = l.length - 1 by omega, List.getElem?_eq_getElem (show l.length - 1 < l.length by omega)]
      rfl
  exact ⟨this, this⟩
/- Trees: how many nodes, induction. -/
mutual
/-- how many nodes -/
def exN : GEx → Nat
  | ⟨_, _, _, ks⟩ => 1 + exNs ks
def exNs : List GEx → Nat
  | [] => 0
  | x :: xs => exN x + exNs xs
end
theorem exNs_nil : exNs [] = 0 := by simp only [exNs]
theorem exNs_cons (x : GEx) (xs : List GEx) : exNs (x :: xs) = exN x + exNs xs := by simp only [exNs]
theorem exN_eq (e : GEx) : exN e = 1 + exNs e.Kids := by cases e; simp only [exN]
theorem exNs_len : ∀ l : List GEx, l.length ≤ exNs l
  | [] => by simp [exNs_nil]
  | x :: xs => by have := exNs_len xs; rw [exNs_cons, exN_eq]; simp only [List.length_cons]; omega
theorem exNs_mem {e : GEx} : ∀ {l : List GEx}, e ∈ l → exN e ≤ exNs l
  | x :: xs, h => by
    rw [exNs_cons]
    rcases List.mem_cons.1 h with rfl | h
    · omega
    · have := exNs_mem h; omega
mutual
theorem exInd {P : GEx → Prop} (h : ∀ e : GEx, (∀ x ∈ e.Kids, P x) → P e) : ∀ e, P e
  | ⟨a, b, c, ks⟩ => h ⟨a, b, c, ks⟩ (exIndS h ks)
theorem exIndS {P : GEx → Prop} (h : ∀ e : GEx, (∀ x ∈ e.Kids, P x) → P e) : ∀ l : List GEx, ∀ x ∈ l, P x
  | [], _, hx => by simp at hx
  | y :: ys, x, hx => by
    rcases List.mem_cons.1 hx with e | hx
    · rw [e]; exact exInd h y
    · exact exIndS h ys x hx
end
mutual
/-- lengths that memory can hold, all the way down -/
def exSm : GEx → Prop
  | ⟨_, _, _, ks⟩ => ks.length < 4611686018427387904 ∧ exSms ks
def exSms : List GEx → Prop
  | [] => True
  | x :: xs => exSm x ∧ exSms xs
end
theorem exSms_mem {e : GEx} : ∀ {l : List GEx}, exSms l → e ∈ l → exSm e
  | x :: xs, hs, h => by
    simp only [exSms] at hs
    rcases List.mem_cons.1 h with rfl | h
    · exact hs.1
    · exact exSms_mem hs.2 h
theorem exSm_eq {e : GEx} (h : exSm e) : e.Kids.length < 4611686018427387904 ∧ ∀ x ∈ e.Kids, exSm x := by
  cases e; simp only [exSm] at h; exact ⟨h.1, fun x hx => exSms_mem h.2 hx⟩
/- Trees: which are well formed, in both programs. -/
def kidsN (a : Int) : Int := if a = 1 then 0 else if a = 7 then 1 else if a = 2 then 2 else if a = 3 then 2 else if a = 4 then 2 else if a = 5 then 3 else if a = 6 then 3 else -1
theorem l2Kids_eq (a : Int) : spec_l2Kids.f a = some (kidsN a) := by
  unfold spec_l2Kids.f kidsN
  repeat' split
  all_goals rfl
def exHere (e : GEx) : Bool := decide (kidsN e.Kind = (e.Kids.length : Int)) && decide (0 ≤ e.Sym) && decide (e.Sym < 5) && (decide (e.Kind = 1) || decide (e.Sym = 0)) && (if e.Kind = 7 then decide (1 ≤ e.N) && decide (e.N ≤ 20) else decide (e.N = 0))
mutual
def exForm : GEx → Bool
  | ⟨a, b, c, ks⟩ => exHere ⟨a, b, c, ks⟩ && exForms ks
def exForms : List GEx → Bool
  | [] => true
  | x :: xs => exForm x && exForms xs
end
mutual
def exD : GEx → Nat
  | ⟨_, _, _, ks⟩ => 1 + exDs ks
def exDs : List GEx → Nat
  | [] => 0
  | x :: xs => max (exD x) (exDs xs)
end
theorem exForm_eq (e : GEx) : exForm e = (exHere e && exForms e.Kids) := by cases e; simp only [exForm]
theorem exD_eq (e : GEx) : exD e = 1 + exDs e.Kids := by cases e; simp only [exD]
theorem exForms_all : ∀ l : List GEx, exForms l = l.all exForm
  | [] => by simp only [exForms]; rfl
  | x :: xs => by simp only [exForms, exForms_all xs, List.all_cons]
theorem exDs_le : ∀ (l : List GEx) (d : Nat), exDs l ≤ d ↔ ∀ x ∈ l, exD x ≤ d
  | [], d => by simp [exDs]
  | x :: xs, d => by
    simp only [exDs, Nat.max_le, exDs_le xs d, List.mem_cons]
    exact ⟨fun h y hy => hy.elim (fun e => e ▸ h.1) (h.2 y), fun h => ⟨h x (.inl rfl), fun y hy => h y (.inr hy)⟩⟩
/-- well formed, no deeper than d -/
def formD : Nat → GEx → Bool
  | 0, _ => false
  | d + 1, e => exHere e && e.Kids.all (formD d)
theorem formD_eq : ∀ (d : Nat) (e : GEx), formD d e = (decide (exD e ≤ d) && exForm e)
  | 0, e => by rw [exD_eq]; simp [formD]
  | d + 1, e => by
    rw [formD, exForm_eq, exForms_all, exD_eq]
    have h : e.Kids.all (formD d) = (decide (1 + exDs e.Kids ≤ d + 1) && e.Kids.all exForm) := by
      rw [Bool.eq_iff_iff]
      simp only [List.all_eq_true, Bool.and_eq_true, decide_eq_true_eq, formD_eq d]
      constructor
      · intro h
        refine ⟨?_, fun x hx => (h x hx).2⟩
        have := (exDs_le e.Kids d).2 fun x hx => (h x hx).1
        omega
      · rintro ⟨h1, h2⟩ x hx
        exact ⟨(exDs_le e.Kids d).1 (by omega) x hx, h2 x hx⟩
    rw [h]
    cases exHere e <;> cases decide (1 + exDs e.Kids ≤ d + 1) <;> rfl
theorem l2Form_loops (k : Nat) (rec' : GEx → Int → Option Bool) (e : GEx) (q : Int) (g : GEx → Bool) (hl : e.Kids.length < 4611686018427387904) (H : ∀ x ∈ e.Kids, rec' x (IntKind.wrap .i64 (q - 1)) = some (g x)) :
    ∀ (d n i : Nat), i + d = e.Kids.length → d < n →
      spec_l2Form.l0 k rec' e q n (i : Int) = some (if (e.Kids.drop i).all g then .ok () else .error false) ∧
      spec_l2Form.l1 k rec' e q n (i : Int) = some (if (e.Kids.drop i).all g then .ok () else .error false) ∧
      spec_l2Form.l2 k rec' e q n (i : Int) = some (if (e.Kids.drop i).all g then .ok () else .error false) ∧
      spec_l2Form.l3 k rec' e q n (i : Int) = some (if (e.Kids.drop i).all g then .ok () else .error false) := by
  intro d
  induction d with
  | zero =>
    intro n i hi hn
    obtain ⟨n, rfl⟩ : ∃ m, n = m + 1 := ⟨n - 1, by omega⟩
    rw [List.drop_eq_nil_of_le (by omega)]
    exact ⟨by rw [spec_l2Form.l0, if_neg (by omega)]; rfl, by rw [spec_l2Form.l1, if_neg (by omega)]; rfl, by rw [spec_l2Form.l2, if_neg (by omega)]; rfl, by rw [spec_l2Form.l3, if_neg (by omega)]; rfl⟩
  | succ d ih =>
    intro n i hi hn
    obtain ⟨n, rfl⟩ : ∃ m, n = m + 1 := ⟨n - 1, by omega⟩
    have hlt : i < e.Kids.length := by omega
    obtain ⟨i0, i1, i2, i3⟩ := ih n (i + 1) (by omega) (by omega)
    rw [List.drop_eq_getElem_cons hlt, List.all_cons]
    refine ⟨?_, ?_, ?_, ?_⟩
    · rw [spec_l2Form.l0, if_pos (by omega), req_pos (by omega), Int.toNat_natCast, List.getElem?_eq_getElem hlt]
      simp only [Option.bind_some, H e.Kids[i] (List.getElem_mem hlt)]
      cases g e.Kids[i]
      · rfl
      · rw [if_pos rfl, wrS i (by omega), i0, Bool.true_and]
    · rw [spec_l2Form.l1, if_pos (by omega), req_pos (by omega), Int.toNat_natCast, List.getElem?_eq_getElem hlt]
      simp only [Option.bind_some, H e.Kids[i] (List.getElem_mem hlt)]
      cases g e.Kids[i]
      · rfl
      · rw [if_pos rfl, wrS i (by omega), i1, Bool.true_and]
    · rw [spec_l2Form.l2, if_pos (by omega), req_pos (by omega), Int.toNat_natCast, List.getElem?_eq_getElem hlt]
      simp only [Option.bind_some, H e.Kids[i] (List.getElem_mem hlt)]
      cases g e.Kids[i]
      · rfl
      · rw [if_pos rfl, wrS i (by omega), i2, Bool.true_and]
    · rw [spec_l2Form.l3, if_pos (by omega), req_pos (by omega), Int.toNat_natCast, List.getElem?_eq_getElem hlt]
      simp only [Option.bind_some, H e.Kids[i] (List.getElem_mem hlt)]
      cases g e.Kids[i]
      · rfl
      · rw [if_pos rfl, wrS i (by omega), i3, Bool.true_and]
theorem l2Form_k : ∀ (d : Nat) (e : GEx) (k : Nat), d ≤ 5 → exN e ≤ 1048577 → 3 * exN e ≤ k → spec_l2Form.f k e (d : Int) = some (formD d e)
  | 0, e, k, hd, hs, hk => by
    rw [exN_eq] at hk
    obtain ⟨k, rfl⟩ : ∃ m, k = m + 1 := ⟨k - 1, by omega⟩
    rw [spec_l2Form.f, if_pos (by decide)]; rfl
  | d + 1, e, k, hd, hs, hk => by
    rw [exN_eq] at hk hs
    have hq := exNs_len e.Kids
    obtain ⟨k, rfl⟩ : ∃ m, k = m + 1 := ⟨k - 1, by omega⟩
    have hw : IntKind.wrap .i64 (((d + 1 : Nat) : Int) - 1) = (d : Int) := wrP d (by omega)
    have H : ∀ x ∈ e.Kids, spec_l2Form.f k x (IntKind.wrap .i64 (((d + 1 : Nat) : Int) - 1)) = some (formD d x) := fun x hx => by
      have := exNs_mem hx
      rw [hw]; exact l2Form_k d x k (by omega) (by omega) (by omega)
    obtain ⟨i0, i1, i2, i3⟩ := l2Form_loops k (spec_l2Form.f k) e ((d + 1 : Nat) : Int) (formD d) (by omega) H e.Kids.length k 0 (by omega) (by omega)
    rw [show ((0 : Nat) : Int) = 0 from rfl, List.drop_zero] at i0 i1 i2 i3
    rw [spec_l2Form.f, if_neg (by omega), l2Kids_eq]
    simp only [Option.bind_some, i0, i1, i2, i3, formD, exHere]
    cases hA : e.Kids.all (formD d) <;> (repeat' split) <;> simp_all <;> omega
theorem l2Many_loop (k : Nat) (rec' : GEx → Int → Option Int) (e : GEx) (q : Int) (hq : 0 < q) (hl : e.Kids.length < 4611686018427387904) (H : ∀ x ∈ e.Kids, rec' x (IntKind.wrap .i64 (q - 1)) = some (exN x : Int)) :
    ∀ (d n i : Nat) (s : Int), i + d = e.Kids.length → d < n → 0 ≤ s → s + exNs (e.Kids.drop i) ≤ 100000000 →
      spec_l2Many.l0 k rec' e q n s (i : Int) = some (s + exNs (e.Kids.drop i)) := by
  intro d
  induction d with
  | zero =>
    intro n i s hi hn h0 h1
    obtain ⟨n, rfl⟩ : ∃ m, n = m + 1 := ⟨n - 1, by omega⟩
    rw [spec_l2Many.l0, if_neg (by omega), List.drop_eq_nil_of_le (by omega), exNs_nil]; simp
  | succ d ih =>
    intro n i s hi hn h0 h1
    obtain ⟨n, rfl⟩ : ∃ m, n = m + 1 := ⟨n - 1, by omega⟩
    have hlt : i < e.Kids.length := by omega
    rw [List.drop_eq_getElem_cons hlt, exNs_cons] at h1 ⊢
    rw [spec_l2Many.l0, if_pos (by omega), if_pos hq, req_pos (by omega), Int.toNat_natCast, List.getElem?_eq_getElem hlt]
    simp only [Option.bind_some, H e.Kids[i] (List.getElem_mem hlt)]
    push_cast at h1
    rw [wrS i (by omega), wr (s + _) (by omega), ih n (i + 1) _ (by omega) (by omega) (by omega) (by omega)]
    congr 1; push_cast; omega
theorem l2Many_k : ∀ (d : Nat) (e : GEx) (k : Nat), d ≤ 5 → exD e ≤ d → exN e ≤ 1048577 → 3 * exN e ≤ k → spec_l2Many.f k e (d : Int) = some (exN e : Int)
  | 0, e, k, _, hd, _, _ => by rw [exD_eq] at hd; omega
  | d + 1, e, k, hd5, hd, hs, hk => by
    rw [exD_eq] at hd
    rw [exN_eq] at hk hs ⊢
    have hq := exNs_len e.Kids
    obtain ⟨k, rfl⟩ : ∃ m, k = m + 1 := ⟨k - 1, by omega⟩
    have hdd := (exDs_le e.Kids d).1 (by omega)
    have := l2Many_loop k (spec_l2Many.f k) e ((d + 1 : Nat) : Int) (by omega) (by omega) (fun x hx => by
      have := exNs_mem hx
      rw [wrP d (by omega)]; exact l2Many_k d x k (by omega) (hdd x hx) (by omega) (by omega)) e.Kids.length k 0 1 (by omega) (by omega) (by omega) (by simp only [List.drop_zero]; omega)
    rw [show ((0 : Nat) : Int) = 0 from rfl, List.drop_zero] at this
    rw [spec_l2Many.f, this]
    simp
theorem exD_le : ∀ e : GEx, exD e ≤ exN e := by
  refine exInd fun e ih => ?_
  rw [exD_eq, exN_eq]
  have := (exDs_le e.Kids (exNs e.Kids)).2 fun x hx => by
    have := ih x hx; have := exNs_mem hx; omega
  omega
theorem exDs_cons (x : GEx) (xs : List GEx) : exDs (x :: xs) = max (exD x) (exDs xs) := by simp only [exDs]
theorem size_loop (k : Nat) (rec' : GEx → Option (Int × Int)) (e : GEx) (hl : e.Kids.length < 4611686018427387904) (H : ∀ x ∈ e.Kids, rec' x = some ((exN x : Int), (exD x : Int))) (hb : exNs e.Kids ≤ 1048577) :
    ∀ (d n i : Nat) (s t : Int), i + d = e.Kids.length → d < n → 0 ≤ s → s + exNs (e.Kids.drop i) ≤ 100000000 → 1 ≤ t →
      impl_Ex_size.l0 k rec' e n s t (i : Int) = some (s + exNs (e.Kids.drop i), max t (1 + exDs (e.Kids.drop i) : Nat)) := by
  intro d
  induction d with
  | zero =>
    intro n i s t hi hn h0 h1 h2
    obtain ⟨n, rfl⟩ : ∃ m, n = m + 1 := ⟨n - 1, by omega⟩
    rw [impl_Ex_size.l0, if_neg (by omega), List.drop_eq_nil_of_le (by omega), exNs_nil, show exDs [] = 0 by simp only [exDs]]
    congr 2
    · simp
    · push_cast; omega
  | succ d ih =>
    intro n i s t hi hn h0 h1 h2
    obtain ⟨n, rfl⟩ : ∃ m, n = m + 1 := ⟨n - 1, by omega⟩
    have hlt : i < e.Kids.length := by omega
    have hd := exD_le e.Kids[i]
    have hm := exNs_mem (List.getElem_mem hlt : e.Kids[i] ∈ e.Kids)
    rw [List.drop_eq_getElem_cons hlt, exNs_cons] at h1 ⊢
    rw [exDs_cons, impl_Ex_size.l0, if_pos (by omega), req_pos (by omega), Int.toNat_natCast, List.getElem?_eq_getElem hlt]
    simp only [Option.bind_some, H e.Kids[i] (List.getElem_mem hlt)]
    push_cast at h1
    rw [wrS i (by omega), wr (s + _) (by omega), wr ((exD e.Kids[i] : Int) + 1) (by omega)]
    by_cases h : t < (exD e.Kids[i] : Int) + 1
    · rw [if_pos h, ih n (i + 1) _ _ (by omega) (by omega) (by omega) (by omega) (by omega)]
      congr 2
      · push_cast; omega
      · push_cast; omega
    · rw [if_neg h, ih n (i + 1) _ _ (by omega) (by omega) (by omega) (by omega) (by omega)]
      congr 2
      · push_cast; omega
      · push_cast; omega
theorem size_k : ∀ e : GEx, exN e ≤ 1048577 → ∀ k : Nat, 3 * exN e ≤ k → impl_Ex_size.f k e = some ((exN e : Int), (exD e : Int)) := by
  refine exInd fun e ih hs k hk => ?_
  rw [exN_eq] at hk hs ⊢
  rw [exD_eq]
  have hq := exNs_len e.Kids
  obtain ⟨k, rfl⟩ : ∃ m, k = m + 1 := ⟨k - 1, by omega⟩
  have := size_loop k (impl_Ex_size.f k) e (by omega) (fun x hx => ih x hx (by have := exNs_mem hx; omega) k (by have := exNs_mem hx; omega)) (by omega) e.Kids.length k 0 1 1 (by omega) (by omega) (by omega) (by simp only [List.drop_zero]; omega) (by omega)
  rw [show ((0 : Nat) : Int) = 0 from rfl, List.drop_zero] at this
  rw [impl_Ex_size.f, this]
  simp only [Option.bind_some]
  congr 2
  push_cast; omega
theorem xindex_loop (k : Nat) (g : GEx → Option Bool) (h : GEx → Bool) (l : List GEx) (hl : l.length < 4611686018427387904) (H : ∀ x ∈ l, g x = some (h x)) :
    ∀ (d n i : Nat), i + d = l.length → d < n → ∃ r, slices_IndexFunc.l0 k g l n (i : Int) = some r ∧ ((∃ j : Int, r = .error j ∧ 0 ≤ j ∧ (l.drop i).any h = true) ∨ (r = .ok () ∧ (l.drop i).any h = false)) := by
  intro d
  induction d with
  | zero =>
    intro n i hi hn
    obtain ⟨n, rfl⟩ : ∃ m, n = m + 1 := ⟨n - 1, by omega⟩
    rw [slices_IndexFunc.l0, if_neg (by omega), List.drop_eq_nil_of_le (by omega)]
    exact ⟨_, rfl, .inr ⟨rfl, rfl⟩⟩
  | succ d ih =>
    intro n i hi hn
    obtain ⟨n, rfl⟩ : ∃ m, n = m + 1 := ⟨n - 1, by omega⟩
    have hlt : i < l.length := by omega
    rw [slices_IndexFunc.l0, if_pos (by omega), req_pos (by omega), Int.toNat_natCast, List.getElem?_eq_getElem hlt, List.drop_eq_getElem_cons hlt, List.any_cons]
    simp only [Option.bind_some, H l[i] (List.getElem_mem hlt)]
    cases hh : h l[i] with
    | true => rw [if_pos rfl]; exact ⟨_, rfl, .inl ⟨_, rfl, by omega, rfl⟩⟩
    | false =>
      rw [if_neg (by decide), wrS i (by omega), Bool.false_or]
      exact ih n (i + 1) (by omega) (by omega)
theorem xcontains_k (k : Nat) (g : GEx → Option Bool) (h : GEx → Bool) (l : List GEx) (hl : l.length < 4611686018427387904) (H : ∀ x ∈ l, g x = some (h x)) (hk : l.length < k) : slices_ContainsFunc.f g k l = some (l.any h) := by
  obtain ⟨r, h1, h2⟩ := xindex_loop k g h l hl H l.length k 0 (by omega) hk
  rw [show ((0 : Nat) : Int) = 0 from rfl] at h1
  rw [List.drop_zero] at h2
  unfold slices_ContainsFunc.f slices_IndexFunc.f
  rw [h1]
  rcases h2 with ⟨j, rfl, h3, h4⟩ | ⟨rfl, h4⟩
  · simp only [Option.bind_some, h4, Option.some.injEq, Bool.not_eq_true', decide_eq_false_iff_not]; omega
  · simp only [Option.bind_some, h4]; rfl
theorem kids_tab (a : Int) (h : 1 ≤ a ∧ a ≤ 7) : impl_kids.f a = some (kidsN a) := by
  have : a = 1 ∨ a = 2 ∨ a = 3 ∨ a = 4 ∨ a = 5 ∨ a = 6 ∨ a = 7 := by omega
  rcases this with h | h | h | h | h | h | h <;> subst h <;> rfl
theorem kidsN_out (a : Int) (h : ¬ (1 ≤ a ∧ a ≤ 7)) : kidsN a = -1 := by
  unfold kidsN
  repeat rw [if_neg (by omega)]
theorem in_k (a b c : Int) : impl_in.f a b c = some (decide (b ≤ a) && decide (a ≤ c)) := in_eq a b c
theorem any_not (l : List GEx) : (!(l.any fun x => !exForm x)) = exForms l := by
  rw [exForms_all]
  induction l with
  | nil => rfl
  | cons x xs ih => simp only [List.any_cons, List.all_cons, ← ih]; cases exForm x <;> simp
theorem formed_k : ∀ e : GEx, exN e ≤ 1048577 → ∀ k : Nat, 3 * exN e ≤ k → impl_Ex_formed.f k e = some (exForm e) := by
  refine exInd fun e ih hs k hk => ?_
  rw [exN_eq] at hk hs
  have hq := exNs_len e.Kids
  obtain ⟨k, rfl⟩ : ∃ m, k = m + 2 := ⟨k - 2, by omega⟩
  have hc : slices_ContainsFunc.f (fun y0 => impl_Ex_formed_1.f (k + 1) y0) (k + 1) e.Kids = some (e.Kids.any fun x => !exForm x) := by
    refine xcontains_k (k + 1) _ _ _ (by omega) (fun x hx => ?_) (by omega)
    have := exNs_mem hx
    rw [impl_Ex_formed_1.f, ih x hx (by omega) k (by omega)]; rfl
  rw [impl_Ex_formed.f, exForm_eq, ← any_not]
  simp only [impl_isKind.f, impl_isSym.f, in_k, hc, Option.bind_some]
  by_cases hk7 : 1 ≤ e.Kind ∧ e.Kind ≤ 7
  · simp only [kids_tab e.Kind hk7, Option.bind_some, exHere]
    cases hA : e.Kids.any (fun x => !exForm x) <;> (repeat' split) <;> simp_all <;> omega
  · have h0 := kidsN_out e.Kind hk7
    have h1 : exHere e = false := by unfold exHere; rw [h0]; have : ¬ ((-1 : Int) = (e.Kids.length : Int)) := by omega
                                     simp [this]
    have h2 : (decide (1 ≤ e.Kind) && decide (e.Kind ≤ 7)) = false := by
      rw [Bool.eq_false_iff]; simp only [ne_eq, Bool.and_eq_true, decide_eq_true_eq]; exact hk7
    rw [h1, h2]; rfl
def exOk (e : GEx) : Bool := decide (exN e ≤ 12) && decide (exD e ≤ 5) && exForm e
theorem spec_ExOk_k (e : GEx) (hs : exN e ≤ 1048577) (k : Nat) (hk : 3 * exN e ≤ k) : spec_ExOk.f k e = some (exOk e) := by
  unfold spec_ExOk.f
  rw [show (5 : Int) = ((5 : Nat) : Int) from rfl, l2Form_k 5 e k (by omega) hs hk, formD_eq]
  simp only [Option.bind_some, exOk]
  by_cases hd : exD e ≤ 5
  · rw [l2Many_k 5 e k (by omega) hd hs hk]
    cases exForm e
    · simp
    · simp only [hd, decide_true, Bool.and_self, if_true, Option.bind_some, Bool.and_true]
      by_cases h : exN e ≤ 12
      · simp [h]; omega
      · simp [h]; omega
  · simp [hd]
theorem impl_ExOk_k (e : GEx) (hs : exN e ≤ 1048577) (k : Nat) (hk : 3 * exN e ≤ k) : impl_ExOk.f k e = some (exOk e) := by
  unfold impl_ExOk.f
  rw [size_k e hs k hk, formed_k e hs k hk]
  simp only [Option.bind_some, exOk]
  by_cases h : 12 < (exN e : Int)
  · rw [if_pos h]; simp; omega
  · rw [if_neg h]
    by_cases h2 : 5 < (exD e : Int)
    · rw [if_pos h2]; simp; omega
    · rw [if_neg h2]
      have a1 : exN e ≤ 12 := by omega
      have a2 : exD e ≤ 5 := by omega
      simp [a1, a2]
/- What is meant, over all that happened: both programs give one answer. -/
def combM (mode : Int) (l : List GEv) (kd n : Int) (r : List (List GOcc)) : List GOcc × Bool :=
  if kd = 2 then orM (r.getD 0 []) (r.getD 1 []) else if kd = 3 then pairOfM (andF mode) (r.getD 0 []) (r.getD 1 []) else if kd = 4 then pairOfM (seqF mode) (r.getD 0 []) (r.getD 1 []) else
  if kd = 5 then spanOfM (notF mode) (r.getD 0 []) (r.getD 1 []) (r.getD 2 []) else if kd = 6 then spanOfM (eachF mode) (r.getD 0 []) (r.getD 1 []) (r.getD 2 []) else plusM n (endM l) (r.getD 0 [])
mutual
/-- what is meant -/
def meanM (mode : Int) (l : List GEv) : GEx → List GOcc × Bool
  | ⟨kd, sy, n, ks⟩ => if kd = 1 then (symFrom sy 0 l, true) else match meansM mode l ks with
    | none => ([], false)
    | some r => combM mode l kd n r
def meansM (mode : Int) (l : List GEv) : List GEx → Option (List (List GOcc))
  | [] => some []
  | x :: xs => if (meanM mode l x).2 = true then (meansM mode l xs).map fun r => (meanM mode l x).1 :: r else none
end
theorem meanM_eq (mode : Int) (l : List GEv) (x : GEx) : meanM mode l x = if x.Kind = 1 then (symFrom x.Sym 0 l, true) else match meansM mode l x.Kids with
    | none => ([], false)
    | some r => combM mode l x.Kind x.N r := by
  obtain ⟨a, b, c, d⟩ := x
  simp only [meanM]
theorem meansM_nil (mode : Int) (l : List GEv) : meansM mode l [] = some [] := by simp only [meansM]
theorem meansM_cons (mode : Int) (l : List GEv) (x : GEx) (xs : List GEx) : meansM mode l (x :: xs) = if (meanM mode l x).2 = true then (meansM mode l xs).map fun r => (meanM mode l x).1 :: r else none := by simp only [meansM]
theorem meansM_some {mode : Int} {l : List GEv} : ∀ {xs : List GEx} {r : List (List GOcc)}, meansM mode l xs = some r → r.length = xs.length ∧ ∀ i (h : i < xs.length), (meanM mode l xs[i]).2 = true ∧ r.getD i [] = (meanM mode l xs[i]).1
  | [], r, h => by
    rw [meansM_nil] at h
    cases h
    exact ⟨rfl, fun i hi => by simp at hi⟩
  | x :: xs, r, h => by
    rw [meansM_cons] at h
    split at h
    · rename_i h1
      rw [Option.map_eq_some_iff] at h
      obtain ⟨r', h2, rfl⟩ := h
      obtain ⟨a, b⟩ := meansM_some h2
      refine ⟨by simp [a], fun i hi => ?_⟩
      cases i with
      | zero => exact ⟨h1, rfl⟩
      | succ i =>
        have := b i (by simpa using hi)
        exact ⟨this.1, by simpa using this.2⟩
    · cases h
/-- what the loops over the parts give -/
def partsM (mode : Int) (l : List GEv) (acc : List (List GOcc)) (xs : List GEx) : Except (List GOcc × Bool) (List (List GOcc)) := match meansM mode l xs with
  | none => .error ([], false)
  | some r => .ok (acc ++ r)
theorem partsM_cons (mode : Int) (l : List GEv) (acc : List (List GOcc)) (x : GEx) (xs : List GEx) : partsM mode l acc (x :: xs) = if (meanM mode l x).2 = true then partsM mode l (acc ++ [(meanM mode l x).1]) xs else .error ([], false) := by
  unfold partsM
  rw [meansM_cons]
  by_cases h : (meanM mode l x).2 = true
  · rw [if_pos h, if_pos h]
    cases meansM mode l xs with
    | none => rfl
    | some r => simp
  · rw [if_neg h, if_neg h]
theorem impl_kids_loop (k : Nat) (rec' : GEx → Int → List GEv → Option (List GOcc × Bool)) (x : GEx) (mode : Int) (l : List GEv) (hx : x.Kids.length ≤ 1000000) (hr : ∀ y ∈ x.Kids, rec' y mode l = some (meanM mode l y)) :
    ∀ (d i n : Nat) (acc : List (List GOcc)), i + d = x.Kids.length → d < n → acc.length ≤ i → impl_Ex_mean.l0 k rec' x mode l n acc (i : Int) = some (partsM mode l acc (x.Kids.drop i)) := by
  intro d
  induction d with
  | zero =>
    intro i n acc hi hn ha
    obtain ⟨n, rfl⟩ : ∃ m, n = m + 1 := ⟨n - 1, by omega⟩
    rw [impl_Ex_mean.l0, if_neg (by omega), List.drop_eq_nil_of_le (by omega)]
    simp [partsM, meansM_nil]
  | succ d ih =>
    intro i n acc hi hn ha
    obtain ⟨n, rfl⟩ : ∃ m, n = m + 1 := ⟨n - 1, by omega⟩
    have h : i < x.Kids.length := by omega
    rw [impl_Ex_mean.l0, if_pos (by omega), req_pos (by omega), Int.toNat_natCast, List.getElem?_eq_getElem h, List.drop_eq_getElem_cons h, partsM_cons]
    simp only [Option.bind_some, hr _ (List.getElem_mem h)]
    by_cases c : (meanM mode l x.Kids[i]).2 = true
    · rw [if_pos c, if_pos c, req_pos (by omega), wrS i (by omega), ih (i + 1) n _ (by omega) (by omega) (by simp; omega)]
    · rw [if_neg c, if_neg c]
theorem spec_kids_loop (k : Nat) (rec' : GEx → Int → List GEv → Option (List GOcc × Bool)) (x : GEx) (mode : Int) (l : List GEv) (hx : x.Kids.length ≤ 1000000) (hr : ∀ y ∈ x.Kids, rec' y mode l = some (meanM mode l y)) :
    ∀ (d i n : Nat) (acc : List (List GOcc)), i + d = x.Kids.length → d < n → acc.length ≤ i → spec_l6Mean.l0 k rec' x mode l n acc (i : Int) = some (partsM mode l acc (x.Kids.drop i)) := by
  intro d
  induction d with
  | zero =>
    intro i n acc hi hn ha
    obtain ⟨n, rfl⟩ : ∃ m, n = m + 1 := ⟨n - 1, by omega⟩
    rw [spec_l6Mean.l0, if_neg (by omega), List.drop_eq_nil_of_le (by omega)]
    simp [partsM, meansM_nil]
  | succ d ih =>
    intro i n acc hi hn ha
    obtain ⟨n, rfl⟩ : ∃ m, n = m + 1 := ⟨n - 1, by omega⟩
    have h : i < x.Kids.length := by omega
    rw [spec_l6Mean.l0, if_pos (by omega), req_pos (by omega), Int.toNat_natCast, List.getElem?_eq_getElem h, List.drop_eq_getElem_cons h, partsM_cons]
    simp only [Option.bind_some, hr _ (List.getElem_mem h)]
    by_cases c : (meanM mode l x.Kids[i]).2 = true
    · rw [if_pos c, if_pos c, req_pos (by omega), wrS i (by omega), ih (i + 1) n _ (by omega) (by omega) (by simp; omega)]
    · rw [if_neg c, if_neg c]
theorem told_small {l : List GOcc} (h : Fews l) : Small (told l).1 := by
  unfold told
  split
  · exact small_nil
  · exact ⟨by dsimp only; omega, h⟩
theorem comb_small {mode : Int} {l : List GEv} {kd n : Int} {r : List (List GOcc)} : Small (combM mode l kd n r).1 := by
  unfold combM
  split
  · unfold orM
    split
    · rename_i h; exact told_small (fews_mergeM (fews_of_ok h.1) (fews_of_ok h.2))
    · exact small_nil
  split
  · unfold pairOfM
    split
    · rename_i h; exact told_small (pair_ok (andF_ok mode) h.1 h.2).2.1.few
    · exact small_nil
  split
  · unfold pairOfM
    split
    · rename_i h; exact told_small (pair_ok (seqF_ok mode) h.1 h.2).2.1.few
    · exact small_nil
  split
  · unfold spanOfM
    split
    · rename_i h; exact told_small (span_ok (notF_ok mode) h.1 h.2.1 h.2.2).2.1.few
    · exact small_nil
  split
  · unfold spanOfM
    split
    · rename_i h; exact told_small (span_ok (eachF_ok mode) h.1 h.2.1 h.2.2).2.1.few
    · exact small_nil
  · unfold plusM
    split
    · rename_i h; exact ⟨by have := latesM_len n (endM l) (r.getD 0 []); have := occsOk_len h.1; dsimp only; omega, lates_few (fews_of_ok h.1)⟩
    · exact small_nil
theorem symFrom_facts (sym : Int) : ∀ (l : List GEv) (i : Nat), (symFrom sym i l).length ≤ l.length ∧ ∀ o ∈ symFrom sym i l, o.Ids.length = 1
  | [], i => by simp [symFrom]
  | e :: l, i => by
    have := symFrom_facts sym l (i + 1)
    unfold symFrom
    split
    · exact ⟨by simp; omega, fun o ho => by
        rcases List.mem_cons.1 ho with rfl | h
        · rfl
        · exact this.2 o h⟩
    · exact ⟨by simp; omega, this.2⟩
theorem mean_small {mode : Int} {l : List GEv} (hl : l.length ≤ 1000000) (x : GEx) : Small (meanM mode l x).1 := by
  rw [meanM_eq]
  split
  · have := symFrom_facts x.Sym l 0
    exact ⟨by dsimp only; omega, fun o ho => by have := this.2 o ho; omega⟩
  · split
    · exact small_nil
    · exact comb_small
theorem form_kids {e : GEx} (h : exForm e = true) : exHere e = true ∧ ∀ x ∈ e.Kids, exForm x = true := by
  rw [exForm_eq, Bool.and_eq_true, exForms_all, List.all_eq_true] at h
  exact h
theorem here_kinds {e : GEx} (h : exHere e = true) : (e.Kind = 1 ∧ e.Kids.length = 0) ∨ (e.Kind = 2 ∧ e.Kids.length = 2) ∨ (e.Kind = 3 ∧ e.Kids.length = 2) ∨ (e.Kind = 4 ∧ e.Kids.length = 2) ∨ (e.Kind = 5 ∧ e.Kids.length = 3) ∨ (e.Kind = 6 ∧ e.Kids.length = 3) ∨ (e.Kind = 7 ∧ e.Kids.length = 1 ∧ 1 ≤ e.N ∧ e.N ≤ 20) := by
  unfold exHere kidsN at h
  simp only [Bool.and_eq_true, decide_eq_true_eq] at h
  obtain ⟨⟨⟨⟨h1, h2⟩, h3⟩, h4⟩, h5⟩ := h
  repeat' split at h1
  all_goals first | omega | skip
  rw [if_pos (by assumption), Bool.and_eq_true, decide_eq_true_eq, decide_eq_true_eq] at h5
  omega
theorem getD_some {α : Type} {r : List α} {d : α} {i : Nat} (h : i < r.length) : r[i]? = some (r.getD i d) := by
  rw [List.getD_eq_getElem?_getD, List.getElem?_eq_getElem h]; rfl
theorem pair_eta {α β : Type} (p : α × β) : some (p.1, p.2) = some p := rfl
theorem mean_eq (mode : Int) (hmo : 0 ≤ mode ∧ mode ≤ 4) (l : List GEv) (hl : l.length ≤ 1000000) : ∀ x : GEx, exN x ≤ 1000000 → exForm x = true → ∀ k : Nat, 1000000000000 + exN x ≤ k → impl_Ex_mean.f k x mode l = some (meanM mode l x) ∧ spec_l6Mean.f k x mode l = some (meanM mode l x) := by
  refine exInd fun x ih hn hf k hk => ?_
  obtain ⟨here, hks⟩ := form_kids hf
  rw [exN_eq] at hn hk
  obtain ⟨k, rfl⟩ : ∃ m, k = m + 1 := ⟨k - 1, by omega⟩
  have hkk : 1000000000000 ≤ k := by omega
  have hlen := exNs_len x.Kids
  have kind := here_kinds here
  have hrec : ∀ y ∈ x.Kids, impl_Ex_mean.f k y mode l = some (meanM mode l y) ∧ spec_l6Mean.f k y mode l = some (meanM mode l y) := fun y hy => by
    have := exNs_mem hy
    exact ih y hy (by omega) (hks y hy) k (by omega)
  have L1 := impl_kids_loop k (impl_Ex_mean.f k) x mode l (by omega) (fun y hy => (hrec y hy).1) x.Kids.length 0 k [] (by omega) (by omega) (by simp)
  have L2 := spec_kids_loop k (spec_l6Mean.f k) x mode l (by omega) (fun y hy => (hrec y hy).2) x.Kids.length 0 k [] (by omega) (by omega) (by simp)
  rw [show ((0 : Nat) : Int) = 0 from rfl, List.drop_zero] at L1 L2
  rw [impl_Ex_mean.f, spec_l6Mean.f, L1, L2, meanM_eq]
  simp only [Option.bind_some]
  unfold partsM
  cases hm : meansM mode l x.Kids with
  | none =>
    have h1 : x.Kind ≠ 1 := fun h1 => by
      have e : x.Kids = [] := List.length_eq_zero_iff.1 (by omega)
      rw [e, meansM_nil] at hm
      cases hm
    rw [if_neg h1, if_neg h1]
    exact ⟨rfl, rfl⟩
  | some r =>
    obtain ⟨rl, rg⟩ := meansM_some hm
    have small : ∀ i, i < x.Kids.length → Small (r.getD i []) := fun i hi => by rw [(rg i hi).2]; exact mean_small hl _
    dsimp only [List.nil_append]
    have N := now_eq l hl
    rcases kind with ⟨a, b⟩ | ⟨a, b⟩ | ⟨a, b⟩ | ⟨a, b⟩ | ⟨a, b⟩ | ⟨a, b⟩ | ⟨a, b, c⟩
    · rw [a]
      simp only [if_true, if_false, show ¬ (1 : Int) = 2 by omega, show ¬ (1 : Int) = 3 by omega, show ¬ (1 : Int) = 4 by omega, show ¬ (1 : Int) = 5 by omega, show ¬ (1 : Int) = 6 by omega, show ¬ (1 : Int) = 7 by omega]
      rw [impl_sym_eq k hkk x l hl, spec_sym_eq k hkk x.Sym l hl]
      exact ⟨rfl, rfl⟩
    · have s0 := small 0 (by omega); have s1 := small 1 (by omega)
      have g0 := getD_some (r := r) (d := []) (i := 0) (by omega); have g1 := getD_some (r := r) (d := []) (i := 1) (by omega)
      rw [a]; unfold combM
      simp only [if_true, if_false, show ¬ (2 : Int) = 1 by omega]
      rw [req_pos (by omega), req_pos (by omega), req_pos (by omega), req_pos (by omega), g0]
      simp only [Option.bind_some]
      rw [req_pos (by omega), req_pos (by omega), req_pos (by omega), req_pos (by omega), g1]
      simp only [Option.bind_some]
      rw [impl_OrOf_eq k hkk _ _ s0 s1, spec_OrOf_eq k hkk _ _ s0 s1]
      exact ⟨rfl, rfl⟩
    · have s0 := small 0 (by omega); have s1 := small 1 (by omega)
      have g0 := getD_some (r := r) (d := []) (i := 0) (by omega); have g1 := getD_some (r := r) (d := []) (i := 1) (by omega)
      rw [a]; unfold combM
      simp only [if_true, if_false, show ¬ (3 : Int) = 1 by omega, show ¬ (3 : Int) = 2 by omega]
      rw [req_pos (by omega), req_pos (by omega), req_pos (by omega), req_pos (by omega), g0]
      simp only [Option.bind_some]
      rw [req_pos (by omega), req_pos (by omega), req_pos (by omega), req_pos (by omega), g1]
      simp only [Option.bind_some]
      rw [impl_AndOf_eq k hkk mode hmo _ _ s0 s1, spec_AndOf_eq k hkk mode hmo _ _ s0 s1]
      exact ⟨rfl, rfl⟩
    · have s0 := small 0 (by omega); have s1 := small 1 (by omega)
      have g0 := getD_some (r := r) (d := []) (i := 0) (by omega); have g1 := getD_some (r := r) (d := []) (i := 1) (by omega)
      rw [a]; unfold combM
      simp only [if_true, if_false, show ¬ (4 : Int) = 1 by omega, show ¬ (4 : Int) = 2 by omega, show ¬ (4 : Int) = 3 by omega]
      rw [req_pos (by omega), req_pos (by omega), req_pos (by omega), req_pos (by omega), g0]
      simp only [Option.bind_some]
      rw [req_pos (by omega), req_pos (by omega), req_pos (by omega), req_pos (by omega), g1]
      simp only [Option.bind_some]
      rw [impl_SeqOf_eq k hkk mode hmo _ _ s0 s1, spec_SeqOf_eq k hkk mode hmo _ _ s0 s1]
      exact ⟨rfl, rfl⟩
    · have s0 := small 0 (by omega); have s1 := small 1 (by omega); have s2 := small 2 (by omega)
      have g0 := getD_some (r := r) (d := []) (i := 0) (by omega); have g1 := getD_some (r := r) (d := []) (i := 1) (by omega); have g2 := getD_some (r := r) (d := []) (i := 2) (by omega)
      rw [a]; unfold combM
      simp only [if_true, if_false, show ¬ (5 : Int) = 1 by omega, show ¬ (5 : Int) = 2 by omega, show ¬ (5 : Int) = 3 by omega, show ¬ (5 : Int) = 4 by omega]
      rw [req_pos (by omega), req_pos (by omega), req_pos (by omega), req_pos (by omega), g0]
      simp only [Option.bind_some]
      rw [req_pos (by omega), req_pos (by omega), req_pos (by omega), req_pos (by omega), g1]
      simp only [Option.bind_some]
      rw [req_pos (by omega), req_pos (by omega), req_pos (by omega), req_pos (by omega), g2]
      simp only [Option.bind_some]
      rw [impl_NotOf_eq k hkk mode hmo _ _ _ s0 s1 s2, spec_NotOf_eq k hkk mode hmo _ _ _ s0 s1 s2]
      exact ⟨rfl, rfl⟩
    · have s0 := small 0 (by omega); have s1 := small 1 (by omega); have s2 := small 2 (by omega)
      have g0 := getD_some (r := r) (d := []) (i := 0) (by omega); have g1 := getD_some (r := r) (d := []) (i := 1) (by omega); have g2 := getD_some (r := r) (d := []) (i := 2) (by omega)
      rw [a]; unfold combM
      simp only [if_true, if_false, show ¬ (6 : Int) = 1 by omega, show ¬ (6 : Int) = 2 by omega, show ¬ (6 : Int) = 3 by omega, show ¬ (6 : Int) = 4 by omega, show ¬ (6 : Int) = 5 by omega]
      rw [req_pos (by omega), req_pos (by omega), req_pos (by omega), req_pos (by omega), g0]
      simp only [Option.bind_some]
      rw [req_pos (by omega), req_pos (by omega), req_pos (by omega), req_pos (by omega), g1]
      simp only [Option.bind_some]
      rw [req_pos (by omega), req_pos (by omega), req_pos (by omega), req_pos (by omega), g2]
      simp only [Option.bind_some]
      rw [impl_EachOf_eq k hkk mode hmo _ _ _ s0 s1 s2, spec_EachOf_eq k hkk mode hmo _ _ _ s0 s1 s2]
      exact ⟨rfl, rfl⟩
    · have s0 := small 0 (by omega)
      have g0 := getD_some (r := r) (d := []) (i := 0) (by omega)
      rw [a]; unfold combM
      simp only [if_true, if_false, show ¬ (7 : Int) = 1 by omega, show ¬ (7 : Int) = 2 by omega, show ¬ (7 : Int) = 3 by omega, show ¬ (7 : Int) = 4 by omega, show ¬ (7 : Int) = 5 by omega, show ¬ (7 : Int) = 6 by omega]
      rw [req_pos (by omega), req_pos (by omega), req_pos (by omega), req_pos (by omega), g0, N.1, N.2]
      simp only [Option.bind_some]
      rw [impl_PlusOf_eq k hkk _ _ _ s0, spec_PlusOf_eq k hkk _ _ _ s0]
      exact ⟨rfl, rfl⟩
def meanOf (x : GEx) (mode : Int) (l : List GEv) : List GOcc × Bool := if exOk x = true ∧ (0 ≤ mode ∧ mode ≤ 4) ∧ evsOk l = true then meanM mode l x else ([], false)
theorem exOk_form {x : GEx} (h : exOk x = true) : exN x ≤ 12 ∧ exForm x = true := by
  unfold exOk at h
  simp only [Bool.and_eq_true, decide_eq_true_eq] at h
  exact ⟨h.1.1, h.2⟩
theorem impl_MeanOf_eq (x : GEx) (mode : Int) (l : List GEv) (hx : exN x ≤ 1048577) (hl : l.length < 4611686018427387904) : Evn (fun k => impl_MeanOf.f k x mode l) (meanOf x mode l) := by
  obtain ⟨K, he⟩ := impl_EvsOk_eq l hl
  refine ⟨K + 3 * exN x + 1000000000100, fun k hk => ?_⟩
  dsimp only
  unfold impl_MeanOf.f meanOf
  have he' : impl_EvsOk.f k l = some (evsOk l) := he k (by omega)
  rw [impl_ExOk_k x hx k (by omega), he', (isMode_eq mode).1]
  simp only [Option.bind_some]
  by_cases h1 : exOk x = true
  · rw [if_pos h1]
    by_cases h2 : 0 ≤ mode ∧ mode ≤ 4
    · rw [if_pos (by simp [h2])]
      by_cases h3 : evsOk l = true
      · have hf := exOk_form h1
        have := evsOk_len h3
        rw [if_pos h3, if_pos ⟨h1, h2, h3⟩, (mean_eq mode h2 l (by omega) x (by omega) hf.2 k (by omega)).1]
        rfl
      · rw [if_neg h3, if_neg (fun h => h3 h.2.2)]
    · rw [if_neg (by simpa using h2), if_neg (fun h => h2 h.2.1)]
  · rw [if_neg h1, if_neg (fun h => h1 h.1)]
theorem spec_MeanOf_eq (x : GEx) (mode : Int) (l : List GEv) (hx : exN x ≤ 1048577) (hl : l.length < 4611686018427387904) : Evn (fun k => spec_MeanOf.f k x mode l) (meanOf x mode l) := by
  obtain ⟨K, he⟩ := spec_EvsOk_eq l hl
  refine ⟨K + 3 * exN x + 1000000000100, fun k hk => ?_⟩
  dsimp only
  unfold spec_MeanOf.f meanOf
  have he' : spec_EvsOk.f k l = some (evsOk l) := he k (by omega)
  rw [spec_ExOk_k x hx k (by omega), he', (isMode_eq mode).2]
  simp only [Option.bind_some]
  by_cases h1 : exOk x = true
  · rw [if_pos h1]
    by_cases h2 : 0 ≤ mode ∧ mode ≤ 4
    · rw [if_pos (by simp [h2])]
      by_cases h3 : evsOk l = true
      · have hf := exOk_form h1
        have := evsOk_len h3
        rw [if_pos h3, if_pos ⟨h1, h2, h3⟩, (mean_eq mode h2 l (by omega) x (by omega) hf.2 k (by omega)).2]
        rfl
      · rw [if_neg h3, if_neg (fun h => h3 h.2.2)]
    · rw [if_neg (by simpa using h2), if_neg (fun h => h2 h.2.1)]
  · rw [if_neg h1, if_neg (fun h => h1 h.1)]
/- What holds of all that is paired, if joining keeps it. -/
def All (Q : GOcc → Prop) (l : List GOcc) : Prop := ∀ x ∈ l, Q x
def Joins (Q : GOcc → Prop) : Prop := ∀ a b, Q a → Q b → Q (joinM a b)
theorem All.nil {Q : GOcc → Prop} : All Q [] := fun x hx => by simp at hx
theorem All.filter {Q : GOcc → Prop} {l : List GOcc} (h : All Q l) (p : GOcc → Bool) : All Q (l.filter p) := fun x hx => h x (List.mem_filter.1 hx).1
theorem All.merge {Q : GOcc → Prop} {l m : List GOcc} (h : All Q l) (hm : All Q m) : All Q (mergeM l m) := fun x hx => by
  rcases mem_mergeM.1 hx with h1 | h1
  · exact h x h1
  · exact hm x h1
theorem All.put {Q : GOcc → Prop} {l : List GOcc} {o : GOcc} (h : All Q l) (ho : Q o) : All Q (putM l o) := fun x hx => by
  rcases mem_putM.1 hx with h1 | rfl
  · exact h x h1
  · exact ho
theorem All.rem {Q : GOcc → Prop} {l g : List GOcc} (h : All Q l) : All Q (remM l g) := h.filter _
theorem All.sum {Q : GOcc → Prop} (hj : Joins Q) : ∀ {l : List GOcc} {o : GOcc}, All Q l → Q o → Q (sumM o l)
  | [], o, _, ho => ho
  | x :: l, o, h, ho => All.sum hj (l := l) (o := joinM o x) (fun y hy => h y (by simp [hy])) (hj _ _ ho (h x (by simp)))
theorem All.eachs {Q : GOcc → Prop} (hj : Joins Q) {o : GOcc} (ho : Q o) : ∀ (l acc : List GOcc), All Q l → All Q acc → All Q (l.foldl (fun s e => putM s (joinM o e)) acc)
  | [], acc, _, ha => ha
  | x :: l, acc, h, ha => All.eachs hj ho l _ (fun y hy => h y (by simp [hy])) (ha.put (hj _ _ ho (h x (by simp))))
theorem All.found {Q : GOcc → Prop} (hj : Joins Q) {mode : Int} {o : GOcc} {l : List GOcc} (h : All Q l) (ho : Q o) : All Q (foundM mode o l) := by
  have one : ∀ x : GOcc, Q x → All Q [x] := fun x hx y hy => by rw [List.mem_singleton.1 hy]; exact hx
  unfold foundM
  by_cases h0 : l.length = 0
  · rw [if_pos h0]; exact All.nil
  rw [if_neg h0]
  split
  · exact one _ (hj _ _ ho (by rw [List.getElem?_eq_getElem (show l.length - 1 < l.length by omega)]; exact h _ (List.getElem_mem _)))
  split
  · exact one _ (hj _ _ ho (by rw [List.getElem?_eq_getElem (show 0 < l.length by omega)]; exact h _ (List.getElem_mem _)))
  split
  · exact one _ (All.sum hj h ho)
  · exact All.eachs hj ho l [] h All.nil
theorem All.one {Q : GOcc → Prop} (hj : Joins Q) {mode : Int} {p : GOcc → GOcc → Bool} {s : List GOcc × List GOcc} {o : GOcc} (h1 : All Q s.1) (h2 : All Q s.2) (ho : Q o) : All Q (oneM mode p s o).1 ∧ All Q (oneM mode p s o).2 :=
  ⟨h1.rem, h2.merge ((h1.filter _).found hj ho)⟩
theorem All.ones {Q : GOcc → Prop} (hj : Joins Q) {mode : Int} {p : GOcc → GOcc → Bool} : ∀ (r : List GOcc) {s : List GOcc × List GOcc}, All Q r → All Q s.1 → All Q s.2 → All Q (r.foldl (oneM mode p) s).1 ∧ All Q (r.foldl (oneM mode p) s).2
  | [], s, _, h1, h2 => ⟨h1, h2⟩
  | o :: r, s, hr, h1, h2 => by
    obtain ⟨a, b⟩ := All.one hj (mode := mode) (p := p) h1 h2 (hr o (by simp))
    exact All.ones hj r (s := oneM mode p s o) (fun y hy => hr y (by simp [hy])) a b
theorem All.store {Q : GOcc → Prop} {mode : Int} {own : List GOcc} {o : GOcc} {alone : Bool} (h : All Q own) (ho : Q o) : All Q (storeM mode own o alone) := by
  unfold storeM
  split
  · exact fun y hy => by rw [List.mem_singleton.1 hy]; exact ho
  split
  · exact h.put ho
  split
  · exact h.put ho
  · exact h
def All3 (Q : GOcc → Prop) (s : List GOcc × List GOcc × List GOcc) : Prop := All Q s.1 ∧ All Q s.2.1 ∧ All Q s.2.2
theorem All3.half {Q : GOcc → Prop} (hj : Joins Q) {mode : Int} {s : List GOcc × List GOcc × List GOcc} {o : GOcc} (h : All3 Q s) (ho : Q o) : All3 Q (halfM mode s o) := ⟨h.1.store ho, h.2.1.rem, h.2.2.merge (h.2.1.found hj ho)⟩
theorem All3.other {Q : GOcc → Prop} (hj : Joins Q) {mode : Int} {s : List GOcc × List GOcc × List GOcc} {o : GOcc} (h : All3 Q s) (ho : Q o) : All3 Q (otherM mode s o) := by
  have := All3.half hj (mode := mode) (s := (s.2.1, s.1, s.2.2)) ⟨h.2.1, h.1, h.2.2⟩ ho
  exact ⟨this.2.1, this.1, this.2.2⟩
theorem all_fold {α σ : Type} (P : σ → Prop) (g : σ → α → σ) : ∀ (l : List α) (s : σ), (∀ s, ∀ x ∈ l, P s → P (g s x)) → P s → P (l.foldl g s)
  | [], s, _, h => h
  | x :: l, s, hs, h => all_fold P g l (g s x) (fun s y hy => hs s y (by simp [hy])) (hs s x (by simp) h)
/-- a step keeps Q -/
def Keeps (Q : GOcc → Prop) (f : Two → List GOcc → List GOcc → Two × List GOcc) : Prop := ∀ (p : Two) (l r : List GOcc), All Q p.1 → All Q p.2 → All Q l → All Q r → All Q (f p l r).1.1 ∧ All Q (f p l r).1.2 ∧ All Q (f p l r).2
def Keeps3 (Q : GOcc → Prop) (f : Two → List GOcc → List GOcc → List GOcc → Two × List GOcc) : Prop := ∀ (p : Two) (a b c : List GOcc), All Q p.1 → All Q p.2 → All Q a → All Q b → All Q c → All Q (f p a b c).1.1 ∧ All Q (f p a b c).1.2 ∧ All Q (f p a b c).2
theorem keeps_seq {Q : GOcc → Prop} (hj : Joins Q) (mode : Int) : Keeps Q (seqF mode) := fun p l r h1 h2 hl hr => by
  obtain ⟨a, b⟩ := All.ones hj (mode := mode) (p := before) r (s := (p.1, [])) hr h1 All.nil
  exact ⟨a.merge hl, h2, b⟩
theorem keeps_and {Q : GOcc → Prop} (hj : Joins Q) (mode : Int) : Keeps Q (andF mode) := fun p l r h1 h2 hl hr => by
  have a := all_fold (All3 Q) (halfM mode) l (p.1, p.2, []) (fun s x hx h => h.half hj (hl x hx)) ⟨h1, h2, All.nil⟩
  have b := all_fold (All3 Q) (otherM mode) r _ (fun s x hx h => h.other hj (hr x hx)) a
  exact ⟨b.1, b.2.1, b.2.2⟩
theorem keeps_not {Q : GOcc → Prop} (hj : Joins Q) (mode : Int) : Keeps3 Q (notF mode) := fun p a b c h1 h2 ha hb hc => by
  obtain ⟨x, y⟩ := All.ones hj (mode := mode) (p := openM p.2) c (s := (p.1, [])) hc h1 All.nil
  exact ⟨x.merge ha, h2.merge hb, y⟩
theorem keeps_each {Q : GOcc → Prop} (hj : Joins Q) (mode : Int) : Keeps3 Q (eachF mode) := fun p a b c h1 h2 ha hb hc =>
  ⟨h1.merge ha, h2.merge hc, all_fold (All Q) _ b [] (fun s x hx h => h.merge ((h1.filter _).found hj (hb x hx))) All.nil⟩
def AllRun (Q : GOcc → Prop) (s : Two × List GOcc) : Prop := All Q s.1.1 ∧ All Q s.1.2 ∧ All Q s.2
theorem all_pair {Q : GOcc → Prop} {f : Two → List GOcc → List GOcc → Two × List GOcc} (hf : Keeps Q f) {a b : List GOcc} (ha : All Q a) (hb : All Q b) : All Q (pairM f a b) :=
  (all_fold (AllRun Q) _ (timesM [a, b]) (([], []), []) (fun s t _ h => by
    obtain ⟨x, y, z⟩ := hf s.1 (atM a t) (atM b t) h.1 h.2.1 (ha.filter _) (hb.filter _)
    exact ⟨x, y, h.2.2.merge z⟩) ⟨All.nil, All.nil, All.nil⟩).2.2
theorem all_span {Q : GOcc → Prop} {f : Two → List GOcc → List GOcc → List GOcc → Two × List GOcc} (hf : Keeps3 Q f) {a b c : List GOcc} (ha : All Q a) (hb : All Q b) (hc : All Q c) : All Q (spanM f a b c) :=
  (all_fold (AllRun Q) _ (timesM [a, b, c]) (([], []), []) (fun s t _ h => by
    obtain ⟨x, y, z⟩ := hf s.1 (atM a t) (atM b t) (atM c t) h.1 h.2.1 (ha.filter _) (hb.filter _) (hc.filter _)
    exact ⟨x, y, h.2.2.merge z⟩) ⟨All.nil, All.nil, All.nil⟩).2.2
theorem all_told {Q : GOcc → Prop} {l : List GOcc} (h : All Q l) : All Q (told l).1 := by
  unfold told
  split
  · exact All.nil
  · exact h
mutual
/-- the letters that are named -/
def symsOf : GEx → List Int
  | ⟨kd, sy, _, ks⟩ => if kd = 1 then [sy] else symsOfs ks
def symsOfs : List GEx → List Int
  | [] => []
  | x :: xs => symsOf x ++ symsOfs xs
end
theorem symsOf_eq (x : GEx) : symsOf x = if x.Kind = 1 then [x.Sym] else symsOfs x.Kids := by cases x; simp only [symsOf]
theorem symsOfs_mem {x : GEx} {s : Int} : ∀ {l : List GEx}, x ∈ l → s ∈ symsOf x → s ∈ symsOfs l
  | y :: l, hx, hs => by
    simp only [symsOfs, List.mem_append]
    rcases List.mem_cons.1 hx with rfl | hx
    · exact .inl hs
    · exact .inr (symsOfs_mem hx hs)
/-- what holds of events, is kept by joining, and by delays up to the last event, holds of all that is meant -/
theorem all_mean {Q : GOcc → Prop} (hj : Joins Q) {mode : Int} {l : List GEv} : ∀ x : GEx, exForm x = true →
    (∀ s ∈ symsOf x, All Q (symFrom s 0 l)) → (∀ n o, 1 ≤ n → Q o → inTime n (endM l) o = true → Q (latM n o)) → All Q (meanM mode l x).1 := by
  refine exInd fun x ih hf hs hp => ?_
  obtain ⟨here, hks⟩ := form_kids hf
  have kind := here_kinds here
  rw [meanM_eq]
  rw [symsOf_eq] at hs
  split
  · rename_i h1
    rw [if_pos h1] at hs
    exact hs _ (by simp)
  rename_i h1
  rw [if_neg h1] at hs
  cases hm : meansM mode l x.Kids with
  | none => exact All.nil
  | some r =>
    obtain ⟨rl, rg⟩ := meansM_some hm
    have q : ∀ i, i < x.Kids.length → All Q (r.getD i []) := fun i hi => by
      rw [(rg i hi).2]; exact ih _ (List.getElem_mem hi) (hks _ (List.getElem_mem hi)) (fun s h => hs s (symsOfs_mem (List.getElem_mem hi) h)) hp
    dsimp only
    unfold combM
    split
    · unfold orM
      split
      · exact all_told ((q 0 (by omega)).merge (q 1 (by omega)))
      · exact All.nil
    split
    · unfold pairOfM
      split
      · exact all_told (all_pair (keeps_and hj mode) (q 0 (by omega)) (q 1 (by omega)))
      · exact All.nil
    split
    · unfold pairOfM
      split
      · exact all_told (all_pair (keeps_seq hj mode) (q 0 (by omega)) (q 1 (by omega)))
      · exact All.nil
    split
    · unfold spanOfM
      split
      · exact all_told (all_span (keeps_not hj mode) (q 0 (by omega)) (q 1 (by omega)) (q 2 (by omega)))
      · exact All.nil
    split
    · unfold spanOfM
      split
      · exact all_told (all_span (keeps_each hj mode) (q 0 (by omega)) (q 1 (by omega)) (q 2 (by omega)))
      · exact All.nil
    · unfold plusM
      split
      · rename_i hn
        intro y hy
        unfold latesM at hy
        obtain ⟨o, ho, rfl⟩ := List.mem_map.1 hy
        obtain ⟨h1, h2⟩ := List.mem_filter.1 ho
        exact hp _ _ hn.2.1 (q 0 (by omega) o h1) h2
      · exact All.nil
/- What is meant is right: in order, few, of right occurrences, none behind the last event. -/
theorem idsUp_of : ∀ {l : List Int} {p : Int}, Up l → (∀ x ∈ l, p < x ∧ x ≤ 23) → idsUp p l = true
  | [], _, _, _ => rfl
  | x :: l, p, hu, h => by
    have hu' := List.pairwise_cons.1 hu
    have := h x (by simp)
    simp only [idsUp, Bool.and_eq_true, decide_eq_true_eq]
    exact ⟨this, idsUp_of hu'.2 fun y hy => ⟨hu'.1 y hy, (h y (by simp [hy])).2⟩⟩
theorem occOk_iff (o : GOcc) : occOk o = true ↔ 1 ≤ o.From ∧ o.From ≤ o.To ∧ o.To ≤ 2000 ∧ 1 ≤ o.Ids.length ∧ IdsOk o.Ids := by
  unfold occOk
  simp only [Bool.and_eq_true, decide_eq_true_eq]
  constructor
  · rintro ⟨⟨⟨⟨a, b⟩, c⟩, d⟩, e⟩
    exact ⟨a, b, c, d, idsOk_of e⟩
  · rintro ⟨a, b, c, d, e⟩
    exact ⟨⟨⟨⟨a, b⟩, c⟩, d⟩, idsUp_of e.1 fun x hx => by have := e.2 x hx; omega⟩
theorem occsOk_of {l : List GOcc} (h1 : All (fun o => occOk o = true) l) (h2 : Asc l) (h3 : l.length ≤ 40) : occsOk l = true := by
  unfold occsOk
  simp only [Bool.and_eq_true, List.all_eq_true, List.mem_range', decide_eq_true_eq]
  refine ⟨?_, h3⟩
  rintro i ⟨j, hj, rfl⟩
  rw [show 0 + 1 * j = j by omega]
  unfold occGood
  rw [List.getElem?_eq_getElem hj]
  simp only [Bool.and_eq_true]
  refine ⟨h1 _ (List.getElem_mem hj), ?_⟩
  cases j with
  | zero => rfl
  | succ j =>
    simp only [occPrev, List.getElem?_eq_getElem (show j < l.length by omega)]
    exact List.pairwise_iff_getElem.1 h2 _ _ _ _ (by omega)
/-- right, and not behind T -/
def Good (T : Int) (o : GOcc) : Prop := occOk o = true ∧ o.To ≤ T
theorem union_pos {a b : List Int} (h : 1 ≤ a.length) : 1 ≤ (unionM a b).length := by
  cases a with
  | nil => simp at h
  | cons x a => exact List.length_pos_of_mem (mem_unionM.2 (.inl (by simp : x ∈ x :: a)))
theorem good_join (T : Int) : Joins (Good T) := fun a b ha hb => by
  obtain ⟨a0, a5⟩ := ha
  obtain ⟨b0, b5⟩ := hb
  obtain ⟨a1, a2, a3, a4, a6⟩ := (occOk_iff a).1 a0
  obtain ⟨b1, b2, b3, b4, b6⟩ := (occOk_iff b).1 b0
  refine ⟨(occOk_iff _).2 ⟨?_, ?_, ?_, union_pos a4, idsOk_union a6 b6⟩, ?_⟩ <;> simp only [joinM] <;> omega
/-- events that rise in time -/
def EvsUp (l : List GEv) : Prop := l.Pairwise (fun a b => a.At < b.At) ∧ (∀ e ∈ l, 1 ≤ e.At ∧ e.At ≤ 1000) ∧ l.length ≤ 24
theorem evsUp_of {l : List GEv} (h : evsOk l = true) : EvsUp l := by
  have h24 := evsOk_len h
  refine ⟨?_, fun e he => by have := evsOk_ok h he; unfold evOk at this; simp only [Bool.and_eq_true, decide_eq_true_eq] at this; omega, h24⟩
  unfold evsOk at h
  simp only [Bool.and_eq_true, List.all_eq_true, List.mem_range', decide_eq_true_eq] at h
  have step : ∀ i (hi : i + 1 < l.length), l[i].At < l[i + 1].At := fun i hi => by
    have := h.1 (i + 1) ⟨i + 1, by omega, by omega⟩
    unfold evGood at this
    rw [List.getElem?_eq_getElem hi] at this
    simp only [Bool.and_eq_true, prevOk, List.getElem?_eq_getElem (show i < l.length by omega), decide_eq_true_eq] at this
    exact this.2
  have far : ∀ d i (hi : i + d + 1 < l.length), l[i].At < l[i + d + 1].At := fun d => by
    induction d with
    | zero => intro i hi; exact step i hi
    | succ d ih => intro i hi; have := ih i (by omega); have := step (i + d + 1) hi; simp only [show i + (d + 1) + 1 = i + d + 1 + 1 by omega]; omega
  refine List.pairwise_iff_getElem.2 fun i j hi hj hij => ?_
  have := far (j - i - 1) i (by omega)
  have e : i + (j - i - 1) + 1 = j := by omega
  simp only [e] at this
  exact this
theorem endM_ge {l : List GEv} (h : EvsUp l) : ∀ e ∈ l, e.At ≤ endM l := fun e he => by
  unfold endM
  obtain ⟨i, hi, rfl⟩ := List.mem_iff_getElem.1 he
  rw [List.getLast?_eq_getElem?, List.getElem?_eq_getElem (show l.length - 1 < l.length by omega)]
  dsimp only
  rcases Nat.lt_or_ge i (l.length - 1) with h1 | h1
  · have := List.pairwise_iff_getElem.1 h.1 i (l.length - 1) (by omega) (by omega) h1; omega
  · have e : i = l.length - 1 := by omega
    simp only [e]; omega
theorem endM_le {l : List GEv} (h : EvsUp l) : endM l ≤ 1000 := by
  unfold endM
  split
  · rename_i e he
    have := h.2.1 e (List.mem_of_getLast? he)
    omega
  · omega
theorem mem_symFrom {sym : Int} {o : GOcc} : ∀ {l : List GEv} {i : Nat}, o ∈ symFrom sym i l → ∃ j e, l[j]? = some e ∧ e.Sym = sym ∧ o = ⟨e.At, e.At, [((i + j : Nat) : Int)]⟩
  | [], i, h => by simp [symFrom] at h
  | e :: l, i, h => by
    unfold symFrom at h
    have step : o ∈ symFrom sym (i + 1) l → ∃ j e', (e :: l)[j]? = some e' ∧ e'.Sym = sym ∧ o = ⟨e'.At, e'.At, [((i + j : Nat) : Int)]⟩ := fun h => by
      obtain ⟨j, e', h1, h2, h3⟩ := mem_symFrom h
      exact ⟨j + 1, e', by simpa using h1, h2, by rw [h3, show i + 1 + j = i + (j + 1) by omega]⟩
    split at h
    · rcases List.mem_cons.1 h with h1 | h1
      · rename_i hs
        exact ⟨0, e, rfl, hs, by rw [h1]; rfl⟩
      · exact step h1
    · exact step h
theorem asc_symFrom {sym : Int} : ∀ {l : List GEv} {i : Nat}, l.Pairwise (fun a b => a.At < b.At) → Asc (symFrom sym i l)
  | [], i, _ => by simp [symFrom, Asc]
  | e :: l, i, h => by
    have h' := List.pairwise_cons.1 h
    unfold symFrom
    split
    · refine List.pairwise_cons.2 ⟨fun o ho => ?_, asc_symFrom h'.2⟩
      obtain ⟨j, e', h1, h2, rfl⟩ := mem_symFrom ho
      have := h'.1 e' (List.mem_of_getElem? h1)
      rw [occLess_iff]
      exact .inl this
    · exact asc_symFrom h'.2
theorem sym_good {l : List GEv} (h : EvsUp l) (sym : Int) : All (Good (endM l)) (symFrom sym 0 l) := fun o ho => by
  obtain ⟨j, e, h1, h2, rfl⟩ := mem_symFrom ho
  have hm := List.mem_of_getElem? h1
  have := h.2.1 e hm
  have := endM_ge h e hm
  have hj : j < l.length := by
    rcases Nat.lt_or_ge j l.length with q | q
    · exact q
    · rw [List.getElem?_eq_none q] at h1; cases h1
  have := h.2.2
  refine ⟨(occOk_iff _).2 ⟨by dsimp only; omega, by dsimp only; omega, by dsimp only; omega, by simp, ⟨by simp [Up], fun x hx => ?_⟩⟩, by dsimp only; omega⟩
  have := List.mem_singleton.1 hx
  omega
theorem asc_told {l : List GOcc} (h : Asc l) : Asc (told l).1 ∧ (told l).1.length ≤ 40 := by
  unfold told
  split
  · exact ⟨by simp [Asc], by simp⟩
  · exact ⟨h, by dsimp only; omega⟩
theorem mean_good {mode : Int} {l : List GEv} (h : EvsUp l) (x : GEx) (hf : exForm x = true) : All (Good (endM l)) (meanM mode l x).1 :=
  all_mean (good_join _) x hf (fun s _ => sym_good h s) fun n o hn ho hi => by
    unfold inTime at hi
    simp only [Bool.and_eq_true, decide_eq_true_eq] at hi
    obtain ⟨a1, a2, a3, a4, a5⟩ := (occOk_iff o).1 ho.1
    exact ⟨(occOk_iff _).2 ⟨by simp only [latM]; omega, by simp only [latM]; omega, by simp only [latM]; omega, by simpa only [latM] using a4, by simpa only [latM] using a5⟩, by simp only [latM]; omega⟩
theorem mean_asc {mode : Int} {l : List GEv} (h : EvsUp l) (x : GEx) (hf : exForm x = true) : Asc (meanM mode l x).1 ∧ (meanM mode l x).1.length ≤ 40 := by
  have nil : Asc ([] : List GOcc) ∧ ([] : List GOcc).length ≤ 40 := ⟨by simp [Asc], by simp⟩
  rw [meanM_eq]
  split
  · exact ⟨asc_symFrom h.1, by have := (symFrom_facts x.Sym l 0).1; have := h.2.2; dsimp only; omega⟩
  split
  · exact nil
  unfold combM
  split
  · unfold orM
    split
    · rename_i hh; exact asc_told (asc_mergeM (asc_of_ok hh.1))
    · exact nil
  split
  · unfold pairOfM
    split
    · rename_i hh; exact asc_told (pair_ok (andF_ok mode) hh.1 hh.2).1
    · exact nil
  split
  · unfold pairOfM
    split
    · rename_i hh; exact asc_told (pair_ok (seqF_ok mode) hh.1 hh.2).1
    · exact nil
  split
  · unfold spanOfM
    split
    · rename_i hh; exact asc_told (span_ok (notF_ok mode) hh.1 hh.2.1 hh.2.2).1
    · exact nil
  split
  · unfold spanOfM
    split
    · rename_i hh; exact asc_told (span_ok (eachF_ok mode) hh.1 hh.2.1 hh.2.2).1
    · exact nil
  · unfold plusM
    split
    · rename_i hh; exact ⟨asc_lates (asc_of_ok hh.1), Nat.le_trans (latesM_len _ _ _) (occsOk_len hh.1)⟩
    · exact nil
theorem mean_ok {mode : Int} {l : List GEv} (h : EvsUp l) (x : GEx) (hf : exForm x = true) : occsOk (meanM mode l x).1 = true := by
  obtain ⟨a, b⟩ := mean_asc (mode := mode) h x hf
  exact occsOk_of (fun o ho => (mean_good h x hf o ho).1) a b
theorem meanOf_ok (x : GEx) (mode : Int) (l : List GEv) : occsOk (meanOf x mode l).1 = true := by
  unfold meanOf
  split
  · rename_i h
    exact mean_ok (evsUp_of h.2.2) x (exOk_form h.1).2
  · exact occsOk_nil
/- What is meant, for all large bounds: both programs. -/
theorem spec_EvsOk_k (k : Nat) (hk : 1000000000000 ≤ k) (l : List GEv) (hl : l.length ≤ 1000000) : spec_EvsOk.f k l = some (evsOk l) := by
  unfold spec_EvsOk.f evsOk
  by_cases h : 24 < (l.length : Int)
  · rw [if_pos h]; have : ¬ l.length ≤ 24 := by omega
    simp [this]
  · rw [if_neg h]
    have := spec_EvsOk_loop k l (by omega) l.length k 0 (by omega) (by omega)
    rw [show ((0 : Nat) : Int) = 0 from rfl] at this
    rw [this]
    have h' : l.length ≤ 24 := by omega
    cases (List.range' 0 l.length).all (evGood l) <;> simp [h']
theorem impl_EvsOk_k (k : Nat) (hk : 1000000000000 ≤ k) (l : List GEv) (hl : l.length ≤ 1000000) : impl_EvsOk.f k l = some (evsOk l) := by
  unfold impl_EvsOk.f evsOk
  have := impl_EvsOk_loop k l (by omega) l.length k 0 (by omega) (by omega)
  rw [show ((0 : Nat) : Int) = 0 from rfl] at this
  rw [this]
  cases (List.range' 0 l.length).all (evGood l)
  · simp
  · simp only [if_true, Option.bind_some, Bool.true_and, Option.some.injEq]
    by_cases h : l.length ≤ 24
    · have : ¬ (24 : Int) < l.length := by omega
      simp [h, this]
    · have : (24 : Int) < l.length := by omega
      simp [h, this]
theorem impl_MeanOf_k (k : Nat) (hk : 2000000000000 ≤ k) (x : GEx) (mode : Int) (l : List GEv) (hx : exN x ≤ 1000000) (hl : l.length ≤ 1000000) : impl_MeanOf.f k x mode l = some (meanOf x mode l) := by
  unfold impl_MeanOf.f meanOf
  rw [impl_ExOk_k x (by omega) k (by omega), impl_EvsOk_k k (by omega) l hl, (isMode_eq mode).1]
  simp only [Option.bind_some]
  by_cases h1 : exOk x = true
  · rw [if_pos h1]
    by_cases h2 : 0 ≤ mode ∧ mode ≤ 4
    · rw [if_pos (by simp [h2])]
      by_cases h3 : evsOk l = true
      · have hf := exOk_form h1
        rw [if_pos h3, if_pos ⟨h1, h2, h3⟩, (mean_eq mode h2 l (by omega) x (by omega) hf.2 k (by omega)).1]
        rfl
      · rw [if_neg h3, if_neg (fun h => h3 h.2.2)]
    · rw [if_neg (by simpa using h2), if_neg (fun h => h2 h.2.1)]
  · rw [if_neg h1, if_neg (fun h => h1 h.1)]
theorem spec_MeanOf_k (k : Nat) (hk : 2000000000000 ≤ k) (x : GEx) (mode : Int) (l : List GEv) (hx : exN x ≤ 1000000) (hl : l.length ≤ 1000000) : spec_MeanOf.f k x mode l = some (meanOf x mode l) := by
  unfold spec_MeanOf.f meanOf
  rw [spec_ExOk_k x (by omega) k (by omega), spec_EvsOk_k k (by omega) l hl, (isMode_eq mode).2]
  simp only [Option.bind_some]
  by_cases h1 : exOk x = true
  · rw [if_pos h1]
    by_cases h2 : 0 ≤ mode ∧ mode ≤ 4
    · rw [if_pos (by simp [h2])]
      by_cases h3 : evsOk l = true
      · have hf := exOk_form h1
        rw [if_pos h3, if_pos ⟨h1, h2, h3⟩, (mean_eq mode h2 l (by omega) x (by omega) hf.2 k (by omega)).2]
        rfl
      · rw [if_neg h3, if_neg (fun h => h3 h.2.2)]
    · rw [if_neg (by simpa using h2), if_neg (fun h => h2 h.2.1)]
  · rw [if_neg h1, if_neg (fun h => h1 h.1)]
/- What stands in a list already; what an alternative means. -/
theorem putM_mem {o : GOcc} : ∀ {l : List GOcc}, Asc l → o ∈ l → putM l o = l
  | y :: l, h, ho => by
    have h' := List.pairwise_cons.1 h
    unfold putM
    by_cases c : occLess y o = true
    · rw [if_pos c]
      rcases List.mem_cons.1 ho with rfl | h2
      · rw [occLess_irrefl] at c; cases c
      · rw [putM_mem h'.2 h2]
    · rw [if_neg c]
      rcases List.mem_cons.1 ho with rfl | h2
      · rw [if_pos (occCmp_refl _)]
      · exact absurd (h'.1 o h2) c
theorem mergeM_mem {l : List GOcc} (h : Asc l) : ∀ {m : List GOcc}, (∀ x ∈ m, x ∈ l) → mergeM l m = l
  | [], _ => rfl
  | x :: m, hm => by rw [mergeM_cons, putM_mem h (hm x (by simp)), mergeM_mem h fun y hy => hm y (by simp [hy])]
theorem told_ok {l : List GOcc} (h : occsOk l = true) : told l = (l, true) := by
  unfold told
  rw [if_neg (by have := occsOk_len h; omega)]
theorem orM_self {l : List GOcc} (h : occsOk l = true) : orM l l = (l, true) := by
  unfold orM
  rw [if_pos ⟨h, h⟩, mergeM_mem (asc_of_ok h) fun x hx => hx, told_ok h]
theorem meanOf_true {x : GEx} {mode : Int} {l : List GEv} (h : (meanOf x mode l).2 = true) : exOk x = true ∧ (0 ≤ mode ∧ mode ≤ 4) ∧ evsOk l = true ∧ meanOf x mode l = meanM mode l x := by
  unfold meanOf at h ⊢
  split at h
  · rename_i c
    exact ⟨c.1, c.2.1, c.2.2, by rw [if_pos c]⟩
  · cases h
theorem meanOf_pos {x : GEx} {mode : Int} {l : List GEv} (h1 : exOk x = true) (h2 : 0 ≤ mode ∧ mode ≤ 4) (h3 : evsOk l = true) : meanOf x mode l = meanM mode l x := by
  unfold meanOf; rw [if_pos ⟨h1, h2, h3⟩]
/-- two parts, both told -/
theorem mean_two {mode : Int} {l : List GEv} {x y : GEx} (kd s n : Int) (hk : kd ≠ 1) (hx : (meanM mode l x).2 = true) (hy : (meanM mode l y).2 = true) : meanM mode l ⟨kd, s, n, [x, y]⟩ = combM mode l kd n [(meanM mode l x).1, (meanM mode l y).1] := by
  rw [meanM_eq]
  dsimp only
  rw [if_neg hk, meansM_cons, if_pos hx, meansM_cons, if_pos hy, meansM_nil]
  rfl
theorem mean_two_true {mode : Int} {l : List GEv} {x y : GEx} {kd s n : Int} (hk : kd ≠ 1) (h : (meanM mode l ⟨kd, s, n, [x, y]⟩).2 = true) : (meanM mode l x).2 = true ∧ (meanM mode l y).2 = true := by
  rw [meanM_eq] at h
  dsimp only at h
  rw [if_neg hk, meansM_cons] at h
  by_cases hx : (meanM mode l x).2 = true
  · rw [if_pos hx, meansM_cons] at h
    by_cases hy : (meanM mode l y).2 = true
    · exact ⟨hx, hy⟩
    · rw [if_neg hy] at h; cases h
  · rw [if_neg hx] at h; cases h
theorem mean_one {mode : Int} {l : List GEv} {x : GEx} (kd s n : Int) (hk : kd ≠ 1) (hx : (meanM mode l x).2 = true) : meanM mode l ⟨kd, s, n, [x]⟩ = combM mode l kd n [(meanM mode l x).1] := by
  rw [meanM_eq]
  dsimp only
  rw [if_neg hk, meansM_cons, if_pos hx, meansM_nil]
  rfl
/- Two letters, one behind the other: how many ways there are. -/
theorem symFrom_append (sym : Int) : ∀ (l m : List GEv) (i : Nat), symFrom sym i (l ++ m) = symFrom sym i l ++ symFrom sym (i + l.length) m
  | [], m, i => by simp [symFrom]
  | e :: l, m, i => by
    rw [List.cons_append, symFrom, symFrom, symFrom_append sym l m (i + 1), List.length_cons, show i + 1 + l.length = i + (l.length + 1) by omega]
    split <;> rfl
theorem symFrom_one (sym : Int) (i : Nat) (e : GEv) : symFrom sym i [e] = if e.Sym = sym then [⟨e.At, e.At, [(i : Int)]⟩] else [] := by
  rw [symFrom, symFrom]
/-- what is found at the time of the event at place i -/
theorem atM_sym {l : List GEv} (h : EvsUp l) (sym : Int) (i : Nat) (hi : i < l.length) : atM (symFrom sym 0 l) l[i].At = symFrom sym i [l[i]] := by
  have e : l = l.take i ++ ([l[i]] ++ l.drop (i + 1)) := by
    rw [List.singleton_append, ← List.drop_eq_getElem_cons hi, List.take_append_drop]
  have none : ∀ (m : List GEv) (j : Nat), (∀ x ∈ m, x.At ≠ l[i].At) → atM (symFrom sym j m) l[i].At = [] := fun m j hm => by
    unfold atM
    rw [List.filter_eq_nil_iff]
    intro o ho
    obtain ⟨q, x, h1, h2, rfl⟩ := mem_symFrom ho
    have := hm x (List.mem_of_getElem? h1)
    simpa using this
  have lt : ∀ a b (ha : a < l.length) (hb : b < l.length), a < b → l[a].At < l[b].At := fun a b ha hb hab => List.pairwise_iff_getElem.1 h.1 a b ha hb hab
  have h1 := none (l.take i) 0 fun x hx => by
    obtain ⟨j, hj, rfl⟩ := List.mem_iff_getElem.1 hx
    rw [List.length_take] at hj
    rw [List.getElem_take]
    have := lt j i (by omega) hi (by omega)
    omega
  have h2 : ∀ n, atM (symFrom sym n (l.drop (i + 1))) l[i].At = [] := fun n => none (l.drop (i + 1)) n fun x hx => by
    obtain ⟨j, hj, rfl⟩ := List.mem_iff_getElem.1 hx
    rw [List.length_drop] at hj
    rw [List.getElem_drop]
    have := lt i (i + 1 + j) hi (by omega) (by omega)
    omega
  have app : ∀ a b : List GOcc, atM (a ++ b) l[i].At = atM a l[i].At ++ atM b l[i].At := fun a b => by unfold atM; rw [List.filter_append]
  have h3 : symFrom sym 0 l = symFrom sym 0 (l.take i) ++ (symFrom sym (0 + (l.take i).length) [l[i]] ++ symFrom sym (0 + (l.take i).length + [l[i]].length) (l.drop (i + 1))) := by
    rw [← symFrom_append, ← symFrom_append, ← e]
  rw [h3, app, app, h1, h2]
  simp only [List.nil_append, List.append_nil]
  rw [List.length_take, show 0 + min i l.length = i by omega, symFrom_one]
  split
  · unfold atM; simp
  · rfl
theorem hit_sym {l : List GEv} (sym t : Int) : hit t (symFrom sym 0 l) = true ↔ ∃ e ∈ l, e.Sym = sym ∧ e.At = t := by
  unfold hit
  rw [List.any_eq_true]
  constructor
  · rintro ⟨o, ho, h⟩
    obtain ⟨j, e, h1, h2, rfl⟩ := mem_symFrom ho
    exact ⟨e, List.mem_of_getElem? h1, h2, by simpa using h⟩
  · rintro ⟨e, he, h1, h2⟩
    obtain ⟨i, hi, rfl⟩ := List.mem_iff_getElem.1 he
    refine ⟨⟨l[i].At, l[i].At, [(i : Int)]⟩, ?_, by simpa using h2⟩
    have e : l = l.take i ++ ([l[i]] ++ l.drop (i + 1)) := by
      rw [List.singleton_append, ← List.drop_eq_getElem_cons hi, List.take_append_drop]
    have h3 : symFrom sym 0 l = symFrom sym 0 (l.take i) ++ (symFrom sym (0 + (l.take i).length) [l[i]] ++ symFrom sym (0 + (l.take i).length + [l[i]].length) (l.drop (i + 1))) := by
      rw [← symFrom_append, ← symFrom_append, ← e]
    rw [h3, List.length_take, show 0 + min i l.length = i by omega, symFrom_one, if_pos h1]
    simp
theorem fold_skip {α σ : Type} (g : σ → α → σ) (p : α → Bool) : ∀ (l : List α) (s : σ), (∀ s, ∀ x ∈ l, p x = false → g s x = s) → l.foldl g s = (l.filter p).foldl g s
  | [], s, _ => rfl
  | x :: l, s, h => by
    rw [List.foldl_cons, fold_skip g p l _ fun s y hy => h s y (by simp [hy])]
    by_cases c : p x = true
    · rw [List.filter_cons_of_pos c]; rfl
    · rw [List.filter_cons_of_neg c, h s x (by simp) (by simpa using c)]
/-- the run over the times is a run over all events -/
theorem run_events {f : Two → List GOcc → List GOcc → Two × List GOcc} (hf : ∀ p, f p [] [] = (p, [])) {l : List GEv} (h : EvsUp l) (a b : Int) (s : Two × List GOcc) :
    (timesM [symFrom a 0 l, symFrom b 0 l]).foldl (runM fun p t => f p (atM (symFrom a 0 l) t) (atM (symFrom b 0 l) t)) s = l.foldl (fun s e => runM (fun p t => f p (atM (symFrom a 0 l) t) (atM (symFrom b 0 l) t)) s e.At) s := by
  have e : timesM [symFrom a 0 l, symFrom b 0 l] = (l.map (·.At)).filter fun t => hit t (symFrom a 0 l) || hit t (symFrom b 0 l) := by
    refine up_ext (up_timesM _) (List.Pairwise.sublist List.filter_sublist (List.pairwise_map.2 h.1)) fun t => ?_
    rw [mem_timesM, List.mem_filter, List.mem_map, Bool.or_eq_true, hit_sym, hit_sym]
    simp only [List.mem_cons, List.not_mem_nil, or_false, exists_eq_or_imp, exists_eq_left]
    constructor
    · rintro ⟨_, ⟨o, ho, rfl⟩ | ⟨o, ho, rfl⟩⟩
      · obtain ⟨j, e, h1, h2, rfl⟩ := mem_symFrom ho
        have := List.mem_of_getElem? h1
        exact ⟨⟨e, this, rfl⟩, .inl ⟨e, this, h2, rfl⟩⟩
      · obtain ⟨j, e, h1, h2, rfl⟩ := mem_symFrom ho
        have := List.mem_of_getElem? h1
        exact ⟨⟨e, this, rfl⟩, .inr ⟨e, this, h2, rfl⟩⟩
    · rintro ⟨⟨e, he, rfl⟩, hh⟩
      have := h.2.1 e he
      refine ⟨by omega, ?_⟩
      rcases hh with hh | hh
      · have := (hit_sym a e.At).2 hh
        unfold hit at this
        rw [List.any_eq_true] at this
        obtain ⟨o, h1, h2⟩ := this
        exact .inl ⟨o, h1, by simpa using h2⟩
      · have := (hit_sym b e.At).2 hh
        unfold hit at this
        rw [List.any_eq_true] at this
        obtain ⟨o, h1, h2⟩ := this
        exact .inr ⟨o, h1, by simpa using h2⟩
  rw [e, ← fold_skip, List.foldl_map]
  intro s t _ ht
  rw [Bool.or_eq_false_iff] at ht
  have nil : ∀ m : List GOcc, hit t m = false → atM m t = [] := fun m hm => by
    unfold hit at hm
    unfold atM
    rw [List.filter_eq_nil_iff]
    intro o ho hc
    have := List.any_eq_false.1 hm o ho
    exact this hc
  unfold runM
  dsimp only
  rw [nil _ ht.1, nil _ ht.2, hf]
  rfl
/- One event more at the end takes nothing away. -/
theorem asc_ext : ∀ {a b : List GOcc}, Asc a → Asc b → (∀ x, x ∈ a ↔ x ∈ b) → a = b
  | [], [], _, _, _ => rfl
  | [], y :: b, _, _, h => by have := (h y).2 (by simp); simp at this
  | x :: a, [], _, _, h => by have := (h x).1 (by simp); simp at this
  | x :: a, y :: b, ha, hb, h => by
    have ha' := List.pairwise_cons.1 ha
    have hb' := List.pairwise_cons.1 hb
    have e : x = y := by
      rcases List.mem_cons.1 ((h x).1 (by simp)) with h1 | h1
      · exact h1
      rcases List.mem_cons.1 ((h y).2 (by simp)) with h2 | h2
      · exact h2.symm
      have := occLess_asymm (hb'.1 x h1)
      rw [ha'.1 y h2] at this
      cases this
    subst e
    rw [asc_ext ha'.2 hb'.2 fun z => ?_]
    have := h z
    simp only [List.mem_cons] at this
    constructor
    · intro hz
      rcases this.1 (.inr hz) with h1 | h1
      · subst h1; have := ha'.1 z hz; rw [occLess_irrefl] at this; cases this
      · exact h1
    · intro hz
      rcases this.2 (.inr hz) with h1 | h1
      · subst h1; have := hb'.1 z hz; rw [occLess_irrefl] at this; cases this
      · exact h1
def cutM (T : Int) (l : List GOcc) : List GOcc := l.filter fun o => decide (o.To ≤ T)
theorem mem_cut {T : Int} {l : List GOcc} {o : GOcc} : o ∈ cutM T l ↔ o ∈ l ∧ o.To ≤ T := by unfold cutM; rw [List.mem_filter, decide_eq_true_eq]
theorem asc_cut {T : Int} {l : List GOcc} (h : Asc l) : Asc (cutM T l) := List.Pairwise.sublist List.filter_sublist h
theorem cut_merge {T : Int} {a b : List GOcc} (ha : Asc a) : cutM T (mergeM a b) = mergeM (cutM T a) (cutM T b) := by
  refine asc_ext (asc_cut (asc_mergeM ha)) (asc_mergeM (asc_cut ha)) fun x => ?_
  rw [mem_cut, mem_mergeM, mem_mergeM, mem_cut, mem_cut]
  constructor
  · rintro ⟨h | h, h2⟩
    · exact .inl ⟨h, h2⟩
    · exact .inr ⟨h, h2⟩
  · rintro (⟨h, h2⟩ | ⟨h, h2⟩)
    · exact ⟨.inl h, h2⟩
    · exact ⟨.inr h, h2⟩
theorem cut_all {T : Int} {l : List GOcc} (h : ∀ o ∈ l, o.To ≤ T) : cutM T l = l := List.filter_eq_self.2 fun o ho => by simpa using h o ho
theorem cut_none {T : Int} {l : List GOcc} (h : ∀ o ∈ l, T < o.To) : cutM T l = [] := List.filter_eq_nil_iff.2 fun o ho => by have := h o ho; simp; omega
theorem cut_at {T t : Int} (l : List GOcc) (h : t ≤ T) : atM (cutM T l) t = atM l t := by
  unfold atM cutM
  rw [List.filter_filter]
  apply List.filter_congr
  intro o _
  by_cases c : o.To = t
  · simp [c, h]
  · simp [c]
/- found at the time of the one that came -/
def Till (t : Int) (o : GOcc) : Prop := o.To ≤ t
def Just (t : Int) (o : GOcc) : Prop := o.To = t
theorem just_sum (t : Int) : ∀ {l : List GOcc} {o : GOcc}, All (Till t) l → Just t o → Just t (sumM o l)
  | [], o, _, ho => ho
  | x :: l, o, h, ho => just_sum t (l := l) (o := joinM o x) (fun y hy => h y (by simp [hy])) (by have := h x (by simp); unfold Just Till at *; simp only [joinM]; omega)
theorem just_eachs (t : Int) {o : GOcc} (ho : Just t o) : ∀ (l acc : List GOcc), All (Till t) l → All (Just t) acc → All (Just t) (l.foldl (fun s e => putM s (joinM o e)) acc)
  | [], acc, _, ha => ha
  | x :: l, acc, h, ha => just_eachs t ho l _ (fun y hy => h y (by simp [hy])) (ha.put (by have := h x (by simp); unfold Just Till at *; simp only [joinM]; omega))
theorem just_found (t : Int) {mode : Int} {o : GOcc} {l : List GOcc} (h : All (Till t) l) (ho : Just t o) : All (Just t) (foundM mode o l) := by
  have one : ∀ x : GOcc, Just t x → All (Just t) [x] := fun x hx y hy => by rw [List.mem_singleton.1 hy]; exact hx
  have jo : ∀ x ∈ l, Just t (joinM o x) := fun x hx => by have := h x hx; unfold Just Till at *; simp only [joinM]; omega
  unfold foundM
  by_cases h0 : l.length = 0
  · rw [if_pos h0]; exact All.nil
  rw [if_neg h0]
  split
  · exact one _ (jo _ (by rw [List.getElem?_eq_getElem (show l.length - 1 < l.length by omega)]; exact List.getElem_mem _))
  split
  · exact one _ (jo _ (by rw [List.getElem?_eq_getElem (show 0 < l.length by omega)]; exact List.getElem_mem _))
  split
  · exact one _ (just_sum t h ho)
  · exact just_eachs t ho l [] h All.nil
theorem All.imp {P Q : GOcc → Prop} {l : List GOcc} (h : All P l) (hi : ∀ o, P o → Q o) : All Q l := fun x hx => hi x (h x hx)
theorem just_till {t : Int} {o : GOcc} (h : Just t o) : Till t o := by unfold Just Till at *; omega
theorem just_ones (t : Int) {mode : Int} {p : GOcc → GOcc → Bool} : ∀ (r : List GOcc) {s : List GOcc × List GOcc}, All (Just t) r → All (Till t) s.1 → All (Just t) s.2 → All (Till t) (r.foldl (oneM mode p) s).1 ∧ All (Just t) (r.foldl (oneM mode p) s).2
  | [], s, _, h1, h2 => ⟨h1, h2⟩
  | o :: r, s, hr, h1, h2 => just_ones t r (s := oneM mode p s o) (fun y hy => hr y (by simp [hy])) h1.rem (h2.merge (just_found t (h1.filter _) (hr o (by simp))))
/-- a step finds what ends now -/
def Timely (t : Int) (f : Two → List GOcc → List GOcc → Two × List GOcc) : Prop := ∀ (p : Two) (l r : List GOcc), All (Till t) p.1 → All (Till t) p.2 → All (Just t) l → All (Just t) r → All (Till t) (f p l r).1.1 ∧ All (Till t) (f p l r).1.2 ∧ All (Just t) (f p l r).2
def Timely3 (t : Int) (f : Two → List GOcc → List GOcc → List GOcc → Two × List GOcc) : Prop := ∀ (p : Two) (a b c : List GOcc), All (Till t) p.1 → All (Till t) p.2 → All (Just t) a → All (Just t) b → All (Just t) c → All (Till t) (f p a b c).1.1 ∧ All (Till t) (f p a b c).1.2 ∧ All (Just t) (f p a b c).2
theorem timely_seq (t mode : Int) : Timely t (seqF mode) := fun p l r h1 h2 hl hr => by
  obtain ⟨a, b⟩ := just_ones t (mode := mode) (p := before) r (s := (p.1, [])) hr h1 All.nil
  exact ⟨a.merge (hl.imp fun o => just_till), h2, b⟩
def Mid3 (t : Int) (s : List GOcc × List GOcc × List GOcc) : Prop := All (Till t) s.1 ∧ All (Till t) s.2.1 ∧ All (Just t) s.2.2
theorem mid_half {t mode : Int} {s : List GOcc × List GOcc × List GOcc} {o : GOcc} (h : Mid3 t s) (ho : Just t o) : Mid3 t (halfM mode s o) := ⟨h.1.store (just_till ho), h.2.1.rem, h.2.2.merge (just_found t h.2.1 ho)⟩
theorem mid_other {t mode : Int} {s : List GOcc × List GOcc × List GOcc} {o : GOcc} (h : Mid3 t s) (ho : Just t o) : Mid3 t (otherM mode s o) := by
  have := mid_half (mode := mode) (s := (s.2.1, s.1, s.2.2)) ⟨h.2.1, h.1, h.2.2⟩ ho
  exact ⟨this.2.1, this.1, this.2.2⟩
theorem timely_and (t mode : Int) : Timely t (andF mode) := fun p l r h1 h2 hl hr => by
  have a := all_fold (Mid3 t) (halfM mode) l (p.1, p.2, []) (fun s x hx h => mid_half h (hl x hx)) ⟨h1, h2, All.nil⟩
  have b := all_fold (Mid3 t) (otherM mode) r _ (fun s x hx h => mid_other h (hr x hx)) a
  exact ⟨b.1, b.2.1, b.2.2⟩
theorem timely_not (t mode : Int) : Timely3 t (notF mode) := fun p a b c h1 h2 ha hb hc => by
  obtain ⟨x, y⟩ := just_ones t (mode := mode) (p := openM p.2) c (s := (p.1, [])) hc h1 All.nil
  exact ⟨x.merge (ha.imp fun o => just_till), h2.merge (hb.imp fun o => just_till), y⟩
theorem timely_each (t mode : Int) : Timely3 t (eachF mode) := fun p a b c h1 h2 ha hb hc =>
  ⟨h1.merge (ha.imp fun o => just_till), h2.merge (hc.imp fun o => just_till), all_fold (All (Just t)) _ b [] (fun s x hx h => h.merge (just_found t (h1.filter _) (hb x hx))) All.nil⟩
theorem at_just (l : List GOcc) (t : Int) : All (Just t) (atM l t) := fun o ho => by
  have := (List.mem_filter.1 ho).2
  unfold Just
  simpa using this
theorem up_split {U : List Int} (h : Up U) (T : Int) : U = (U.filter fun t => decide (t ≤ T)) ++ (U.filter fun t => decide (T < t)) := by
  refine up_ext h ?_ fun x => ?_
  · refine List.pairwise_append.2 ⟨List.Pairwise.sublist List.filter_sublist h, List.Pairwise.sublist List.filter_sublist h, fun a ha b hb => ?_⟩
    have h1 := (List.mem_filter.1 ha).2
    have h2 := (List.mem_filter.1 hb).2
    simp only [decide_eq_true_eq] at h1 h2
    omega
  · rw [List.mem_append, List.mem_filter, List.mem_filter, decide_eq_true_eq, decide_eq_true_eq]
    constructor
    · intro hx
      by_cases c : x ≤ T
      · exact .inl ⟨hx, c⟩
      · exact .inr ⟨hx, by omega⟩
    · rintro (h | h) <;> exact h.1
theorem times_cut (T : Int) (ls : List (List GOcc)) : timesM (ls.map (cutM T)) = (timesM ls).filter fun t => decide (t ≤ T) := by
  refine up_ext (up_timesM _) (List.Pairwise.sublist List.filter_sublist (up_timesM _)) fun t => ?_
  rw [List.mem_filter, mem_timesM, mem_timesM, decide_eq_true_eq]
  simp only [List.mem_map]
  constructor
  · rintro ⟨h, _, ⟨l, hl, rfl⟩, o, ho, rfl⟩
    have := mem_cut.1 ho
    exact ⟨⟨h, l, hl, o, this.1, rfl⟩, this.2⟩
  · rintro ⟨⟨h, l, hl, o, ho, rfl⟩, h2⟩
    exact ⟨h, _, ⟨l, hl, rfl⟩, o, mem_cut.2 ⟨ho, h2⟩, rfl⟩
/-- a run over times that rise -/
theorem run_cut {f : Two → Int → Two × List GOcc} (T : Int) (g : Two → Int → Two × List GOcc) (U : List Int) (hU : Up U) (hfg : ∀ p t, t ≤ T → f p t = g p t)
    (hf : ∀ t (p : Two), All (Till t) p.1 → All (Till t) p.2 → All (Till t) (f p t).1.1 ∧ All (Till t) (f p t).1.2 ∧ All (Just t) (f p t).2) :
    cutM T (U.foldl (runM f) (([], []), [])).2 = ((U.filter fun t => decide (t ≤ T)).foldl (runM g) (([], []), [])).2 := by
  have body : ∀ (V : List Int) (s : Two × List GOcc) (b : Int), Up V → (∀ t ∈ V, b ≤ t) → All (Till b) s.1.1 → All (Till b) s.1.2 → Asc s.2 →
      (∃ b', All (Till b') (V.foldl (runM f) s).1.1 ∧ All (Till b') (V.foldl (runM f) s).1.2 ∧ (b' ∈ V ∨ b' = b)) ∧ Asc (V.foldl (runM f) s).2 ∧ (∀ o ∈ (V.foldl (runM f) s).2, o ∈ s.2 ∨ o.To ∈ V) ∧ (∀ o ∈ s.2, o ∈ (V.foldl (runM f) s).2) := by
    intro V
    induction V with
    | nil => intro s b _ _ h1 h2 h3; exact ⟨⟨b, h1, h2, .inr rfl⟩, h3, fun o ho => .inl ho, fun o ho => ho⟩
    | cons t V ih =>
      intro s b hV hb h1 h2 h3
      have hV' := List.pairwise_cons.1 hV
      have hbt := hb t (by simp)
      obtain ⟨q1, q2, q3⟩ := hf t s.1 (h1.imp fun o ho => by unfold Till at *; omega) (h2.imp fun o ho => by unfold Till at *; omega)
      obtain ⟨⟨b', r1, r2, r3⟩, r7, r8, r9⟩ := ih (runM f s t) t hV'.2 (fun x hx => by have := hV'.1 x hx; omega) q1 q2 (asc_mergeM h3)
      refine ⟨⟨b', r1, r2, ?_⟩, r7, fun o ho => ?_, fun o ho => r9 o (mem_mergeM.2 (.inl ho))⟩
      · rcases r3 with r3 | r3
        · exact .inl (by simp [r3])
        · exact .inl (by simp [r3])
      · rcases r8 o ho with c | c
        · rcases mem_mergeM.1 c with c | c
          · exact .inl c
          · have := q3 o c
            unfold Just at this
            exact .inr (by simp [this])
        · exact .inr (by simp [c])
  have same : ∀ (V : List Int) (s : Two × List GOcc), (∀ t ∈ V, t ≤ T) → V.foldl (runM f) s = V.foldl (runM g) s := by
    intro V
    induction V with
    | nil => intro s _; rfl
    | cons t V ih =>
      intro s h
      rw [List.foldl_cons, List.foldl_cons, show runM f s t = runM g s t by unfold runM; rw [hfg s.1 t (h t (by simp))]]
      exact ih _ fun x hx => h x (by simp [hx])
  have low : ∀ t ∈ U.filter (fun t => decide (t ≤ T)), t ≤ T := fun t ht => by simpa using (List.mem_filter.1 ht).2
  have high : ∀ t ∈ U.filter (fun t => decide (T < t)), T < t := fun t ht => by simpa using (List.mem_filter.1 ht).2
  have uL : Up (U.filter fun t => decide (t ≤ T)) := List.Pairwise.sublist List.filter_sublist hU
  have uH : Up (U.filter fun t => decide (T < t)) := List.Pairwise.sublist List.filter_sublist hU
  have midT : All (Till T) ((U.filter fun t => decide (t ≤ T)).foldl (runM f) (([], []), [])).1.1 ∧ All (Till T) ((U.filter fun t => decide (t ≤ T)).foldl (runM f) (([], []), [])).1.2 ∧ Asc ((U.filter fun t => decide (t ≤ T)).foldl (runM f) (([], []), [])).2 ∧ ∀ o ∈ ((U.filter fun t => decide (t ≤ T)).foldl (runM f) (([], []), [])).2, o.To ≤ T := by
    generalize U.filter (fun t => decide (t ≤ T)) = L at low uL
    cases L with
    | nil => exact ⟨All.nil, All.nil, by simp [Asc], fun o ho => by simp at ho⟩
    | cons t L =>
      have h' := List.pairwise_cons.1 uL
      obtain ⟨⟨b', r1, r2, r3⟩, r4, r5, r6⟩ := body (t :: L) (([], []), []) t uL (fun x hx => by
        rcases List.mem_cons.1 hx with rfl | hx
        · exact Int.le_refl _
        · have := h'.1 x hx; omega) All.nil All.nil (by simp [Asc])
      have hb : b' ≤ T := by
        rcases r3 with r3 | r3
        · exact low b' r3
        · rw [r3]; exact low t (by simp)
      refine ⟨r1.imp fun o ho => by unfold Till at *; omega, r2.imp fun o ho => by unfold Till at *; omega, r4, fun o ho => ?_⟩
      rcases r5 o ho with c | c
      · simp at c
      · exact low _ c
  rw [← same _ _ low]
  generalize hm : (U.filter fun t => decide (t ≤ T)).foldl (runM f) (([], []), []) = mid at midT
  obtain ⟨m1, m2, m3, m4⟩ := midT
  have e : U.foldl (runM f) (([], []), []) = (U.filter fun t => decide (T < t)).foldl (runM f) mid := by
    conv => lhs; rw [up_split hU T, List.foldl_append, hm]
  rw [e]
  obtain ⟨_, r4, r5, r6⟩ := body _ mid T uH (fun t ht => by have := high t ht; omega) m1 m2 m3
  refine asc_ext (asc_cut r4) m3 fun o => ?_
  rw [mem_cut]
  constructor
  · rintro ⟨h1, h2⟩
    rcases r5 o h1 with c | c
    · exact c
    · have := high _ c; omega
  · intro h
    exact ⟨r6 o h, m4 o h⟩
theorem pair_cut {f : Two → List GOcc → List GOcc → Two × List GOcc} (hf : ∀ t, Timely t f) (T : Int) (a b : List GOcc) : cutM T (pairM f a b) = pairM f (cutM T a) (cutM T b) := by
  unfold pairM
  have e := times_cut T [a, b]
  simp only [List.map_cons, List.map_nil] at e
  rw [e]
  exact run_cut T _ _ (up_timesM _) (fun p t ht => by rw [cut_at a ht, cut_at b ht]) fun t p h1 h2 => hf t p _ _ h1 h2 (at_just a t) (at_just b t)
theorem span_cut {f : Two → List GOcc → List GOcc → List GOcc → Two × List GOcc} (hf : ∀ t, Timely3 t f) (T : Int) (a b c : List GOcc) : cutM T (spanM f a b c) = spanM f (cutM T a) (cutM T b) (cutM T c) := by
  unfold spanM
  have e := times_cut T [a, b, c]
  simp only [List.map_cons, List.map_nil] at e
  rw [e]
  exact run_cut T _ _ (up_timesM _) (fun p t ht => by rw [cut_at a ht, cut_at b ht, cut_at c ht]) fun t p h1 h2 => hf t p _ _ _ h1 h2 (at_just a t) (at_just b t) (at_just c t)
/- What is drawn: bytes, numbers. -/
theorem u8_ok {y : Int} (h : (Lit.int .u8 y).wf = true) : 0 ≤ y ∧ y ≤ 255 := by
  simp only [Lit.wf, Bool.and_eq_true, decide_eq_true_eq] at h
  exact h
theorem xor_ok (a b : Int) (ha : 0 ≤ a ∧ a < 4611686018427387904) (hb : 0 ≤ b ∧ b < 4611686018427387904) : 0 ≤ binOf .xor .i64 a b ∧ binOf .xor .i64 a b < 4611686018427387904 := by
  obtain ⟨m, rfl⟩ : ∃ m : Nat, a = m := ⟨a.toNat, by omega⟩
  obtain ⟨n, rfl⟩ : ∃ n : Nat, b = n := ⟨b.toNat, by omega⟩
  have h : (BitVec.ofInt 64 (m : Int) ^^^ BitVec.ofInt 64 (n : Int)).toNat = m ^^^ n := by
    rw [BitVec.toNat_xor, BitVec.ofInt_natCast, BitVec.ofInt_natCast, BitVec.toNat_ofNat, BitVec.toNat_ofNat, Nat.mod_eq_of_lt (by omega), Nat.mod_eq_of_lt (by omega)]
  have h2 : m ^^^ n < 2 ^ 62 := Nat.xor_lt_two_pow (by omega) (by omega)
  show 0 ≤ IntKind.wrap .i64 ((BitVec.ofInt 64 (m : Int) ^^^ BitVec.ofInt 64 (n : Int)).toNat : Int) ∧ _
  have e : binOf .xor .i64 (m : Int) (n : Int) = IntKind.wrap .i64 ((BitVec.ofInt 64 (m : Int) ^^^ BitVec.ofInt 64 (n : Int)).toNat : Int) := rfl
  rw [e, h, wr _ (by omega)]
  omega
theorem rem_eq (a b : Int) (ha : 0 ≤ a ∧ a < 4611686018427387904) (hb : 1 ≤ b ∧ b < 4611686018427387904) : binOf .rem .i64 a b = a % b := by
  show a.tmod b = a % b
  exact Int.tmod_eq_emod_of_nonneg ha.1
theorem quo_eq (a b : Int) (ha : 0 ≤ a ∧ a < 4611686018427387904) (hb : 1 ≤ b ∧ b < 4611686018427387904) : binOf .quo .i64 a b = a / b ∧ 0 ≤ a / b ∧ a / b ≤ a := by
  have e : binOf .quo .i64 a b = IntKind.wrap .i64 (a.tdiv b) := rfl
  have h1 := Int.ediv_nonneg ha.1 (show 0 ≤ b by omega)
  have h2 := Int.ediv_le_self b ha.1
  rw [e, Int.tdiv_eq_ediv_of_nonneg ha.1, wr _ (by omega)]
  exact ⟨rfl, h1, h2⟩
/-- a reader over bytes that has read no more than m -/
def RdOk (r : Gl14Rd) (m : Int) : Prop := (∀ x ∈ r.b, 0 ≤ x ∧ x ≤ 255) ∧ r.b.length ≤ 1048576 ∧ 0 ≤ r.p ∧ r.p ≤ m
theorem RdOk.mono {r : Gl14Rd} {m n : Int} (h : RdOk r m) (hm : m ≤ n) : RdOk r n := ⟨h.1, h.2.1, h.2.2.1, by have := h.2.2.2; omega⟩
theorem pick_ok (r : Gl14Rd) (n : Int) (m : Int) (h : RdOk r m) (hm : m ≤ 1000000000) (hn : n < 4611686018427387904) : ∃ v r', spec_l14Rd_pick.f r n = some (v, r') ∧ 0 ≤ v ∧ (1 ≤ n → v < n) ∧ (n < 1 → v = 0) ∧ RdOk r' (m + 1) := by
  obtain ⟨hb, hl, h0, h1⟩ := h
  have hw : IntKind.wrap .i64 (r.p + 1) = r.p + 1 := wr _ (by omega)
  have hr' : RdOk ⟨r.b, r.p + 1⟩ (m + 1) := ⟨hb, hl, by dsimp only; omega, by dsimp only; omega⟩
  unfold spec_l14Rd_pick.f
  simp only [hw]
  by_cases hn1 : n < 1
  · rw [if_pos hn1]; exact ⟨0, _, rfl, by omega, by omega, fun _ => rfl, hr'⟩
  rw [if_neg hn1]
  by_cases hb0 : (r.b.length : Int) = 0
  · rw [if_pos hb0]; exact ⟨0, _, rfl, by omega, by omega, fun _ => rfl, hr'⟩
  rw [if_neg hb0]
  have hq : IntKind.wrap .i64 (r.p + 1 - 1) = r.p := by rw [wr _ (by omega)]; omega
  simp only [hq]
  by_cases hp : r.p < (r.b.length : Int)
  · have hlt : r.p.toNat < r.b.length := by omega
    have he := hb r.b[r.p.toNat] (List.getElem_mem hlt)
    rw [if_pos hp, req_pos h0, List.getElem?_eq_getElem hlt]
    simp only [Option.bind_some]
    rw [req_pos (by omega), wr _ (by omega), rem_eq _ _ (by omega) (by omega)]
    have g1 := Int.emod_nonneg r.b[r.p.toNat] (show n ≠ 0 by omega)
    have g2 := Int.emod_lt_of_pos r.b[r.p.toNat] (show 0 < n by omega)
    exact ⟨_, _, rfl, g1, fun _ => g2, fun h => absurd h hn1, hr'⟩
  · rw [if_neg hp, req_pos hb0]
    rw [wr (r.p * 7) (by omega), wr (r.p * 7 + 3) (by omega), wr (r.p * 29) (by omega), rem_eq r.p _ (by omega) (by omega), rem_eq (r.p * 7 + 3) _ (by omega) (by omega), (quo_eq r.p _ (by omega) (by omega)).1]
    have q1 := Int.emod_nonneg r.p hb0
    have q2 := Int.emod_lt_of_pos r.p (show 0 < (r.b.length : Int) by omega)
    have q3 := Int.emod_nonneg (r.p * 7 + 3) hb0
    have q4 := Int.emod_lt_of_pos (r.p * 7 + 3) (show 0 < (r.b.length : Int) by omega)
    have q5 := (quo_eq r.p (r.b.length : Int) (by omega) (by omega)).2
    generalize r.p % (r.b.length : Int) = i at *
    generalize (r.p * 7 + 3) % (r.b.length : Int) = j at *
    generalize r.p / (r.b.length : Int) = d at *
    have hi : i.toNat < r.b.length := by omega
    have hj : j.toNat < r.b.length := by omega
    have e1 := hb r.b[i.toNat] (List.getElem_mem hi)
    have e2 := hb r.b[j.toNat] (List.getElem_mem hj)
    rw [req_pos q1, List.getElem?_eq_getElem hi]
    simp only [Option.bind_some]
    rw [req_pos hb0, req_pos q3, List.getElem?_eq_getElem hj]
    simp only [Option.bind_some]
    generalize r.b[i.toNat] = x at *
    generalize r.b[j.toNat] = y at *
    rw [req_pos hb0, req_pos (by omega)]
    simp only [wr x (by omega), wr y (by omega), wr (x * 131) (by omega), wr (y * 1117) (by omega), wr (d * 53) (by omega), wr (x * 131 + y * 1117) (by omega), wr (x * 131 + y * 1117 + r.p * 29) (by omega), wr (x * 131 + y * 1117 + r.p * 29 + d * 53) (by omega)]
    have u := quo_eq (x * 131 + y * 1117 + r.p * 29 + d * 53) 64 (by omega) (by omega)
    have v := xor_ok (x * 131 + y * 1117 + r.p * 29 + d * 53) (binOf .quo .i64 (x * 131 + y * 1117 + r.p * 29 + d * 53) 64) (by omega) (by rw [u.1]; omega)
    rw [rem_eq _ n v (by omega)]
    exact ⟨_, _, rfl, Int.emod_nonneg _ (by omega), fun _ => Int.emod_lt_of_pos _ (by omega), fun h => absurd h hn1, hr'⟩
theorem num_ok (r : Gl14Rd) (l : List Int) (m : Int) (h : RdOk r m) (hm : m ≤ 1000000000) (hl : 1 ≤ l.length ∧ l.length < 1000) : ∃ v r', spec_l14Rd_num.f r l = some (v, r') ∧ v ∈ l ∧ RdOk r' (m + 1) := by
  obtain ⟨v, r', h1, h2, h3, h4, h5⟩ := pick_ok r l.length m h hm (by omega)
  have hv := h3 (by omega)
  unfold spec_l14Rd_num.f
  rw [h1]
  simp only [Option.bind_some]
  rw [req_pos h2, List.getElem?_eq_getElem (show v.toNat < l.length by omega)]
  exact ⟨_, _, rfl, List.getElem_mem _, h5⟩
theorem l14Open_ok (l : List Int) (hl : l.length ≤ 1048576) (hb : ∀ y ∈ l, 0 ≤ y ∧ y ≤ 255) : ∃ r, spec_l14Open.f l = some r ∧ RdOk r 0 := by
  unfold spec_l14Open.f
  by_cases h : 2000 < (l.length : Int)
  · rw [if_pos h, req_pos (by omega), req_pos (by omega), req_pos (by omega)]
    exact ⟨_, rfl, fun x hx => hb x (List.mem_of_mem_take hx), by simp; omega, by dsimp only; omega, by dsimp only; omega⟩
  · rw [if_neg h]
    exact ⟨_, rfl, hb, hl, by dsimp only; omega, by dsimp only; omega⟩
/- Trees that are drawn. -/
theorem exNs_append : ∀ l m : List GEx, exNs (l ++ m) = exNs l + exNs m
  | [], m => by simp [exNs_nil]
  | x :: l, m => by rw [List.cons_append, exNs_cons, exNs_cons, exNs_append l m]; omega
theorem exNs_one (x : GEx) : exNs [x] = exN x := by rw [exNs_cons, exNs_nil]; omega
theorem exN_leaf (a b c : Int) : exN ⟨a, b, c, []⟩ = 1 := by rw [exN_eq, exNs_nil]
theorem l2Ex_loop0 (k : Nat) (rec' : Gl14Rd → Int → Option (GEx × Gl14Rd)) (p1 : Int) (B N : Nat) (M : Int)
    (H : ∀ (r : Gl14Rd) (m : Int), RdOk r m → m ≤ M → ∃ x r', rec' r (IntKind.wrap .i64 (p1 - 1)) = some (x, r') ∧ RdOk r' (m + B) ∧ exN x ≤ N) :
    ∀ (c n : Nat) (b : List Int) (p m : Int) (acc : List GEx), c < n → c ≤ 3 → RdOk ⟨b, p⟩ m → m + c * B ≤ M + B → exNs acc + c * N ≤ 1000000 →
      ∃ acc' b' p', spec_l2Ex.l0 k rec' p1 n b p acc (c : Int) = some (acc', b', p') ∧ RdOk ⟨b', p'⟩ (m + c * B) ∧ exNs acc' ≤ exNs acc + c * N := by
  intro c
  induction c with
  | zero =>
    intro n b p m acc hn hc hr hm ha
    obtain ⟨n, rfl⟩ : ∃ m, n = m + 1 := ⟨n - 1, by omega⟩
    rw [spec_l2Ex.l0, if_neg (by omega)]
    exact ⟨_, _, _, rfl, by simpa using hr, by simp⟩
  | succ c ih =>
    intro n b p m acc hn hc hr hm ha
    obtain ⟨n, rfl⟩ : ∃ m, n = m + 1 := ⟨n - 1, by omega⟩
    have hcB : ((c + 1 : Nat) : Int) * B = c * B + B := by rw [Int.natCast_succ, Int.add_mul]; omega
    have hcN : (c + 1) * N = c * N + N := Nat.succ_mul c N
    have hcB0 : (0 : Int) ≤ c * B := Int.mul_nonneg (by omega) (by omega)
    obtain ⟨x, r', e1, e2, e3⟩ := H ⟨b, p⟩ m hr (by omega)
    have hla := exNs_len acc
    rw [spec_l2Ex.l0, if_pos (by omega), e1]
    simp only [Option.bind_some]
    rw [req_pos (by omega), wrP c (by omega)]
    obtain ⟨acc', b', p', q1, q2, q3⟩ := ih n r'.b r'.p (m + B) (acc ++ [x]) (by omega) (by omega) e2 (by omega) (by rw [exNs_append, exNs_one]; omega)
    refine ⟨acc', b', p', q1, q2.mono (by omega), ?_⟩
    rw [exNs_append, exNs_one] at q3
    omega
theorem l2Ex_loop1 (k : Nat) (rec' : Gl14Rd → Int → Option (GEx × Gl14Rd)) (p1 : Int) (B N : Nat) (M : Int)
    (H : ∀ (r : Gl14Rd) (m : Int), RdOk r m → m ≤ M → ∃ x r', rec' r (IntKind.wrap .i64 (p1 - 1)) = some (x, r') ∧ RdOk r' (m + B) ∧ exN x ≤ N) :
    ∀ (c n : Nat) (b : List Int) (p m : Int) (acc : List GEx), c < n → c ≤ 3 → RdOk ⟨b, p⟩ m → m + c * B ≤ M + B → exNs acc + c * N ≤ 1000000 →
      ∃ acc' b' p', spec_l2Ex.l1 k rec' p1 n b p acc (c : Int) = some (acc', b', p') ∧ RdOk ⟨b', p'⟩ (m + c * B) ∧ exNs acc' ≤ exNs acc + c * N := by
  intro c
  induction c with
  | zero =>
    intro n b p m acc hn hc hr hm ha
    obtain ⟨n, rfl⟩ : ∃ m, n = m + 1 := ⟨n - 1, by omega⟩
    rw [spec_l2Ex.l1, if_neg (by omega)]
    exact ⟨_, _, _, rfl, by simpa using hr, by simp⟩
  | succ c ih =>
    intro n b p m acc hn hc hr hm ha
    obtain ⟨n, rfl⟩ : ∃ m, n = m + 1 := ⟨n - 1, by omega⟩
    have hcB : ((c + 1 : Nat) : Int) * B = c * B + B := by rw [Int.natCast_succ, Int.add_mul]; omega
    have hcN : (c + 1) * N = c * N + N := Nat.succ_mul c N
    have hcB0 : (0 : Int) ≤ c * B := Int.mul_nonneg (by omega) (by omega)
    obtain ⟨x, r', e1, e2, e3⟩ := H ⟨b, p⟩ m hr (by omega)
    have hla := exNs_len acc
    rw [spec_l2Ex.l1, if_pos (by omega), e1]
    simp only [Option.bind_some]
    rw [req_pos (by omega), wrP c (by omega)]
    obtain ⟨acc', b', p', q1, q2, q3⟩ := ih n r'.b r'.p (m + B) (acc ++ [x]) (by omega) (by omega) e2 (by omega) (by rw [exNs_append, exNs_one]; omega)
    refine ⟨acc', b', p', q1, q2.mono (by omega), ?_⟩
    rw [exNs_append, exNs_one] at q3
    omega
theorem kidsN_of {v : Int} (h : v ∈ ([2, 3, 3, 4, 4, 4, 5, 6, 7] : List Int)) : ∃ c : Nat, kidsN v = (c : Int) ∧ c ≤ 3 := by
  simp only [List.mem_cons, List.not_mem_nil, or_false] at h
  rcases h with rfl | rfl | rfl | rfl | rfl | rfl | rfl | rfl | rfl
  all_goals first | exact ⟨2, rfl, by omega⟩ | exact ⟨3, rfl, by omega⟩ | exact ⟨1, rfl, by omega⟩
theorem l2Ex_k : ∀ (d : Nat), d ≤ 4 → ∀ (k : Nat), 1000000000000 + d ≤ k → ∀ (r : Gl14Rd) (m : Int), RdOk r m → m ≤ 1000000 - 10 ^ (d + 1) → ∃ x r', spec_l2Ex.f k r (d : Int) = some (x, r') ∧ RdOk r' (m + (10 ^ (d + 1) : Nat)) ∧ exN x ≤ 4 ^ d := by
  intro d
  induction d with
  | zero =>
    intro hd k hk r m hr hm
    obtain ⟨k, rfl⟩ : ∃ m, k = m + 1 := ⟨k - 1, by omega⟩
    obtain ⟨v, r', h1, h2, h3⟩ := num_ok r [0, 0, 1, 1, 2, 2, 3, 4] m hr (by omega) (by simp)
    rw [spec_l2Ex.f, if_neg (by omega), h1]
    exact ⟨_, _, rfl, h3.mono (by omega), by rw [exN_leaf]; simp⟩
  | succ d ih =>
    intro hd k hk r m hr hm
    obtain ⟨k, rfl⟩ : ∃ m, k = m + 1 := ⟨k - 1, by omega⟩
    have p10 : (10 : Nat) ^ (d + 1 + 1) = 10 ^ (d + 1) * 10 := Nat.pow_succ ..
    have p10i : (10 : Int) ^ (d + 1 + 1) = 10 ^ (d + 1) * 10 := Int.pow_succ ..
    have c10 : ((10 ^ (d + 1) : Nat) : Int) = (10 : Int) ^ (d + 1) := by push_cast; rfl
    have b10 : 10 ≤ (10 : Nat) ^ (d + 1) := by rw [Nat.pow_succ]; have := Nat.one_le_pow d 10 (by omega); omega
    have p4 : (4 : Nat) ^ (d + 1) = 4 ^ d * 4 := Nat.pow_succ ..
    have b4 : 1 ≤ (4 : Nat) ^ d := Nat.one_le_pow d 4 (by omega)
    have t4 : (4 : Nat) ^ d ≤ 4 ^ 3 := Nat.pow_le_pow_right (by omega) (by omega)
    have t10 : (10 : Nat) ^ (d + 1) ≤ 10 ^ 4 := Nat.pow_le_pow_right (by omega) (by omega)
    rw [spec_l2Ex.f]
    by_cases h1 : 1 < ((d + 1 : Nat) : Int)
    rotate_left
    · rw [if_neg h1]
      obtain ⟨v, r', e1, e2, e3⟩ := num_ok r [0, 0, 1, 1, 2, 2, 3, 4] m hr (by omega) (by simp)
      rw [e1]
      exact ⟨_, _, rfl, e3.mono (by omega), by rw [exN_leaf]; omega⟩
    rw [if_pos h1]
    obtain ⟨v, r1, e1, e2, e3, e4, e5⟩ := pick_ok r 4 m hr (by omega) (by omega)
    rw [e1]
    simp only [Option.bind_some]
    by_cases h2 : v = 0
    · rw [if_pos h2]
      obtain ⟨v, r', g1, g2, g3⟩ := num_ok r1 [0, 0, 1, 1, 2, 2, 3, 4] (m + 1) e5 (by omega) (by simp)
      rw [g1]
      exact ⟨_, _, rfl, g3.mono (by omega), by rw [exN_leaf]; omega⟩
    rw [if_neg h2]
    obtain ⟨kd, r2, g1, g2, g3⟩ := num_ok r1 [2, 3, 3, 4, 4, 4, 5, 6, 7] (m + 1) e5 (by omega) (by simp)
    rw [g1]
    simp only [Option.bind_some]
    obtain ⟨c, hc, hc3⟩ := kidsN_of g2
    have H : ∀ (r : Gl14Rd) (m : Int), RdOk r m → m ≤ 1000000 - 10 ^ (d + 1) → ∃ x r', spec_l2Ex.f k r (IntKind.wrap .i64 (((d + 1 : Nat) : Int) - 1)) = some (x, r') ∧ RdOk r' (m + (10 ^ (d + 1) : Nat)) ∧ exN x ≤ 4 ^ d := fun r m hr hm => by
      rw [wrP d (by omega)]
      exact ih (by omega) k (by omega) r m hr hm
    have fin : ∀ (acc : List GEx), exNs acc ≤ exNs [] + c * 4 ^ d → 1 + exNs acc ≤ 4 ^ (d + 1) := fun acc h => by
      have : c * 4 ^ d ≤ 3 * 4 ^ d := Nat.mul_le_mul_right _ hc3
      rw [exNs_nil] at h
      omega
    have cB : (c : Int) * (10 ^ (d + 1) : Nat) ≤ 3 * (10 ^ (d + 1) : Nat) := Int.mul_le_mul_of_nonneg_right (by omega) (by omega)
    have cN : c * 4 ^ d ≤ 3 * 4 ^ d := Nat.mul_le_mul_right _ hc3
    by_cases h3 : kd = 7
    · rw [if_pos h3]
      obtain ⟨n, r3, f1, f2, f3⟩ := num_ok r2 [1, 2, 3, 5, 20] (m + 1 + 1) g3 (by omega) (by simp)
      rw [f1, l2Kids_eq, hc]
      simp only [Option.bind_some]
      obtain ⟨acc, b', p', q1, q2, q3⟩ := l2Ex_loop0 k (spec_l2Ex.f k) ((d + 1 : Nat) : Int) (10 ^ (d + 1)) (4 ^ d) (1000000 - 10 ^ (d + 1)) H c k r3.b r3.p (m + 1 + 1 + 1) [] (by omega) hc3 f3 (by omega) (by rw [exNs_nil]; omega)
      rw [q1]
      exact ⟨_, _, rfl, q2.mono (by omega), by rw [exN_eq]; exact fin acc q3⟩
    · rw [if_neg h3]
      rw [l2Kids_eq, hc]
      simp only [Option.bind_some]
      obtain ⟨acc, b', p', q1, q2, q3⟩ := l2Ex_loop1 k (spec_l2Ex.f k) ((d + 1 : Nat) : Int) (10 ^ (d + 1)) (4 ^ d) (1000000 - 10 ^ (d + 1)) H c k r2.b r2.p (m + 1 + 1) [] (by omega) hc3 g3 (by omega) (by rw [exNs_nil]; omega)
      rw [q1]
      exact ⟨_, _, rfl, q2.mono (by omega), by rw [exN_eq]; exact fin acc q3⟩
theorem l2Some_k (k : Nat) (hk : 2000000000000 ≤ k) (r : Gl14Rd) (m : Int) (hr : RdOk r m) (hm : m ≤ 500000) : ∃ x r', spec_l2Some.f k r = some (x, r') ∧ RdOk r' (m + 200000) ∧ exN x ≤ 256 := by
  unfold spec_l2Some.f
  obtain ⟨v, r1, e1, e2, e3, e4, e5⟩ := pick_ok r 4 m hr (by omega) (by omega)
  have hv := e3 (by omega)
  rw [e1]
  simp only [Option.bind_some]
  rw [wr (1 + v) (by omega)]
  obtain ⟨d, hd⟩ : ∃ d : Nat, 1 + v = (d : Int) := ⟨(1 + v).toNat, by omega⟩
  have t4 : (4 : Nat) ^ d ≤ 4 ^ 4 := Nat.pow_le_pow_right (by omega) (by omega)
  have t10 : (10 : Nat) ^ (d + 1) ≤ 10 ^ 5 := Nat.pow_le_pow_right (by omega) (by omega)
  have t10i : ((10 ^ (d + 1) : Nat) : Int) = (10 : Int) ^ (d + 1) := by push_cast; rfl
  obtain ⟨x, r2, g1, g2, g3⟩ := l2Ex_k d (by omega) k (by omega) r1 (m + 1) e5 (by omega)
  rw [hd, g1]
  simp only [Option.bind_some]
  rw [spec_ExOk_k x (by omega) k (by omega)]
  simp only [Option.bind_some]
  split
  · exact ⟨_, _, rfl, g2.mono (by omega), by omega⟩
  · obtain ⟨y, r3, f1, f2, f3⟩ := l2Ex_k 2 (by omega) k (by omega) r2 (m + 1 + (10 ^ (d + 1) : Nat)) g2 (by omega)
    rw [show (2 : Int) = ((2 : Nat) : Int) from rfl, f1]
    exact ⟨_, _, rfl, f2.mono (by omega), by show exN y ≤ 256; omega⟩
theorem l2Copy_loop (k : Nat) (rec' : GEx → Option GEx) (e : GEx) (hl : e.Kids.length ≤ 1000000) (H : ∀ y ∈ e.Kids, rec' y = some y) : ∀ (d i n : Nat) (acc : List GEx), i + d = e.Kids.length → d < n → acc = e.Kids.take i → spec_l2Copy.l0 k rec' e n acc (i : Int) = some e.Kids := by
  intro d
  induction d with
  | zero =>
    intro i n acc hi hn ha
    obtain ⟨n, rfl⟩ : ∃ m, n = m + 1 := ⟨n - 1, by omega⟩
    rw [spec_l2Copy.l0, if_neg (by omega), ha, List.take_of_length_le (by omega)]
  | succ d ih =>
    intro i n acc hi hn ha
    obtain ⟨n, rfl⟩ : ∃ m, n = m + 1 := ⟨n - 1, by omega⟩
    have h : i < e.Kids.length := by omega
    rw [spec_l2Copy.l0, if_pos (by omega), req_pos (by omega), Int.toNat_natCast, List.getElem?_eq_getElem h]
    simp only [Option.bind_some, H _ (List.getElem_mem h)]
    have hal : acc.length ≤ e.Kids.length := by rw [ha, List.length_take]; omega
    rw [req_pos (by omega), wrS i (by omega)]
    refine ih (i + 1) n _ (by omega) (by omega) ?_
    rw [ha, List.take_add_one, List.getElem?_eq_getElem h]; rfl
theorem l2Copy_k : ∀ e : GEx, exN e ≤ 1000000 → ∀ k : Nat, 1000000000000 + exN e ≤ k → spec_l2Copy.f k e = some e := by
  refine exInd fun e ih hn k hk => ?_
  rw [exN_eq] at hn hk
  obtain ⟨k, rfl⟩ : ∃ m, k = m + 1 := ⟨k - 1, by omega⟩
  have hq := exNs_len e.Kids
  have := l2Copy_loop k (spec_l2Copy.f k) e (by omega) (fun y hy => by have := exNs_mem hy; exact ih y hy (by omega) k (by omega)) e.Kids.length 0 k [] (by omega) (by omega) (by simp)
  rw [show ((0 : Nat) : Int) = 0 from rfl] at this
  rw [spec_l2Copy.f, this]; cases e; rfl
theorem bent_loop0 (k : Nat) : ∀ (c n : Nat) (a b d : Int) (ks : List GEx), c ≤ 5 → c < n → exNs ks + c ≤ 100000 → ∃ a' b' d' ks', spec_l2Bent.l0 k n a b d ks (5 - (c : Int)) = some (a', b', d', ks') ∧ exNs ks' ≤ exNs ks + c := by
  intro c
  induction c with
  | zero =>
    intro n a b d ks hc hn hk
    obtain ⟨n, rfl⟩ : ∃ m, n = m + 1 := ⟨n - 1, by omega⟩
    rw [spec_l2Bent.l0, if_neg (by omega)]
    exact ⟨_, _, _, _, rfl, by omega⟩
  | succ c ih =>
    intro n a b d ks hc hn hk
    obtain ⟨n, rfl⟩ : ∃ m, n = m + 1 := ⟨n - 1, by omega⟩
    rw [spec_l2Bent.l0, if_pos (by omega), wr _ (by omega), show 5 - ((c + 1 : Nat) : Int) + 1 = 5 - (c : Int) by omega]
    have e : exNs [(⟨a, b, d, ks⟩ : GEx)] = 1 + exNs ks := by rw [exNs_one, exN_eq]
    obtain ⟨a', b', d', ks', h1, h2⟩ := ih n 7 0 1 [⟨a, b, d, ks⟩] (by omega) (by omega) (by omega)
    exact ⟨_, _, _, _, h1, by omega⟩
theorem bent_loop1 (k : Nat) (hk : 2000000000000 ≤ k) : ∀ (c n : Nat) (a b d : Int) (ks : List GEx), c ≤ 4 → c < n → (exNs ks + 3) * 2 ^ c ≤ 100000 → ∃ a' b' d' ks', spec_l2Bent.l1 k n a b d ks (4 - (c : Int)) = some (a', b', d', ks') ∧ exNs ks' ≤ 100000 := by
  intro c
  induction c with
  | zero =>
    intro n a b d ks hc hn hk
    obtain ⟨n, rfl⟩ : ∃ m, n = m + 1 := ⟨n - 1, by omega⟩
    rw [spec_l2Bent.l1, if_neg (by omega)]
    exact ⟨_, _, _, _, rfl, by omega⟩
  | succ c ih =>
    intro n a b d ks hc hn hks
    obtain ⟨n, rfl⟩ : ∃ m, n = m + 1 := ⟨n - 1, by omega⟩
    have p2 : (2 : Nat) ^ (c + 1) = 2 ^ c * 2 := Nat.pow_succ ..
    have b2 : 1 ≤ (2 : Nat) ^ c := Nat.one_le_pow c 2 (by omega)
    have e : exN (⟨a, b, d, ks⟩ : GEx) = 1 + exNs ks := by rw [exN_eq]
    have m2 : (exNs ks + 3) * 2 ^ (c + 1) = (2 * (exNs ks + 3)) * 2 ^ c := by rw [p2, Nat.mul_comm (2 ^ c) 2, ← Nat.mul_assoc, Nat.mul_comm (exNs ks + 3) 2]
    have m3 : 2 * (exNs ks + 3) ≤ 2 * (exNs ks + 3) * 2 ^ c := Nat.le_mul_of_pos_right _ (by omega)
    rw [spec_l2Bent.l1, if_pos (by omega), l2Copy_k _ (by omega) k (by omega), wr _ (by omega), show 4 - ((c + 1 : Nat) : Int) + 1 = 4 - (c : Int) by omega]
    simp only [Option.bind_some]
    have e2 : exNs [(⟨a, b, d, ks⟩ : GEx), ⟨a, b, d, ks⟩] = 2 * (exNs ks + 1) := by rw [exNs_cons, exNs_one]; omega
    refine ih n 2 0 0 _ (by omega) (by omega) ?_
    rw [e2]
    exact Nat.le_trans (Nat.mul_le_mul_right (m := 2 * (exNs ks + 3)) _ (by omega)) (by rw [← m2]; exact hks)
theorem l2Bent_k (k : Nat) (hk : 2000000000000 ≤ k) (r : Gl14Rd) (m : Int) (hr : RdOk r m) (hm : m ≤ 400000) : ∃ x r', spec_l2Bent.f k r = some (x, r') ∧ RdOk r' (m + 300000) ∧ exN x ≤ 100001 := by
  unfold spec_l2Bent.f
  obtain ⟨x, r1, e1, e2, e3⟩ := l2Some_k k hk r m hr (by omega)
  rw [e1]
  simp only [Option.bind_some]
  obtain ⟨v, r2, g1, g2, g3, g4, g5⟩ := pick_ok r1 60 (m + 200000) e2 (by omega) (by omega)
  rw [g1]
  simp only [Option.bind_some]
  have hx : exNs x.Kids ≤ 256 := by rw [exN_eq] at e3; omega
  have fin : ∀ a b c, exN (⟨a, b, c, x.Kids⟩ : GEx) ≤ 100001 := fun a b c => by rw [exN_eq]; show 1 + exNs x.Kids ≤ _; omega
  split
  · obtain ⟨w, r3, f1, f2, f3⟩ := num_ok r2 [0, 8, 2, 5] (m + 200000 + 1) g5 (by omega) (by simp)
    rw [f1]
    exact ⟨_, _, rfl, f3.mono (by omega), fin _ _ _⟩
  split
  · obtain ⟨w, r3, f1, f2, f3⟩ := num_ok r2 [(-1), 5, 1] (m + 200000 + 1) g5 (by omega) (by simp)
    rw [f1]
    exact ⟨_, _, rfl, f3.mono (by omega), fin _ _ _⟩
  split
  · obtain ⟨w, r3, f1, f2, f3⟩ := num_ok r2 [(-1), 21, 1, 0] (m + 200000 + 1) g5 (by omega) (by simp)
    rw [f1]
    exact ⟨_, _, rfl, f3.mono (by omega), fin _ _ _⟩
  split
  · obtain ⟨a', b', d', ks', q1, q2⟩ := bent_loop0 k 5 k x.Kind x.Sym x.N x.Kids (by omega) (by omega) (by omega)
    rw [show (5 : Int) - ((5 : Nat) : Int) = 0 from rfl] at q1
    rw [q1]
    exact ⟨_, _, rfl, g5.mono (by omega), by rw [exN_eq]; show 1 + exNs ks' ≤ _; omega⟩
  split
  · obtain ⟨a', b', d', ks', q1, q2⟩ := bent_loop1 k hk 4 k x.Kind x.Sym x.N x.Kids (by omega) (by omega) (by omega)
    rw [show (4 : Int) - ((4 : Nat) : Int) = 0 from rfl] at q1
    rw [q1]
    exact ⟨_, _, rfl, g5.mono (by omega), by rw [exN_eq]; show 1 + exNs ks' ≤ _; omega⟩
  · exact ⟨_, _, rfl, g5.mono (by omega), by show exN x ≤ _; omega⟩
/- Events that are drawn; a tree, a mode and events. -/
theorem l1Evs_loop (k : Nat) : ∀ (c n : Nat) (b : List Int) (p m at' : Int) (acc : List GEv), c < n → c ≤ 100 → RdOk ⟨b, p⟩ m → m + 3 * c ≤ 1000000000 → 0 ≤ at' → at' + 7 * c ≤ 1000000 → acc.length + c ≤ 1000 →
    ∃ acc' b' p', spec_l1Evs.l0 k n b p acc at' (c : Int) = some (acc', b', p') ∧ RdOk ⟨b', p'⟩ (m + 3 * c) ∧ acc'.length = acc.length + c := by
  intro c
  induction c with
  | zero =>
    intro n b p m at' acc hn hc hr hm h0 h1 ha
    obtain ⟨n, rfl⟩ : ∃ m, n = m + 1 := ⟨n - 1, by omega⟩
    rw [spec_l1Evs.l0, if_neg (by omega)]
    exact ⟨_, _, _, rfl, hr.mono (by omega), by omega⟩
  | succ c ih =>
    intro n b p m at' acc hn hc hr hm h0 h1 ha
    obtain ⟨n, rfl⟩ : ∃ m, n = m + 1 := ⟨n - 1, by omega⟩
    obtain ⟨v, r1, e1, e2, e3⟩ := num_ok ⟨b, p⟩ [1, 1, 1, 2, 3, 7] m hr (by omega) (by simp)
    obtain ⟨w, r2, f1, f2, f3⟩ := num_ok r1 [0, 0, 1, 1, 2, 2, 3, 4] (m + 1) e3 (by omega) (by simp)
    obtain ⟨u, r3, g1, g2, g3⟩ := num_ok r2 [0, 0, 1, 5, 100] (m + 1 + 1) f3 (by omega) (by simp)
    have hv : 1 ≤ v ∧ v ≤ 7 := by
      simp only [List.mem_cons, List.not_mem_nil, or_false] at e2
      omega
    rw [spec_l1Evs.l0, if_pos (by omega), e1]
    simp only [Option.bind_some]
    rw [f1]
    simp only [Option.bind_some]
    rw [g1]
    simp only [Option.bind_some]
    rw [req_pos (by omega), wr (at' + v) (by omega), wrP c (by omega)]
    obtain ⟨acc', b', p', q1, q2, q3⟩ := ih n r3.b r3.p (m + 1 + 1 + 1) (at' + v) (acc ++ [⟨w, at' + v, u⟩]) (by omega) (by omega) g3 (by omega) (by omega) (by omega) (by simp; omega)
    exact ⟨acc', b', p', q1, q2.mono (by omega), by rw [q3]; simp; omega⟩
theorem l1Evs_k (k : Nat) (hk : 1000 ≤ k) (r : Gl14Rd) (m : Int) (hr : RdOk r m) (hm : m ≤ 1000000) (q : Nat) (hq : q ≤ 50) : ∃ l r', spec_l1Evs.f k r (q : Int) = some (l, r') ∧ RdOk r' (m + 200) ∧ l.length ≤ q := by
  unfold spec_l1Evs.f
  rw [wrS q (by omega)]
  obtain ⟨v, r1, e1, e2, e3, e4, e5⟩ := pick_ok r ((q + 1 : Nat) : Int) m hr (by omega) (by omega)
  have hv := e3 (by omega)
  rw [e1]
  simp only [Option.bind_some]
  obtain ⟨c, rfl⟩ : ∃ c : Nat, v = (c : Int) := ⟨v.toNat, by omega⟩
  obtain ⟨acc', b', p', q1, q2, q3⟩ := l1Evs_loop k c k r1.b r1.p (m + 1) 0 [] (by omega) (by omega) e5 (by omega) (by omega) (by omega) (by simp; omega)
  rw [q1]
  exact ⟨_, _, rfl, q2.mono (by omega), by rw [q3]; simp; omega⟩
theorem l1Bent_loop (k : Nat) : ∀ (d n : Nat) (l : List GEv), l.length + d = 25 → d < n → 1 ≤ l.length → ∃ l', spec_l1Bent.l0 k n l = some l' ∧ l'.length = 25 := by
  intro d
  induction d with
  | zero =>
    intro n l hl hn h1
    obtain ⟨n, rfl⟩ : ∃ m, n = m + 1 := ⟨n - 1, by omega⟩
    rw [spec_l1Bent.l0, if_pos (by omega)]
    exact ⟨l, rfl, by omega⟩
  | succ d ih =>
    intro n l hl hn h1
    obtain ⟨n, rfl⟩ : ∃ m, n = m + 1 := ⟨n - 1, by omega⟩
    obtain ⟨j, hj⟩ : ∃ j, l.length = j + 1 := ⟨l.length - 1, by omega⟩
    have ej : IntKind.wrap .i64 (((l.length : Nat) : Int) - 1) = (j : Int) := by rw [hj]; exact wrP j (by omega)
    rw [spec_l1Bent.l0, if_neg (by omega), ej, req_pos (by omega), req_pos (by omega), Int.toNat_natCast, List.getElem?_eq_getElem (show j < l.length by omega)]
    simp only [Option.bind_some]
    rw [req_pos (by omega)]
    exact ih n _ (by simp; omega) (by omega) (by simp)
theorem l1Bent_k (k : Nat) (hk : 1000 ≤ k) (r : Gl14Rd) (m : Int) (hr : RdOk r m) (hm : m ≤ 1000000) : ∃ l r', spec_l1Bent.f k r = some (l, r') ∧ RdOk r' (m + 300) ∧ l.length ≤ 25 := by
  unfold spec_l1Bent.f
  obtain ⟨l, r1, e1, e2, e3⟩ := l1Evs_k k hk r m hr hm 12 (by omega)
  rw [show (12 : Int) = ((12 : Nat) : Int) from rfl, e1]
  simp only [Option.bind_some]
  by_cases h0 : ((l.length : Nat) : Int) = 0
  · rw [if_pos h0]; exact ⟨_, _, rfl, e2.mono (by omega), by show l.length ≤ 25; omega⟩
  rw [if_neg h0]
  obtain ⟨v, r2, f1, f2, f3, f4, f5⟩ := pick_ok r1 ((l.length : Nat) : Int) (m + 200) e2 (by omega) (by omega)
  have hv := f3 (by omega)
  rw [f1]
  simp only [Option.bind_some]
  obtain ⟨i, rfl⟩ : ∃ i : Nat, v = (i : Int) := ⟨v.toNat, by omega⟩
  have hi : i < l.length := by omega
  obtain ⟨w, r3, g1, g2, g3, g4, g5⟩ := pick_ok r2 40 (m + 200 + 1) f5 (by omega) (by omega)
  rw [g1]
  simp only [Option.bind_some]
  split
  · obtain ⟨u, r4, q1, q2, q3⟩ := num_ok r3 [(-1), 5] (m + 200 + 1 + 1) g5 (by omega) (by simp)
    rw [q1]
    simp only [Option.bind_some]
    rw [req_pos (by omega), req_pos (by omega), Int.toNat_natCast, List.getElem?_eq_getElem hi]
    exact ⟨_, _, rfl, q3.mono (by omega), by simp; omega⟩
  split
  · rw [req_pos (by omega), req_pos (by omega), List.getElem?_eq_getElem (show 0 < l.length by omega)]
    simp only [Option.bind_some]
    obtain ⟨u, r4, q1, q2, q3⟩ := num_ok r3 [0, 1001, l[0].At] (m + 200 + 1 + 1) g5 (by omega) (by simp)
    rw [q1]
    simp only [Option.bind_some]
    rw [req_pos (by omega), req_pos (by omega), Int.toNat_natCast, List.getElem?_eq_getElem hi]
    exact ⟨_, _, rfl, q3.mono (by omega), by simp; omega⟩
  split
  · obtain ⟨u, r4, q1, q2, q3⟩ := num_ok r3 [(-1), 101] (m + 200 + 1 + 1) g5 (by omega) (by simp)
    rw [q1]
    simp only [Option.bind_some]
    rw [req_pos (by omega), req_pos (by omega), Int.toNat_natCast, List.getElem?_eq_getElem hi]
    exact ⟨_, _, rfl, q3.mono (by omega), by simp; omega⟩
  split
  · obtain ⟨l', q1, q2⟩ := l1Bent_loop k (25 - l.length) k l (by omega) (by omega) (by omega)
    rw [q1]
    exact ⟨_, _, rfl, g5.mono (by omega), by show l'.length ≤ 25; omega⟩
  · exact ⟨_, _, rfl, g5.mono (by omega), by show l.length ≤ 25; omega⟩
theorem l4Draw_k (r : Gl14Rd) (m : Int) (hr : RdOk r m) (hm : m ≤ 1000000) : ∃ v r', spec_l4Draw.f r = some (v, r') ∧ RdOk r' (m + 1) ∧ -1 ≤ v ∧ v ≤ 5 := by
  unfold spec_l4Draw.f
  obtain ⟨v, r1, e1, e2, e3⟩ := num_ok r [0, 1, 2, 3, 4, 0, 1, 2, 3, 4, 0, 1, 2, 3, 4, (-1), 5] m hr (by omega) (by simp)
  rw [e1]
  refine ⟨v, r1, rfl, e3, ?_⟩
  simp only [List.mem_cons, List.not_mem_nil, or_false] at e2
  omega
theorem l6Look_k (k : Nat) (hk : 2000000000000 ≤ k) (r : Gl14Rd) (m : Int) (hr : RdOk r m) (hm : m ≤ 100000) : ∃ x mode l r', spec_l6Look.f k r = some (x, mode, l, r') ∧ RdOk r' (m + 900000) ∧ exN x ≤ 100001 ∧ l.length ≤ 25 ∧ -1 ≤ mode ∧ mode ≤ 5 := by
  unfold spec_l6Look.f
  obtain ⟨x, r1, e1, e2, e3⟩ := l2Some_k k hk r m hr (by omega)
  rw [e1]
  simp only [Option.bind_some]
  obtain ⟨mode, r2, f1, f2, f3⟩ := l4Draw_k r1 (m + 200000) e2 (by omega)
  rw [f1]
  simp only [Option.bind_some]
  obtain ⟨v, r3, g1, g2, g3, g4, g5⟩ := pick_ok r2 30 (m + 200000 + 1) f2 (by omega) (by omega)
  rw [g1]
  simp only [Option.bind_some]
  split
  · obtain ⟨y, r4, q1, q2, q3⟩ := l2Bent_k k hk r3 (m + 200000 + 1 + 1) g5 (by omega)
    rw [q1]
    simp only [Option.bind_some]
    obtain ⟨l, r5, s1, s2, s3⟩ := l1Evs_k k (by omega) r4 (m + 200000 + 1 + 1 + 300000) q2 (by omega) 10 (by omega)
    rw [show (10 : Int) = ((10 : Nat) : Int) from rfl, s1]
    exact ⟨_, _, _, _, rfl, s2.mono (by omega), q3, by show l.length ≤ 25; omega, f3⟩
  split
  · obtain ⟨l, r5, s1, s2, s3⟩ := l1Bent_k k (by omega) r3 (m + 200000 + 1 + 1) g5 (by omega)
    rw [s1]
    exact ⟨_, _, _, _, rfl, s2.mono (by omega), by show exN x ≤ _; omega, s3, f3⟩
  split
  · obtain ⟨l, r5, s1, s2, s3⟩ := l1Evs_k k (by omega) r3 (m + 200000 + 1 + 1) g5 (by omega) 24 (by omega)
    rw [show (24 : Int) = ((24 : Nat) : Int) from rfl, s1]
    exact ⟨_, _, _, _, rfl, s2.mono (by omega), by show exN x ≤ _; omega, by show l.length ≤ 25; omega, f3⟩
  · obtain ⟨l, r5, s1, s2, s3⟩ := l1Evs_k k (by omega) r3 (m + 200000 + 1 + 1) g5 (by omega) 11 (by omega)
    rw [show (11 : Int) = ((11 : Nat) : Int) from rfl, s1]
    exact ⟨_, _, _, _, rfl, s2.mono (by omega), by show exN x ≤ _; omega, by show l.length ≤ 25; omega, f3⟩
/- What is meant, drawn. -/
theorem DrawMeanOf_k (k : Nat) (hk : 2000000000000 ≤ k) (l : List Int) (hl : l.length ≤ 1048576) (hb : ∀ y ∈ l, 0 ≤ y ∧ y ≤ 255) : ∃ x mode ev, spec_DrawMeanOf.f k l = some (x, mode, ev) ∧ exN x ≤ 100001 ∧ ev.length ≤ 25 ∧ -1 ≤ mode ∧ mode ≤ 5 := by
  unfold spec_DrawMeanOf.f
  obtain ⟨r, e1, e2⟩ := l14Open_ok l hl hb
  rw [e1]
  simp only [Option.bind_some]
  obtain ⟨x, mode, ev, r', f1, f2, f3⟩ := l6Look_k k hk r 0 e2 (by omega)
  rw [f1]
  exact ⟨_, _, _, rfl, f3⟩
/- Occurrences alike. -/
theorem OccsSame_loop (k : Nat) (l : List GOcc) (hl : l.length ≤ 1000) (hm : IdsLe l 1000) (hk : 1001 ≤ k) : ∀ (d n i : Nat), i + d = l.length → d < n →
    slices_EqualFunc.l0 k (fun y0 y1 => impl_OccsSame_1.f k y0 y1) l l n (i : Int) = some (.ok ()) := by
  intro d
  induction d with
  | zero =>
    intro n i hi hn
    obtain ⟨n, rfl⟩ : ∃ m, n = m + 1 := ⟨n - 1, by omega⟩
    rw [slices_EqualFunc.l0, if_neg (by omega)]
  | succ d ih =>
    intro n i hi hn
    obtain ⟨n, rfl⟩ : ∃ m, n = m + 1 := ⟨n - 1, by omega⟩
    have hlt : i < l.length := by omega
    have hb := hm l[i] (List.getElem_mem hlt)
    rw [slices_EqualFunc.l0, if_pos (by omega), req_pos (by omega), Int.toNat_natCast, List.getElem?_eq_getElem hlt]
    simp only [Option.bind_some]
    rw [req_pos (by omega)]
    simp only [impl_OccsSame_1.f, impl_compare_eq l[i] l[i] (by omega) k (by omega), occCmp_refl, Option.bind_some, BEq.rfl, if_true]
    rw [wrS i (by omega)]
    exact ih n (i + 1) (by omega) (by omega)
theorem OccsSame_refl (k : Nat) (l : List GOcc) (hl : l.length ≤ 1000) (hm : IdsLe l 1000) (hk : 1001 ≤ k) : impl_OccsSame.f k l l = some true := by
  unfold impl_OccsSame.f slices_EqualFunc.f
  have := OccsSame_loop k l hl hm hk l.length k 0 (by omega) (by omega)
  rw [show ((0 : Nat) : Int) = 0 from rfl] at this
  rw [if_pos rfl, this]; rfl
/- Turned names, later times: both programs. -/
/-- which of the first i elements stand again among those before them, or are no types -/
def byGood (l : List Int) (i : Nat) : Bool := match l[i]? with
  | some x => decide (0 ≤ x) && decide (x ≤ 4) && !((l.take i).contains x)
  | none => false
def turnBy (l : List Int) : Bool := (List.range' 0 l.length).all (byGood l) && decide (l.length = 5)
theorem slices_Index_loop (k : Nat) (l : List Int) (x : Int) (hl : l.length < 4611686018427387904) : ∀ (d n i : Nat), i + d = l.length → d < n →
    slices_Index.l0 k l x n (i : Int) = some (match (l.drop i).idxOf? x with
      | some j => .error ((i + j : Nat) : Int)
      | none => .ok ()) := by
  intro d
  induction d with
  | zero =>
    intro n i hi hn
    obtain ⟨n, rfl⟩ : ∃ m, n = m + 1 := ⟨n - 1, by omega⟩
    rw [slices_Index.l0, if_neg (by omega), List.drop_eq_nil_of_le (by omega)]; rfl
  | succ d ih =>
    intro n i hi hn
    obtain ⟨n, rfl⟩ : ∃ m, n = m + 1 := ⟨n - 1, by omega⟩
    have hlt : i < l.length := by omega
    rw [slices_Index.l0, if_pos (by omega), req_pos (by omega), Int.toNat_natCast, List.getElem?_eq_getElem hlt]
    simp only [Option.bind_some]
    rw [List.drop_eq_getElem_cons hlt, List.idxOf?_cons]
    by_cases h : x = l[i]
    · rw [if_pos h]; simp [h]
    · rw [if_neg h, wrS i (by omega), ih n (i + 1) (by omega) (by omega)]
      have : (l[i] == x) = false := by simpa using fun e => h e.symm
      rw [this]
      cases (l.drop (i + 1)).idxOf? x with
      | none => rfl
      | some j => simp only [Bool.false_eq_true, if_false, Option.map_some, Option.some.injEq, Except.error.injEq]; push_cast; omega
theorem slices_Contains_eq (l : List Int) (x : Int) (hl : l.length < 4611686018427387904) : ∀ k, l.length + 1 ≤ k → slices_Contains.f k l x = some (l.contains x) := by
  intro k hk
  unfold slices_Contains.f slices_Index.f
  have := slices_Index_loop k l x hl l.length k 0 (by omega) (by omega)
  rw [show ((0 : Nat) : Int) = 0 from rfl] at this
  rw [this]
  simp only [List.drop_zero]
  cases h : l.idxOf? x with
  | none =>
    have : x ∉ l := by simpa using h
    simp [this]
  | some j =>
    have : x ∈ l := by
      rcases Classical.em (x ∈ l) with h1 | h1
      · exact h1
      · rw [← List.idxOf?_eq_none_iff] at h1; rw [h1] at h; cases h
    simp [this]
theorem impl_TurnBy_loop (k : Nat) (l : List Int) (hl : l.length < 4611686018427387904) (hk : l.length + 1 ≤ k) : ∀ (d n i : Nat), i + d = l.length → d < n →
    impl_TurnBy.l0 k l n (i : Int) = some (if (List.range' i d).all (byGood l) then .ok () else .error false) := by
  intro d
  induction d with
  | zero =>
    intro n i hi hn
    obtain ⟨n, rfl⟩ : ∃ m, n = m + 1 := ⟨n - 1, by omega⟩
    rw [impl_TurnBy.l0, if_neg (by omega)]; simp
  | succ d ih =>
    intro n i hi hn
    obtain ⟨n, rfl⟩ : ∃ m, n = m + 1 := ⟨n - 1, by omega⟩
    have hlt : i < l.length := by omega
    have hnext := ih n (i + 1) (by omega) (by omega)
    rw [impl_TurnBy.l0, if_pos (by omega), req_pos (by omega), Int.toNat_natCast, List.getElem?_eq_getElem hlt]
    simp only [Option.bind_some, impl_isSym.f, in_eq, List.range'_succ, List.all_cons]
    have hg : byGood l i = (decide (0 ≤ l[i]) && decide (l[i] ≤ 4) && !((l.take i).contains l[i])) := by unfold byGood; rw [List.getElem?_eq_getElem hlt]
    rw [hg]
    cases h : (decide (0 ≤ l[i]) && decide (l[i] ≤ 4))
    · simp
    · simp only [if_true]
      rw [req_pos (by omega), req_pos (by omega), req_pos (by omega), slices_Contains_eq _ _ (by simp; omega) k (by simp; omega)]
      simp only [Option.bind_some]
      cases h2 : (l.take i).contains l[i]
      · simp only [Bool.false_eq_true, if_false]
        rw [wrS i (by omega), hnext]; simp only [Bool.not_false, Bool.true_and]
      · simp
theorem spec_TurnBy_inner (k : Nat) (l : List Int) (i : Nat) (hlt : i < l.length) (hl : l.length < 4611686018427387904) : ∀ (d n j : Nat), j + d = i → d < n →
    spec_TurnBy.l3 k l (i : Int) n (j : Int) = some (if ((l.take i).drop j).contains l[i] then .error false else .ok ()) := by
  intro d
  induction d with
  | zero =>
    intro n j hj hn
    obtain ⟨n, rfl⟩ : ∃ m, n = m + 1 := ⟨n - 1, by omega⟩
    rw [spec_TurnBy.l3, if_neg (by omega), List.drop_eq_nil_of_le (by simp; omega)]; rfl
  | succ d ih =>
    intro n j hj hn
    obtain ⟨n, rfl⟩ : ∃ m, n = m + 1 := ⟨n - 1, by omega⟩
    have hjl : j < l.length := by omega
    rw [spec_TurnBy.l3, if_pos (by omega), req_pos (by omega), Int.toNat_natCast, List.getElem?_eq_getElem hjl]
    simp only [Option.bind_some]
    rw [req_pos (by omega), Int.toNat_natCast, List.getElem?_eq_getElem hlt]
    simp only [Option.bind_some]
    rw [List.drop_eq_getElem_cons (by simp; omega), List.contains_cons]
    simp only [List.getElem_take]
    by_cases h : l[j] = l[i]
    · rw [if_pos h]; simp [h]
    · rw [if_neg h, wrS j (by omega), ih n (j + 1) (by omega) (by omega)]
      have : (l[i] == l[j]) = false := by simpa using fun e => h e.symm
      rw [this, Bool.false_or]
theorem spec_TurnBy_loop (k : Nat) (l : List Int) (hl : l.length < 4611686018427387904) (hk : l.length + 1 ≤ k) : ∀ (d n i : Nat), i + d = l.length → d < n →
    spec_TurnBy.l2 k l n (i : Int) = some (if (List.range' i d).all (byGood l) then .ok () else .error false) := by
  intro d
  induction d with
  | zero =>
    intro n i hi hn
    obtain ⟨n, rfl⟩ : ∃ m, n = m + 1 := ⟨n - 1, by omega⟩
    rw [spec_TurnBy.l2, if_neg (by omega)]; simp
  | succ d ih =>
    intro n i hi hn
    obtain ⟨n, rfl⟩ : ∃ m, n = m + 1 := ⟨n - 1, by omega⟩
    have hlt : i < l.length := by omega
    have hnext := ih n (i + 1) (by omega) (by omega)
    rw [spec_TurnBy.l2, if_pos (by omega), req_pos (by omega), Int.toNat_natCast, List.getElem?_eq_getElem hlt]
    simp only [Option.bind_some, List.range'_succ, List.all_cons]
    have hg : byGood l i = (decide (0 ≤ l[i]) && decide (l[i] ≤ 4) && !((l.take i).contains l[i])) := by unfold byGood; rw [List.getElem?_eq_getElem hlt]
    rw [hg]
    by_cases h1 : l[i] < 0
    · rw [if_pos h1]
      have : ¬ 0 ≤ l[i] := by omega
      simp [this]
    rw [if_neg h1, req_pos (by omega)]
    by_cases h2 : l[i] < 5
    · rw [if_pos h2]
      have hin := spec_TurnBy_inner k l i hlt hl i k 0 (by omega) (by omega)
      rw [show ((0 : Nat) : Int) = 0 from rfl, List.drop_zero] at hin
      rw [hin]
      have e1 : 0 ≤ l[i] := by omega
      have e2 : l[i] ≤ 4 := by omega
      simp only [e1, e2, decide_true, Bool.true_and]
      cases (l.take i).contains l[i]
      · simp only [Bool.false_eq_true, if_false, Option.bind_some, Bool.not_false, Bool.true_and]
        rw [wrS i (by omega), hnext]
      · simp
    · rw [if_neg h2]
      have : ¬ l[i] ≤ 4 := by omega
      simp [this]
theorem turnBy_len {l : List Int} (h : turnBy l = true) : l.length = 5 := by
  unfold turnBy at h; simp at h; exact h.2
theorem turnBy_sym {l : List Int} (h : turnBy l = true) {i : Nat} (hi : i < 5) : ∃ x, l[i]? = some x ∧ 0 ≤ x ∧ x ≤ 4 := by
  have hlen := turnBy_len h
  unfold turnBy at h
  simp only [Bool.and_eq_true, List.all_eq_true, List.mem_range'] at h
  have := h.1 i ⟨i, by omega, by omega⟩
  unfold byGood at this
  rw [List.getElem?_eq_getElem (show i < l.length by omega)] at this ⊢
  simp at this
  exact ⟨_, rfl, this.1.1, this.1.2⟩
def swEv (by' : List Int) (e : GEv) : GEv := ⟨by'.getD e.Sym.toNat 0, e.At, e.Val⟩
theorem spec_TurnEvs_loop (k : Nat) (l : List GEv) (b : List Int) (hl : l.length < 100) (hb : turnBy b = true) (hev : ∀ e ∈ l, 0 ≤ e.Sym ∧ e.Sym < 5) : ∀ (d n i : Nat) (acc : List GEv), i + d = l.length → d < n → acc = (l.take i).map (swEv b) →
    spec_TurnEvs.l0 k l b n acc (i : Int) = some (l.map (swEv b)) := by
  intro d
  induction d with
  | zero =>
    intro n i acc hi hn ha
    obtain ⟨n, rfl⟩ : ∃ m, n = m + 1 := ⟨n - 1, by omega⟩
    rw [spec_TurnEvs.l0, if_neg (by omega), ha, show i = l.length by omega, List.take_length]
  | succ d ih =>
    intro n i acc hi hn ha
    obtain ⟨n, rfl⟩ : ∃ m, n = m + 1 := ⟨n - 1, by omega⟩
    have hlt : i < l.length := by omega
    have hal : acc.length = i := by rw [ha]; simp; omega
    obtain ⟨g1, g2⟩ := hev l[i] (List.getElem_mem hlt)
    obtain ⟨x, hx, _⟩ := turnBy_sym hb (i := l[i].Sym.toNat) (by omega)
    rw [spec_TurnEvs.l0, if_pos (by omega), req_pos (by omega), Int.toNat_natCast, List.getElem?_eq_getElem hlt]
    simp only [Option.bind_some]
    rw [req_pos g1, hx]
    simp only [Option.bind_some]
    rw [req_pos (by omega), wrS i (by omega)]
    refine ih n (i + 1) _ (by omega) (by omega) ?_
    rw [ha, show l.take (i + 1) = l.take i ++ [l[i]] from by rw [List.take_add_one, List.getElem?_eq_getElem hlt]; rfl, List.map_append]
    simp [swEv, List.getD, hx]
theorem impl_TurnEvs_loop (k : Nat) (l : List GEv) (b : List Int) (hl : l.length < 100) (hb : turnBy b = true) (hev : ∀ e ∈ l, 0 ≤ e.Sym ∧ e.Sym < 5) : ∀ (d n i : Nat) (acc : List GEv), i + d = l.length → d < n → acc = (l.take i).map (swEv b) ++ l.drop i →
    impl_TurnEvs.l0 k b l n acc (i : Int) = some (l.map (swEv b)) := by
  intro d
  induction d with
  | zero =>
    intro n i acc hi hn ha
    obtain ⟨n, rfl⟩ : ∃ m, n = m + 1 := ⟨n - 1, by omega⟩
    rw [impl_TurnEvs.l0, if_neg (by omega), ha, show i = l.length by omega, List.take_length]; simp
  | succ d ih =>
    intro n i acc hi hn ha
    obtain ⟨n, rfl⟩ : ∃ m, n = m + 1 := ⟨n - 1, by omega⟩
    have hlt : i < l.length := by omega
    have hal : acc.length = l.length := by rw [ha]; simp; omega
    have hget : acc[i]? = some l[i] := by
      rw [ha, List.getElem?_append_right (by simp; omega)]
      simp [hlt, Nat.min_eq_left (Nat.le_of_lt hlt)]
    obtain ⟨g1, g2⟩ := hev l[i] (List.getElem_mem hlt)
    obtain ⟨x, hx, _⟩ := turnBy_sym hb (i := l[i].Sym.toNat) (by omega)
    rw [impl_TurnEvs.l0, if_pos (by omega), req_pos (by omega), req_pos (by omega), Int.toNat_natCast, hget]
    simp only [Option.bind_some]
    rw [req_pos g1, hx]
    simp only [Option.bind_some]
    rw [req_pos (by omega), req_pos (by omega), wrS i (by omega)]
    refine ih n (i + 1) _ (by omega) (by omega) ?_
    rw [ha, List.set_append_right _ _ (by simp; omega)]
    simp only [List.length_map, List.length_take, Nat.min_eq_left (Nat.le_of_lt hlt), Nat.sub_self]
    rw [List.drop_eq_getElem_cons hlt, List.set_cons_zero, show l.take (i + 1) = l.take i ++ [l[i]] from by rw [List.take_add_one, List.getElem?_eq_getElem hlt]; rfl, List.map_append, List.append_assoc]
    simp [swEv, List.getD, hx]
def turnEvs (l : List GEv) (b : List Int) : List GEv := if evsOk l = true ∧ turnBy b = true then l.map (swEv b) else []
theorem evs_sym {l : List GEv} (h : evsOk l = true) : ∀ e ∈ l, 0 ≤ e.Sym ∧ e.Sym < 5 := fun e he => by
  have := evsOk_ok h he
  unfold evOk at this
  simp at this
  omega
def shEv (n : Int) (e : GEv) : GEv := ⟨e.Sym, IntKind.wrap .i64 (e.At + n), e.Val⟩
theorem impl_TurnLate_loop (k : Nat) (l : List GEv) (p1 : Int) (hl : l.length < 100) : ∀ (d n i : Nat) (acc : List GEv), i + d = l.length → d < n → acc = (l.take i).map (shEv p1) ++ l.drop i →
    impl_TurnLate.l0 k p1 l n acc (i : Int) = some (l.map (shEv p1)) := by
  intro d
  induction d with
  | zero =>
    intro n i acc hi hn ha
    obtain ⟨n, rfl⟩ : ∃ m, n = m + 1 := ⟨n - 1, by omega⟩
    rw [impl_TurnLate.l0, if_neg (by omega), ha, show i = l.length by omega, List.take_length]; simp
  | succ d ih =>
    intro n i acc hi hn ha
    obtain ⟨n, rfl⟩ : ∃ m, n = m + 1 := ⟨n - 1, by omega⟩
    have hlt : i < l.length := by omega
    have hal : acc.length = l.length := by rw [ha]; simp; omega
    have hget : acc[i]? = some l[i] := by
      rw [ha, List.getElem?_append_right (by simp; omega)]
      simp [hlt, Nat.min_eq_left (Nat.le_of_lt hlt)]
    rw [impl_TurnLate.l0, if_pos (by omega), req_pos (by omega), req_pos (by omega), Int.toNat_natCast, hget]
    simp only [Option.bind_some]
    rw [req_pos (by omega), req_pos (by omega), wrS i (by omega)]
    refine ih n (i + 1) _ (by omega) (by omega) ?_
    rw [ha, List.set_append_right _ _ (by simp; omega)]
    simp only [List.length_map, List.length_take, Nat.min_eq_left (Nat.le_of_lt hlt), Nat.sub_self]
    rw [List.drop_eq_getElem_cons hlt, List.set_cons_zero, show l.take (i + 1) = l.take i ++ [l[i]] from by rw [List.take_add_one, List.getElem?_eq_getElem hlt]; rfl, List.map_append, List.append_assoc]
    rfl
theorem cloneEvs_eq (l : List GEv) (hl : l.length * 24 ≤ reachBytes) : impl_cloneEvs.f l = some l := by
  unfold impl_cloneEvs.f; exact req_pos (reach_le hl)
mutual
def swEx (b : List Int) : GEx → GEx
  | ⟨a, s, n, ks⟩ => ⟨a, if a = 1 then b.getD s.toNat 0 else s, n, swExs b ks⟩
def swExs (b : List Int) : List GEx → List GEx
  | [] => []
  | x :: xs => swEx b x :: swExs b xs
end
theorem swExs_map (b : List Int) : ∀ l : List GEx, swExs b l = l.map (swEx b)
  | [] => by simp only [swExs]; rfl
  | x :: xs => by simp only [swExs, swExs_map b xs, List.map_cons]
theorem swEx_eq (b : List Int) (e : GEx) : swEx b e = ⟨e.Kind, if e.Kind = 1 then b.getD e.Sym.toNat 0 else e.Sym, e.N, e.Kids.map (swEx b)⟩ := by cases e; simp only [swEx, swExs_map]
theorem exNs_map (f : GEx → GEx) : ∀ (l : List GEx), (∀ x ∈ l, exN (f x) = exN x) → exNs (l.map f) = exNs l
  | [], _ => rfl
  | x :: xs, h => by rw [List.map_cons, exNs_cons, exNs_cons, h x (List.mem_cons_self ..), exNs_map f xs fun y hy => h y (List.mem_cons_of_mem _ hy)]
theorem swEx_n (b : List Int) : ∀ e : GEx, exN (swEx b e) = exN e := by
  refine exInd fun e ih => ?_
  rw [swEx_eq, exN_eq, exN_eq e]
  dsimp only
  rw [exNs_map (swEx b) e.Kids ih]
theorem turn_loops (k : Nat) (rec' : GEx → List Int → Option GEx) (b : List Int) (e : GEx) (f : GEx → GEx) (hl : e.Kids.length ≤ 1048577) (H : ∀ x ∈ e.Kids, rec' x b = some (f x)) :
    ∀ (d n i : Nat) (acc : List GEx), i + d = e.Kids.length → d < n → acc.length = i →
      spec_l12Ex.l0 k rec' e b n acc (i : Int) = some (acc ++ (e.Kids.drop i).map f) ∧ spec_l12Ex.l1 k rec' e b n acc (i : Int) = some (acc ++ (e.Kids.drop i).map f) ∧ impl_Ex_turn.l0 k rec' e b n acc (i : Int) = some (acc ++ (e.Kids.drop i).map f) := by
  intro d
  induction d with
  | zero =>
    intro n i acc hi hn ha
    obtain ⟨n, rfl⟩ : ∃ m, n = m + 1 := ⟨n - 1, by omega⟩
    rw [List.drop_eq_nil_of_le (by omega), List.map_nil, List.append_nil]
    exact ⟨by rw [spec_l12Ex.l0, if_neg (by omega)], by rw [spec_l12Ex.l1, if_neg (by omega)], by rw [impl_Ex_turn.l0, if_neg (by omega)]⟩
  | succ d ih =>
    intro n i acc hi hn ha
    obtain ⟨n, rfl⟩ : ∃ m, n = m + 1 := ⟨n - 1, by omega⟩
    have hlt : i < e.Kids.length := by omega
    obtain ⟨i0, i1, i2⟩ := ih n (i + 1) (acc ++ [f e.Kids[i]]) (by omega) (by omega) (by simp; omega)
    rw [List.drop_eq_getElem_cons hlt, List.map_cons]
    refine ⟨?_, ?_, ?_⟩
    · rw [spec_l12Ex.l0, if_pos (by omega), req_pos (by omega), Int.toNat_natCast, List.getElem?_eq_getElem hlt]
      simp only [Option.bind_some, H e.Kids[i] (List.getElem_mem hlt)]
      rw [req_pos (by omega), wrS i (by omega), i0]; simp
    · rw [spec_l12Ex.l1, if_pos (by omega), req_pos (by omega), Int.toNat_natCast, List.getElem?_eq_getElem hlt]
      simp only [Option.bind_some, H e.Kids[i] (List.getElem_mem hlt)]
      rw [req_pos (by omega), wrS i (by omega), i1]; simp
    · rw [impl_Ex_turn.l0, if_pos (by omega), req_pos (by omega), Int.toNat_natCast, List.getElem?_eq_getElem hlt]
      simp only [Option.bind_some, H e.Kids[i] (List.getElem_mem hlt)]
      rw [req_pos (by omega), wrS i (by omega), i2]; simp
theorem here_one {e : GEx} (h : exHere e = true) : 0 ≤ e.Sym ∧ e.Sym < 5 ∧ (e.Kind = 1 → e.Kids = [] ∧ e.N = 0) := by
  unfold exHere at h
  simp only [Bool.and_eq_true, decide_eq_true_eq] at h
  refine ⟨h.1.1.1.2, h.1.1.2, fun h1 => ?_⟩
  have hk := h.1.1.1.1
  have hn := h.2
  rw [if_neg (by omega)] at hn
  rw [h1] at hk
  have : e.Kids.length = 0 := by have : kidsN 1 = 0 := rfl; omega
  exact ⟨List.length_eq_zero_iff.1 this, by simpa using hn⟩
theorem turn_k (b : List Int) (hb : turnBy b = true) : ∀ e : GEx, exN e ≤ 1048577 → exForm e = true → ∀ k : Nat, 3 * exN e ≤ k → spec_l12Ex.f k e b = some (swEx b e) ∧ impl_Ex_turn.f k e b = some (swEx b e) := by
  refine exInd fun e ih hs hf k hk => ?_
  obtain ⟨hh, hkids⟩ := form_kids hf
  obtain ⟨s0, s5, one⟩ := here_one hh
  rw [exN_eq] at hk hs
  have hq := exNs_len e.Kids
  obtain ⟨k, rfl⟩ : ∃ m, k = m + 1 := ⟨k - 1, by omega⟩
  have H : ∀ x ∈ e.Kids, spec_l12Ex.f k x b = some (swEx b x) ∧ impl_Ex_turn.f k x b = some (swEx b x) := fun x hx => by
    have := exNs_mem hx
    exact ih x hx (by omega) (hkids x hx) k (by omega)
  obtain ⟨i0, i1, _⟩ := turn_loops k (spec_l12Ex.f k) b e (swEx b) (by omega) (fun x hx => (H x hx).1) e.Kids.length k 0 [] (by omega) (by omega) rfl
  obtain ⟨_, _, i2⟩ := turn_loops k (impl_Ex_turn.f k) b e (swEx b) (by omega) (fun x hx => (H x hx).2) e.Kids.length k 0 [] (by omega) (by omega) rfl
  rw [show ((0 : Nat) : Int) = 0 from rfl, List.drop_zero, List.nil_append] at i0 i1 i2
  obtain ⟨y, y1, _, _⟩ := turnBy_sym hb (i := e.Sym.toNat) (by omega)
  have yd : b.getD e.Sym.toNat 0 = y := by rw [List.getD_eq_getElem?_getD, y1]; rfl
  rw [swEx_eq, spec_l12Ex.f, impl_Ex_turn.f, i0, i1, i2]
  by_cases h1 : e.Kind = 1
  · obtain ⟨n1, n2⟩ := one h1
    simp only [if_pos h1, req_pos s0, y1, Option.bind_some, yd, n1, n2, List.map_nil, h1]
    exact ⟨rfl, rfl⟩
  · simp only [if_neg h1, Option.bind_some]
    exact ⟨trivial, trivial⟩
/- shifts -/
def shOcc (n : Int) (o : GOcc) : GOcc := ⟨IntKind.wrap .i64 (o.From + n), IntKind.wrap .i64 (o.To + n), o.Ids⟩
theorem clone_eq (o : GOcc) (h : o.Ids.length ≤ 1000000) : impl_Occ_clone.f o = some o := by
  unfold impl_Occ_clone.f; exact req_pos (by omega)
theorem cloneOccs_loop (k : Nat) (l : List GOcc) (hl : l.length ≤ 1000000) (hm : IdsLe l 1000000) : ∀ (d n i : Nat) (acc : List GOcc), i + d = l.length → d < n → acc = l.take i →
    impl_cloneOccs.l0 k l n acc (i : Int) = some l := by
  intro d
  induction d with
  | zero =>
    intro n i acc hi hn ha
    obtain ⟨n, rfl⟩ : ∃ m, n = m + 1 := ⟨n - 1, by omega⟩
    rw [impl_cloneOccs.l0, if_neg (by omega), ha, show i = l.length by omega, List.take_length]
  | succ d ih =>
    intro n i acc hi hn ha
    obtain ⟨n, rfl⟩ : ∃ m, n = m + 1 := ⟨n - 1, by omega⟩
    have hlt : i < l.length := by omega
    have hal : acc.length = i := by rw [ha]; simp; omega
    rw [impl_cloneOccs.l0, if_pos (by omega), req_pos (by omega), Int.toNat_natCast, List.getElem?_eq_getElem hlt]
    simp only [Option.bind_some, clone_eq _ (hm _ (List.getElem_mem hlt))]
    rw [req_pos (by omega), wrS i (by omega)]
    refine ih n (i + 1) _ (by omega) (by omega) ?_
    rw [ha, List.take_add_one, List.getElem?_eq_getElem hlt]; rfl
theorem cloneOccs_eq (l : List GOcc) (hl : l.length ≤ 1000000) (hm : IdsLe l 1000000) (k : Nat) (hk : l.length + 1 ≤ k) : impl_cloneOccs.f k l = some l := by
  unfold impl_cloneOccs.f
  have := cloneOccs_loop k l hl hm l.length k 0 [] (by omega) (by omega) rfl
  rw [show ((0 : Nat) : Int) = 0 from rfl] at this
  rw [this]; rfl
theorem impl_TurnOccs_loop (k : Nat) (l : List GOcc) (p1 : Int) (hl : l.length ≤ 1000000) : ∀ (d n i : Nat) (acc : List GOcc), i + d = l.length → d < n → acc = (l.take i).map (shOcc p1) ++ l.drop i →
    impl_TurnOccs.l0 k p1 l n acc (i : Int) = some (l.map (shOcc p1)) := by
  intro d
  induction d with
  | zero =>
    intro n i acc hi hn ha
    obtain ⟨n, rfl⟩ : ∃ m, n = m + 1 := ⟨n - 1, by omega⟩
    rw [impl_TurnOccs.l0, if_neg (by omega), ha, show i = l.length by omega, List.take_length]; simp
  | succ d ih =>
    intro n i acc hi hn ha
    obtain ⟨n, rfl⟩ : ∃ m, n = m + 1 := ⟨n - 1, by omega⟩
    have hlt : i < l.length := by omega
    have hal : acc.length = l.length := by rw [ha]; simp; omega
    have hget : acc[i]? = some l[i] := by
      rw [ha, List.getElem?_append_right (by simp; omega)]
      simp [hlt, Nat.min_eq_left (Nat.le_of_lt hlt)]
    rw [impl_TurnOccs.l0, if_pos (by omega), req_pos (by omega), req_pos (by omega), Int.toNat_natCast, hget]
    simp only [Option.bind_some, List.set_set]
    repeat rw [req_pos (by omega)]
    rw [wrS i (by omega)]
    refine ih n (i + 1) _ (by omega) (by omega) ?_
    rw [ha, List.set_append_right _ _ (by simp; omega)]
    simp only [List.length_map, List.length_take, Nat.min_eq_left (Nat.le_of_lt hlt), Nat.sub_self]
    rw [List.drop_eq_getElem_cons hlt, List.set_cons_zero, show l.take (i + 1) = l.take i ++ [l[i]] from by rw [List.take_add_one, List.getElem?_eq_getElem hlt]; rfl, List.map_append, List.append_assoc]
    rfl
def turnOccs (l : List GOcc) (n : Int) : List GOcc := if occsOk l = true ∧ 0 ≤ n ∧ n ≤ 1000 then l.map (shOcc n) else []
theorem impl_TurnOccs_eq (l : List GOcc) (n : Int) (hl : l.length < 4611686018427387904) (m : Nat) (hm : IdsLe l m) (hm2 : m < 4611686018427387904) (k : Nat) (hk : m + l.length + 1 ≤ k) : impl_TurnOccs.f k l n = some (turnOccs l n) := by
  unfold impl_TurnOccs.f turnOccs
  rw [impl_OccsOk_eq l hl m hm hm2 k hk]
  simp only [Option.bind_some, in_eq]
  by_cases h : occsOk l = true
  · rw [if_pos h]
    by_cases h1 : (decide (0 ≤ n) && decide (n ≤ 1000)) = true
    · have h1' : 0 ≤ n ∧ n ≤ 1000 := by simpa using h1
      have hlen := occsOk_len h
      rw [if_pos h1, if_pos ⟨h, h1'.1, h1'.2⟩, cloneOccs_eq l (by omega) (fun o ho => by have := occsOk_all h o ho; omega) k (by omega)]
      simp only [Option.bind_some]
      have := impl_TurnOccs_loop k l n (by omega) l.length k 0 l (by omega) (by omega) (by simp)
      rw [show ((0 : Nat) : Int) = 0 from rfl] at this
      rw [this]; rfl
    · have h1' : ¬ (0 ≤ n ∧ n ≤ 1000) := by simpa using h1
      rw [if_neg h1, if_neg (fun x => h1' x.2)]
  · rw [if_neg h, if_neg (fun x => h x.1)]
theorem EvsSame_loop (k : Nat) (l : List GEv) (hl : l.length ≤ 1000) : ∀ (d n i : Nat), i + d = l.length → d < n → slices_Equal.l0 k l l n (i : Int) = some (.ok ()) := by
  intro d
  induction d with
  | zero =>
    intro n i hi hn
    obtain ⟨n, rfl⟩ : ∃ m, n = m + 1 := ⟨n - 1, by omega⟩
    rw [slices_Equal.l0, if_neg (by omega)]
  | succ d ih =>
    intro n i hi hn
    obtain ⟨n, rfl⟩ : ∃ m, n = m + 1 := ⟨n - 1, by omega⟩
    have hlt : i < l.length := by omega
    rw [slices_Equal.l0, if_pos (by omega), req_pos (by omega), Int.toNat_natCast, List.getElem?_eq_getElem hlt]
    simp only [Option.bind_some]
    rw [req_pos (by omega)]
    simp only [if_true]
    rw [wrS i (by omega)]
    exact ih n (i + 1) (by omega) (by omega)
theorem EvsSame_refl (k : Nat) (l : List GEv) (hl : l.length ≤ 1000) (hk : 1001 ≤ k) : impl_EvsSame.f k l l = some true := by
  unfold impl_EvsSame.f slices_Equal.f
  have := EvsSame_loop k l hl l.length k 0 (by omega) (by omega)
  rw [show ((0 : Nat) : Int) = 0 from rfl] at this
  rw [if_pos rfl, this]; rfl
/- Turned names, later times, for all large bounds; trees alike. -/
theorem impl_TurnBy_k (k : Nat) (hk : 1000000000000 ≤ k) (l : List Int) (hl : l.length ≤ 1000000) : impl_TurnBy.f k l = some (turnBy l) := by
  unfold impl_TurnBy.f turnBy
  have := impl_TurnBy_loop k l (by omega) (by omega) l.length k 0 (by omega) (by omega)
  rw [show ((0 : Nat) : Int) = 0 from rfl] at this
  rw [this]
  cases (List.range' 0 l.length).all (byGood l)
  · simp
  · simp only [if_true, Option.bind_some, Bool.true_and, Option.some.injEq]
    rw [Bool.eq_iff_iff]; simp; omega
theorem spec_TurnBy_k (k : Nat) (hk : 1000000000000 ≤ k) (l : List Int) (hl : l.length ≤ 1000000) : spec_TurnBy.f k l = some (turnBy l) := by
  unfold spec_TurnBy.f turnBy
  by_cases h : (l.length : Int) = 5
  · rw [if_pos h]
    have := spec_TurnBy_loop k l (by omega) (by omega) l.length k 0 (by omega) (by omega)
    rw [show ((0 : Nat) : Int) = 0 from rfl] at this
    rw [this]
    have h5 : l.length = 5 := by omega
    cases (List.range' 0 l.length).all (byGood l) <;> simp [h5]
  · rw [if_neg h]
    have : ¬ l.length = 5 := by omega
    simp [this]
theorem spec_TurnEvs_k (k : Nat) (hk : 1000000000000 ≤ k) (l : List GEv) (b : List Int) (hl : l.length ≤ 1000000) (hb : b.length ≤ 1000000) : spec_TurnEvs.f k l b = some (turnEvs l b) := by
  unfold spec_TurnEvs.f turnEvs
  rw [spec_EvsOk_k k hk l hl]
  simp only [Option.bind_some]
  by_cases h : evsOk l = true
  · rw [if_pos h, spec_TurnBy_k k hk b hb]
    simp only [Option.bind_some]
    by_cases h1 : turnBy b = true
    · have h24 := evsOk_len h
      have := spec_TurnEvs_loop k l b (by omega) h1 (evs_sym h) l.length k 0 [] (by omega) (by omega) rfl
      rw [show ((0 : Nat) : Int) = 0 from rfl] at this
      rw [if_pos h1, if_pos ⟨h, h1⟩, this]; rfl
    · rw [if_neg h1, if_neg (fun x => h1 x.2)]
  · rw [if_neg h, if_neg (fun x => h x.1)]
theorem impl_TurnEvs_k (k : Nat) (hk : 1000000000000 ≤ k) (l : List GEv) (b : List Int) (hl : l.length ≤ 1000000) (hb : b.length ≤ 1000000) : impl_TurnEvs.f k l b = some (turnEvs l b) := by
  unfold impl_TurnEvs.f turnEvs
  rw [impl_EvsOk_k k hk l hl]
  simp only [Option.bind_some]
  by_cases h : evsOk l = true
  · rw [if_pos h, impl_TurnBy_k k hk b hb]
    simp only [Option.bind_some]
    by_cases h1 : turnBy b = true
    · have h24 := evsOk_len h
      have c : impl_cloneEvs.f l = some l := by unfold impl_cloneEvs.f; exact req_pos (by omega)
      have := impl_TurnEvs_loop k l b (by omega) h1 (evs_sym h) l.length k 0 l (by omega) (by omega) (by simp)
      rw [show ((0 : Nat) : Int) = 0 from rfl] at this
      rw [if_pos h1, if_pos ⟨h, h1⟩, c]
      simp only [Option.bind_some]
      rw [this]; rfl
    · rw [if_neg h1, if_neg (fun x => h1 x.2)]
  · rw [if_neg h, if_neg (fun x => h x.1)]
def laterEvs (l : List GEv) (n : Int) : List GEv := if evsOk l = true ∧ 0 ≤ n ∧ n ≤ 1000 ∧ ¬ 1000 < endM l + n then l.map (shEv n) else []
theorem impl_TurnLate_k (k : Nat) (hk : 1000000000000 ≤ k) (l : List GEv) (n : Int) (hl : l.length ≤ 1000000) : impl_TurnLate.f k l n = some (laterEvs l n) := by
  unfold impl_TurnLate.f laterEvs
  rw [impl_EvsOk_k k hk l hl]
  simp only [Option.bind_some]
  by_cases h : evsOk l = true
  · rw [if_pos h, in_eq]
    simp only [Option.bind_some]
    by_cases h1 : 0 ≤ n ∧ n ≤ 1000
    · have h24 := evsOk_len h
      have le := endM_le (evsUp_of h)
      have ge : 0 ≤ endM l := by
        unfold endM
        split
        · rename_i e he
          have := (evsUp_of h).2.1 e (List.mem_of_getLast? he)
          omega
        · omega
      have c : impl_cloneEvs.f l = some l := by unfold impl_cloneEvs.f; exact req_pos (by omega)
      rw [if_pos (by simp [h1]), (now_eq l hl).1]
      simp only [Option.bind_some]
      rw [wr _ (by omega)]
      by_cases h3 : 1000 < endM l + n
      · rw [if_pos h3, if_neg (fun x => x.2.2.2 h3)]
      · have := impl_TurnLate_loop k l n (by omega) l.length k 0 l (by omega) (by omega) (by simp)
        rw [show ((0 : Nat) : Int) = 0 from rfl] at this
        rw [if_neg h3, if_pos ⟨h, h1.1, h1.2, h3⟩, c]
        simp only [Option.bind_some]
        rw [this]; rfl
    · rw [if_neg (by simpa using h1), if_neg (fun x => h1 ⟨x.2.1, x.2.2.1⟩)]
  · rw [if_neg h, if_neg (fun x => h x.1)]
def turnEx (e : GEx) (b : List Int) : GEx := if exOk e = true ∧ turnBy b = true then swEx b e else ⟨0, 0, 0, []⟩
theorem spec_TurnEx_k (k : Nat) (hk : 1000000000000 ≤ k) (e : GEx) (b : List Int) (hs : exN e ≤ 1000000) (hb : b.length ≤ 1000000) : spec_TurnEx.f k e b = some (turnEx e b) := by
  unfold spec_TurnEx.f turnEx
  rw [spec_ExOk_k e (by omega) k (by omega)]
  simp only [Option.bind_some]
  by_cases h : exOk e = true
  · rw [if_pos h, spec_TurnBy_k k hk b hb]
    simp only [Option.bind_some]
    by_cases h2 : turnBy b = true
    · rw [if_pos h2, if_pos ⟨h, h2⟩, (turn_k b h2 e (by omega) (exOk_form h).2 k (by omega)).1]; rfl
    · rw [if_neg h2, if_neg (fun q => h2 q.2)]
  · rw [if_neg h, if_neg (fun q => h q.1)]
theorem impl_TurnEx_k (k : Nat) (hk : 1000000000000 ≤ k) (e : GEx) (b : List Int) (hs : exN e ≤ 1000000) (hb : b.length ≤ 1000000) : impl_TurnEx.f k e b = some (turnEx e b) := by
  unfold impl_TurnEx.f turnEx
  rw [impl_ExOk_k e (by omega) k (by omega)]
  simp only [Option.bind_some]
  by_cases h : exOk e = true
  · rw [if_pos h, impl_TurnBy_k k hk b hb]
    simp only [Option.bind_some]
    by_cases h2 : turnBy b = true
    · rw [if_pos h2, if_pos ⟨h, h2⟩, (turn_k b h2 e (by omega) (exOk_form h).2 k (by omega)).2]; rfl
    · rw [if_neg h2, if_neg (fun q => h2 q.2)]
  · rw [if_neg h, if_neg (fun q => h q.1)]
theorem exSame_loop (k : Nat) (rec' : GEx → GEx → Option Bool) (l : List GEx) (hl : l.length ≤ 1000000) (H : ∀ x ∈ l, rec' x x = some true) : ∀ (d i n : Nat), i + d = l.length → d < n → slices_EqualFunc_2.l0 k rec' l l n (i : Int) = some (.ok ()) := by
  intro d
  induction d with
  | zero =>
    intro i n hi hn
    obtain ⟨n, rfl⟩ : ∃ m, n = m + 1 := ⟨n - 1, by omega⟩
    rw [slices_EqualFunc_2.l0, if_neg (by omega)]
  | succ d ih =>
    intro i n hi hn
    obtain ⟨n, rfl⟩ : ∃ m, n = m + 1 := ⟨n - 1, by omega⟩
    have h : i < l.length := by omega
    rw [slices_EqualFunc_2.l0, if_pos (by omega), req_pos (by omega), Int.toNat_natCast, List.getElem?_eq_getElem h]
    simp only [Option.bind_some]
    rw [req_pos (by omega)]
    simp only [H _ (List.getElem_mem h), Option.bind_some]
    rw [if_pos trivial, wrS i (by omega)]
    exact ih (i + 1) n (by omega) (by omega)
theorem exSame_k : ∀ e : GEx, exN e ≤ 1000000 → ∀ k : Nat, 1000000000000 + exN e ≤ k → impl_ExSame.f k e e = some true := by
  refine exInd fun e ih hn k hk => ?_
  rw [exN_eq] at hn hk
  obtain ⟨k, rfl⟩ : ∃ m, k = m + 1 := ⟨k - 1, by omega⟩
  have hq := exNs_len e.Kids
  have L := exSame_loop k (fun y0 y1 => impl_ExSame.f k y0 y1) e.Kids (by omega) (fun y hy => by have := exNs_mem hy; exact ih y hy (by omega) k (by omega)) e.Kids.length 0 k (by omega) (by omega)
  rw [show ((0 : Nat) : Int) = 0 from rfl] at L
  rw [impl_ExSame.f, if_pos rfl, if_pos rfl, if_pos rfl]
  unfold slices_EqualFunc_2.f
  rw [if_pos rfl, L]; rfl
theorem exMany_k (k : Nat) (hk : 1000000000000 ≤ k) (e : GEx) (hs : exN e ≤ 1000000) : impl_ExMany.f k e = some (if exOk e = true then (exN e : Int) else 0) := by
  unfold impl_ExMany.f
  rw [impl_ExOk_k e (by omega) k (by omega)]
  simp only [Option.bind_some]
  by_cases h : exOk e = true
  · rw [if_pos h, if_pos h, size_k e (by omega) k (by omega)]; rfl
  · rw [if_neg h, if_neg h]
/- a way to rename, drawn -/
theorem l12By_loop (k : Nat) : ∀ (c n : Nat) (b : List Int) (p m : Int) (l : List Int), c < n → c ≤ 4 → RdOk ⟨b, p⟩ m → m + c ≤ 900000000 → l.length = 5 → ∃ b' p' l', spec_l12By.l0 k n b p l (c : Int) = some (b', p', l') ∧ RdOk ⟨b', p'⟩ (m + c) ∧ l'.length = 5 := by
  intro c
  induction c with
  | zero =>
    intro n b p m l hn hc hr hm hl
    obtain ⟨n, rfl⟩ : ∃ m, n = m + 1 := ⟨n - 1, by omega⟩
    rw [spec_l12By.l0, if_neg (by omega)]
    exact ⟨_, _, _, rfl, hr.mono (by omega), hl⟩
  | succ c ih =>
    intro n b p m l hn hc hr hm hl
    obtain ⟨n, rfl⟩ : ∃ m, n = m + 1 := ⟨n - 1, by omega⟩
    rw [spec_l12By.l0, if_pos (by omega), wrS (c + 1) (by omega)]
    obtain ⟨v, r, e1, e2, e3, e4, e5⟩ := pick_ok ⟨b, p⟩ ((c + 1 + 1 : Nat) : Int) m hr (by omega) (by omega)
    have hv := e3 (by omega)
    obtain ⟨q, rfl⟩ : ∃ q : Nat, v = (q : Int) := ⟨v.toNat, by omega⟩
    rw [e1]
    simp only [Option.bind_some]
    rw [req_pos (by omega), req_pos (by omega), Int.toNat_natCast, List.getElem?_eq_getElem (show c + 1 < l.length by omega)]
    simp only [Option.bind_some]
    rw [req_pos (by omega), req_pos (by omega), Int.toNat_natCast, List.getElem?_eq_getElem (show q < l.length by omega)]
    simp only [Option.bind_some]
    rw [req_pos (by omega), req_pos (by omega), req_pos (by omega), req_pos (by omega), List.getElem?_eq_getElem (show q < (l.set (c + 1) l[q]).length by rw [List.length_set]; omega)]
    simp only [Option.bind_some]
    rw [wrP c (by omega)]
    obtain ⟨b', p', l', g1, g2, g3⟩ := ih n r.b r.p (m + 1) ((l.set (c + 1) l[q]).set q l[c + 1]) (by omega) (by omega) e5 (by omega) (by simp [hl])
    exact ⟨b', p', l', g1, g2.mono (by omega), g3⟩
theorem l12By_k (k : Nat) (hk : 1000 ≤ k) (r : Gl14Rd) (m : Int) (hr : RdOk r m) (hm : m ≤ 1000000) : ∃ l r', spec_l12By.f k r = some (l, r') ∧ RdOk r' (m + 100) ∧ l.length ≤ 5 := by
  unfold spec_l12By.f
  obtain ⟨b', p', l', e1, e2, e3⟩ := l12By_loop k 4 k r.b r.p m [0, 1, 2, 3, 4] (by omega) (by omega) hr (by omega) (by simp)
  have e1' : spec_l12By.l0 k k r.b r.p [0, 1, 2, 3, 4] 4 = some (b', p', l') := e1
  rw [e1']
  simp only [Option.bind_some]
  obtain ⟨v, r1, g1, g2, g3, g4, g5⟩ := pick_ok ⟨b', p'⟩ 20 (m + (4 : Nat)) e2 (by omega) (by omega)
  rw [g1]
  simp only [Option.bind_some]
  split
  · rw [req_pos (by omega), req_pos (by omega), List.getElem?_eq_getElem (show 1 < l'.length by omega)]
    simp only [Option.bind_some]
    obtain ⟨u, r2, q1, q2, q3⟩ := num_ok r1 [(-1), 5, l'[1]] (m + (4 : Nat) + 1) g5 (by omega) (by simp)
    rw [q1]
    simp only [Option.bind_some]
    rw [req_pos (by omega), req_pos (by omega), List.getElem?_eq_getElem (show 0 < l'.length by omega)]
    exact ⟨_, _, rfl, q3.mono (by omega), by simp; omega⟩
  split
  · rw [req_pos (by omega), req_pos (by omega), req_pos (by omega)]
    exact ⟨_, _, rfl, g5.mono (by omega), by simp; omega⟩
  · exact ⟨_, _, rfl, g5.mono (by omega), by show l'.length ≤ 5; omega⟩
theorem DrawTurnEx_k (k : Nat) (hk : 2000000000000 ≤ k) (l : List Int) (hl : l.length ≤ 1048576) (hb : ∀ y ∈ l, 0 ≤ y ∧ y ≤ 255) : ∃ x by', spec_DrawTurnEx.f k l = some (x, by') ∧ exN x ≤ 100001 ∧ by'.length ≤ 5 := by
  unfold spec_DrawTurnEx.f
  obtain ⟨r, e1, e2⟩ := l14Open_ok l hl hb
  rw [e1]
  simp only [Option.bind_some]
  obtain ⟨x, r1, f1, f2, f3⟩ := l2Bent_k k hk r 0 e2 (by omega)
  rw [f1]
  simp only [Option.bind_some]
  obtain ⟨b, r2, g1, g2, g3⟩ := l12By_k k (by omega) r1 (0 + 300000) f2 (by omega)
  rw [g1]
  exact ⟨_, _, rfl, f3, g3⟩
/- What is meant, so much later. -/
def shM (n : Int) (o : GOcc) : GOcc := ⟨o.From + n, o.To + n, o.Ids⟩
abbrev shL (n : Int) (l : List GOcc) : List GOcc := l.map (shM n)
theorem sh_cmp (n : Int) (a b : GOcc) : occCmp (shM n a) (shM n b) = occCmp a b := by
  unfold occCmp shM
  dsimp only
  have e1 : (a.To + n = b.To + n) = (a.To = b.To) := by apply propext; omega
  have e2 : (a.From + n = b.From + n) = (a.From = b.From) := by apply propext; omega
  have e3 : decide (a.From + n < b.From + n) = decide (a.From < b.From) := by by_cases h : a.From < b.From <;> simp [h]
  have e4 : decide (a.To + n < b.To + n) = decide (a.To < b.To) := by by_cases h : a.To < b.To <;> simp [h]
  simp only [e1, e2, e3, e4]
theorem sh_less (n : Int) (a b : GOcc) : occLess (shM n a) (shM n b) = occLess a b := by unfold occLess; rw [sh_cmp]
theorem sh_join (n : Int) (a b : GOcc) : joinM (shM n a) (shM n b) = shM n (joinM a b) := by
  unfold joinM shM
  dsimp only
  congr 1 <;> omega
theorem sh_put (n : Int) (o : GOcc) : ∀ l : List GOcc, putM (shL n l) (shM n o) = shL n (putM l o)
  | [] => rfl
  | x :: l => by
    show putM (shM n x :: shL n l) (shM n o) = _
    unfold putM
    rw [sh_less, sh_cmp, sh_put n o l]
    split
    · rfl
    split <;> rfl
theorem sh_merge (n : Int) : ∀ (m l : List GOcc), mergeM (shL n l) (shL n m) = shL n (mergeM l m)
  | [], l => rfl
  | x :: m, l => by
    show mergeM (shL n l) (shM n x :: shL n m) = _
    rw [mergeM_cons, mergeM_cons, sh_put, sh_merge n m]
theorem sh_filter (n : Int) (p q : GOcc → Bool) (l : List GOcc) (h : ∀ o ∈ l, q (shM n o) = p o) : (shL n l).filter q = shL n (l.filter p) := by
  unfold shL
  rw [List.filter_map]
  congr 1
  exact List.filter_congr fun o ho => h o ho
theorem sh_sum (n : Int) : ∀ (l : List GOcc) (o : GOcc), sumM (shM n o) (shL n l) = shM n (sumM o l)
  | [], o => rfl
  | x :: l, o => by
    show sumM (joinM (shM n o) (shM n x)) (shL n l) = _
    rw [sh_join, sh_sum n l]; rfl
theorem sh_eachs (n : Int) (o : GOcc) : ∀ (l acc : List GOcc), (shL n l).foldl (fun s e => putM s (joinM (shM n o) e)) (shL n acc) = shL n (l.foldl (fun s e => putM s (joinM o e)) acc)
  | [], acc => rfl
  | x :: l, acc => by
    show (shL n l).foldl _ (putM (shL n acc) (joinM (shM n o) (shM n x))) = _
    rw [sh_join, sh_put, sh_eachs n o l]; rfl
theorem sh_found (n mode : Int) (o : GOcc) (l : List GOcc) : foundM mode (shM n o) (shL n l) = shL n (foundM mode o l) := by
  unfold foundM
  have hl : (shL n l).length = l.length := List.length_map _
  rw [hl]
  by_cases h0 : l.length = 0
  · rw [if_pos h0, if_pos h0]; rfl
  rw [if_neg h0, if_neg h0]
  split
  · rw [List.getElem?_map, List.getElem?_eq_getElem (show l.length - 1 < l.length by omega)]
    simp only [Option.map_some, Option.getD_some, sh_join]; rfl
  split
  · rw [List.getElem?_map, List.getElem?_eq_getElem (show 0 < l.length by omega)]
    simp only [Option.map_some, Option.getD_some, sh_join]; rfl
  split
  · rw [sh_sum]; rfl
  · exact sh_eachs n o l []
theorem sh_gone (n mode : Int) (l : List GOcc) : goneM mode (shL n l) = shL n (goneM mode l) := by
  unfold goneM
  split
  · rfl
  split
  · exact List.map_take.symm
  split
  · rfl
  split <;> rfl
theorem sh_rem (n : Int) (l g : List GOcc) : remM (shL n l) (shL n g) = shL n (remM l g) := by
  unfold remM
  refine sh_filter n _ _ l fun o _ => ?_
  congr 1
  rw [List.any_map]
  congr 1
  funext x
  simp only [Function.comp_apply, sh_cmp]
theorem sh_cond (n mode : Int) (l : List GOcc) : (if (shL n l).length = 0 then [] else goneM mode (shL n l)) = shL n (if l.length = 0 then [] else goneM mode l) := by
  have hl : (shL n l).length = l.length := List.length_map _
  rw [hl, sh_gone]
  split <;> rfl
def shP (n : Int) (s : List GOcc × List GOcc) : List GOcc × List GOcc := (shL n s.1, shL n s.2)
theorem sh_one (n mode : Int) (p q : GOcc → GOcc → Bool) (h : ∀ o s, q (shM n o) (shM n s) = p o s) (s : List GOcc × List GOcc) (o : GOcc) : oneM mode q (shP n s) (shM n o) = shP n (oneM mode p s o) := by
  unfold oneM shP
  dsimp only
  rw [sh_filter n (p o) (q (shM n o)) s.1 (fun x _ => h o x), sh_cond, sh_rem, sh_found, sh_merge]
theorem sh_ones (n mode : Int) (p q : GOcc → GOcc → Bool) (h : ∀ o s, q (shM n o) (shM n s) = p o s) : ∀ (r : List GOcc) (s : List GOcc × List GOcc), (shL n r).foldl (oneM mode q) (shP n s) = shP n (r.foldl (oneM mode p) s)
  | [], s => rfl
  | o :: r, s => by
    show (shL n r).foldl (oneM mode q) (oneM mode q (shP n s) (shM n o)) = _
    rw [sh_one n mode p q h, sh_ones n mode p q h r]; rfl
theorem sh_before (n : Int) (o s : GOcc) : before (shM n o) (shM n s) = before o s := by
  unfold before shM
  rw [Bool.eq_iff_iff]; simp
theorem sh_open (n : Int) (m : List GOcc) (o s : GOcc) : openM (shL n m) (shM n o) (shM n s) = openM m o s := by
  unfold openM midM
  rw [List.any_map]
  have e1 : decide ((shM n s).To < (shM n o).From) = decide (s.To < o.From) := by unfold shM; rw [Bool.eq_iff_iff]; simp
  rw [e1]
  congr 2
  congr 1
  funext x
  simp only [Function.comp_apply]
  unfold shM
  rw [Bool.eq_iff_iff]; simp
theorem sh_store (n mode : Int) (own : List GOcc) (o : GOcc) (b : Bool) : storeM mode (shL n own) (shM n o) b = shL n (storeM mode own o b) := by
  unfold storeM
  rw [sh_put]
  split
  · rfl
  split
  · rfl
  split <;> rfl
def shT (n : Int) (s : List GOcc × List GOcc × List GOcc) : List GOcc × List GOcc × List GOcc := (shL n s.1, shL n s.2.1, shL n s.2.2)
theorem sh_half (n mode : Int) (s : List GOcc × List GOcc × List GOcc) (o : GOcc) : halfM mode (shT n s) (shM n o) = shT n (halfM mode s o) := by
  unfold halfM shT
  dsimp only
  rw [sh_cond, sh_rem, sh_found, sh_merge, sh_store, List.length_map]
theorem sh_other (n mode : Int) (s : List GOcc × List GOcc × List GOcc) (o : GOcc) : otherM mode (shT n s) (shM n o) = shT n (otherM mode s o) := by
  have := sh_half n mode (s.2.1, s.1, s.2.2) o
  unfold otherM
  show ((halfM mode (shT n (s.2.1, s.1, s.2.2)) (shM n o)).2.1, (halfM mode (shT n (s.2.1, s.1, s.2.2)) (shM n o)).1, (halfM mode (shT n (s.2.1, s.1, s.2.2)) (shM n o)).2.2) = _
  rw [this]; rfl
theorem sh_foldl {σ : Type} (n : Int) (S : σ → σ) (g : σ → GOcc → σ) (h : ∀ s o, g (S s) (shM n o) = S (g s o)) : ∀ (r : List GOcc) (s : σ), (shL n r).foldl g (S s) = S (r.foldl g s)
  | [], s => rfl
  | o :: r, s => by
    show (shL n r).foldl g (g (S s) (shM n o)) = _
    rw [h, sh_foldl n S g h r]; rfl
def shR (n : Int) (s : Two × List GOcc) : Two × List GOcc := (shP n s.1, shL n s.2)
def Moves (n : Int) (f : Two → List GOcc → List GOcc → Two × List GOcc) : Prop := ∀ p l r, f (shP n p) (shL n l) (shL n r) = shR n (f p l r)
def Moves3 (n : Int) (f : Two → List GOcc → List GOcc → List GOcc → Two × List GOcc) : Prop := ∀ p a b c, f (shP n p) (shL n a) (shL n b) (shL n c) = shR n (f p a b c)
theorem moves_seq (n mode : Int) : Moves n (seqF mode) := fun p l r => by
  have := sh_ones n mode before before (sh_before n) r (p.1, [])
  unfold seqF seqM shR
  dsimp only
  show (((mergeM ((shL n r).foldl (oneM mode before) (shP n (p.1, []))).1 (shL n l), shL n p.2), ((shL n r).foldl (oneM mode before) (shP n (p.1, []))).2)) = _
  rw [this]
  unfold shP
  dsimp only
  rw [sh_merge]
theorem moves_and (n mode : Int) : Moves n (andF mode) := fun p l r => by
  have a := sh_foldl n (shT n) (halfM mode) (sh_half n mode) l (p.1, p.2, [])
  have b := sh_foldl n (shT n) (otherM mode) (sh_other n mode) r (l.foldl (halfM mode) (p.1, p.2, []))
  have e : andM mode (shL n p.1) (shL n p.2) (shL n l) (shL n r) = shT n (andM mode p.1 p.2 l r) := by
    unfold andM
    show (shL n r).foldl (otherM mode) ((shL n l).foldl (halfM mode) (shT n (p.1, p.2, []))) = _
    rw [a, b]
  unfold andF
  show (((andM mode (shL n p.1) (shL n p.2) (shL n l) (shL n r)).1, (andM mode (shL n p.1) (shL n p.2) (shL n l) (shL n r)).2.1), (andM mode (shL n p.1) (shL n p.2) (shL n l) (shL n r)).2.2) = _
  rw [e]; rfl
theorem moves_not (n mode : Int) : Moves3 n (notF mode) := fun p a b c => by
  have := sh_ones n mode (openM p.2) (openM (shL n p.2)) (sh_open n p.2) c (p.1, [])
  unfold notF notM shR
  dsimp only
  show (((mergeM ((shL n c).foldl (oneM mode (openM (shL n p.2))) (shP n (p.1, []))).1 (shL n a), mergeM (shL n p.2) (shL n b)), ((shL n c).foldl (oneM mode (openM (shL n p.2))) (shP n (p.1, []))).2)) = _
  rw [this]
  unfold shP
  dsimp only
  rw [sh_merge, sh_merge]
theorem moves_each (n mode : Int) : Moves3 n (eachF mode) := fun p a b c => by
  have e : foundAll mode (shL n p.1) (shL n p.2) (shL n b) = shL n (foundAll mode p.1 p.2 b) := by
    unfold foundAll
    have step : ∀ (b : List GOcc) (s : List GOcc), (shL n b).foldl (fun s o => mergeM s (foundM mode o ((shL n p.1).filter (openM (shL n p.2) o)))) (shL n s) = shL n (b.foldl (fun s o => mergeM s (foundM mode o (p.1.filter (openM p.2 o)))) s) := fun b => by
      induction b with
      | nil => intro s; rfl
      | cons o b ih =>
        intro s
        show (shL n b).foldl _ (mergeM (shL n s) (foundM mode (shM n o) ((shL n p.1).filter (openM (shL n p.2) (shM n o))))) = _
        rw [sh_filter n (openM p.2 o) (openM (shL n p.2) (shM n o)) p.1 (fun x _ => sh_open n p.2 o x), sh_found, sh_merge, ih]
        rfl
    exact step b []
  unfold eachF eachStep shR shP
  dsimp only
  rw [e, sh_merge, sh_merge]
theorem sh_at (n t : Int) (l : List GOcc) : atM (shL n l) (t + n) = shL n (atM l t) := by
  unfold atM
  refine sh_filter n _ _ l fun o _ => ?_
  unfold shM
  rw [Bool.eq_iff_iff]
  simp
theorem sh_times (n : Int) (hn : 0 ≤ n) (ls : List (List GOcc)) (h : ∀ l ∈ ls, ∀ o ∈ l, 1 ≤ o.To ∧ o.To + n ≤ 2000) : timesM (ls.map (shL n)) = (timesM ls).map (· + n) := by
  refine up_ext (up_timesM _) (List.pairwise_map.2 ((up_timesM ls).imp fun h => by omega)) fun t => ?_
  rw [mem_timesM, List.mem_map]
  simp only [List.mem_map]
  constructor
  · rintro ⟨h1, _, ⟨l, hl, rfl⟩, o, ho, rfl⟩
    obtain ⟨z, hz, rfl⟩ := List.mem_map.1 ho
    have := h l hl z hz
    exact ⟨z.To, mem_timesM.2 ⟨by omega, l, hl, z, hz, rfl⟩, rfl⟩
  · rintro ⟨s, hs, rfl⟩
    obtain ⟨h1, l, hl, o, ho, rfl⟩ := mem_timesM.1 hs
    have := h l hl o ho
    exact ⟨by omega, _, ⟨l, hl, rfl⟩, shM n o, List.mem_map.2 ⟨o, ho, rfl⟩, rfl⟩
theorem sh_run {f g : Two → Int → Two × List GOcc} (n : Int) (h : ∀ p t, g (shP n p) (t + n) = shR n (f p t)) : ∀ (U : List Int) (s : Two × List GOcc), (U.map (· + n)).foldl (runM g) (shR n s) = shR n (U.foldl (runM f) s)
  | [], s => rfl
  | t :: U, s => by
    show (U.map (· + n)).foldl (runM g) (runM g (shR n s) (t + n)) = _
    have : runM g (shR n s) (t + n) = shR n (runM f s t) := by
      unfold runM
      show ((g (shP n s.1) (t + n)).1, mergeM (shL n s.2) (g (shP n s.1) (t + n)).2) = _
      rw [h]
      unfold shR
      dsimp only
      rw [sh_merge]
    rw [this, sh_run n h U]; rfl
theorem sh_pair (n : Int) (hn : 0 ≤ n) {f : Two → List GOcc → List GOcc → Two × List GOcc} (hf : Moves n f) (a b : List GOcc) (ha : ∀ o ∈ a, 1 ≤ o.To ∧ o.To + n ≤ 2000) (hb : ∀ o ∈ b, 1 ≤ o.To ∧ o.To + n ≤ 2000) : pairM f (shL n a) (shL n b) = shL n (pairM f a b) := by
  have e := sh_times n hn [a, b] (fun l hl => by
    simp only [List.mem_cons, List.not_mem_nil, or_false] at hl
    rcases hl with rfl | rfl
    · exact ha
    · exact hb)
  simp only [List.map_cons, List.map_nil] at e
  unfold pairM
  rw [e]
  have := sh_run (f := fun p t => f p (atM a t) (atM b t)) (g := fun p t => f p (atM (shL n a) t) (atM (shL n b) t)) n (fun p t => by
    rw [sh_at, sh_at, hf]) (timesM [a, b]) (([], []), [])
  exact congrArg Prod.snd this
theorem sh_span (n : Int) (hn : 0 ≤ n) {f : Two → List GOcc → List GOcc → List GOcc → Two × List GOcc} (hf : Moves3 n f) (a b c : List GOcc) (ha : ∀ o ∈ a, 1 ≤ o.To ∧ o.To + n ≤ 2000) (hb : ∀ o ∈ b, 1 ≤ o.To ∧ o.To + n ≤ 2000) (hc : ∀ o ∈ c, 1 ≤ o.To ∧ o.To + n ≤ 2000) : spanM f (shL n a) (shL n b) (shL n c) = shL n (spanM f a b c) := by
  have e := sh_times n hn [a, b, c] (fun l hl => by
    simp only [List.mem_cons, List.not_mem_nil, or_false] at hl
    rcases hl with rfl | rfl | rfl
    · exact ha
    · exact hb
    · exact hc)
  simp only [List.map_cons, List.map_nil] at e
  unfold spanM
  rw [e]
  have := sh_run (f := fun p t => f p (atM a t) (atM b t) (atM c t)) (g := fun p t => f p (atM (shL n a) t) (atM (shL n b) t) (atM (shL n c) t)) n (fun p t => by
    rw [sh_at, sh_at, sh_at, hf]) (timesM [a, b, c]) (([], []), [])
  exact congrArg Prod.snd this
theorem sh_told (n : Int) (l : List GOcc) : told (shL n l) = (shL n (told l).1, (told l).2) := by
  unfold told
  rw [List.length_map]
  split <;> rfl
theorem sh_lates (n m till : Int) (l : List GOcc) (ht : till ≤ 1000) (hn : 0 ≤ n ∧ till + n ≤ 1000) : latesM m (till + n) (shL n l) = shL n (latesM m till l) := by
  unfold latesM
  rw [sh_filter n (inTime m till) (inTime m (till + n)) l (fun o _ => by
    unfold inTime shM
    rw [Bool.eq_iff_iff]
    simp only [Bool.and_eq_true, decide_eq_true_eq]
    omega)]
  unfold shL
  rw [List.map_map, List.map_map]
  apply List.map_congr_left
  intro o _
  simp only [Function.comp_apply, latM, shM]
  congr 1
  omega
def laterEv (n : Int) (e : GEv) : GEv := ⟨e.Sym, e.At + n, e.Val⟩
theorem sh_sym (n sym : Int) : ∀ (l : List GEv) (i : Nat), symFrom sym i (l.map (laterEv n)) = shL n (symFrom sym i l)
  | [], i => rfl
  | e :: l, i => by
    show symFrom sym i (laterEv n e :: l.map (laterEv n)) = _
    unfold symFrom
    rw [sh_sym n sym l]
    show (if e.Sym = sym then _ else _) = _
    split <;> rfl
theorem endM_later (n : Int) {l : List GEv} (h : l ≠ []) : endM (l.map (laterEv n)) = endM l + n := by
  unfold endM
  rw [List.getLast?_map]
  cases hq : l.getLast? with
  | none => exact absurd (List.getLast?_eq_none_iff.1 hq) h
  | some e => rfl
/-- all is meant so much later, just so -/
theorem mean_later (mode n : Int) (hn : 0 ≤ n) (l : List GEv) (hl : l ≠ []) (h1 : EvsUp l) (h2 : EvsUp (l.map (laterEv n))) (hE : endM l + n ≤ 1000) : ∀ x : GEx, exForm x = true → meanM mode (l.map (laterEv n)) x = (shL n (meanM mode l x).1, (meanM mode l x).2) := by
  refine exInd fun x ih hf => ?_
  obtain ⟨here, hks⟩ := form_kids hf
  have kind := here_kinds here
  rw [meanM_eq, meanM_eq]
  by_cases k1 : x.Kind = 1
  · rw [if_pos k1, if_pos k1, sh_sym]
  rw [if_neg k1, if_neg k1]
  have parts : ∀ xs : List GEx, (∀ y ∈ xs, y ∈ x.Kids) → meansM mode (l.map (laterEv n)) xs = (meansM mode l xs).map fun r => r.map (shL n) := fun xs => by
    induction xs with
    | nil => intro _; rw [meansM_nil, meansM_nil]; rfl
    | cons y ys ihs =>
      intro hy
      have hyk := hy y (by simp)
      rw [meansM_cons, meansM_cons, ih y hyk (hks y hyk), ihs fun z hz => hy z (by simp [hz])]
      dsimp only
      split
      · cases meansM mode l ys <;> rfl
      · rfl
  rw [parts x.Kids fun y hy => hy]
  cases hm : meansM mode l x.Kids with
  | none => rfl
  | some r =>
  obtain ⟨rl, rg⟩ := meansM_some hm
  have ok : ∀ i, i < x.Kids.length → occsOk (r.getD i []) = true := fun i hi => by
    rw [(rg i hi).2]; exact mean_ok h1 _ (hks _ (List.getElem_mem hi))
  have ok2 : ∀ i, i < x.Kids.length → occsOk (shL n (r.getD i [])) = true := fun i hi => by
    have := mean_ok (mode := mode) h2 _ (hks _ (List.getElem_mem hi))
    rw [ih _ (List.getElem_mem hi) (hks _ (List.getElem_mem hi))] at this
    rw [(rg i hi).2]; exact this
  have rng : ∀ i, i < x.Kids.length → ∀ o ∈ r.getD i [], 1 ≤ o.To ∧ o.To + n ≤ 2000 := fun i hi o ho => by
    have := tos_ok (ok2 i hi) (shM n o) (List.mem_map.2 ⟨o, ho, rfl⟩)
    have := tos_ok (ok i hi) o ho
    simp only [shM] at *
    omega
  have get : ∀ i, (r.map (shL n)).getD i [] = shL n (r.getD i []) := fun i => by
    rw [List.getD_eq_getElem?_getD, List.getD_eq_getElem?_getD, List.getElem?_map]
    cases r[i]? <;> rfl
  show combM mode (l.map (laterEv n)) x.Kind x.N (r.map (shL n)) = ((shL n (combM mode l x.Kind x.N r).1, (combM mode l x.Kind x.N r).2))
  unfold combM
  rw [get, get, get]
  by_cases k2 : x.Kind = 2
  · rw [if_pos k2, if_pos k2]
    unfold orM
    rw [if_pos ⟨ok2 0 (by omega), ok2 1 (by omega)⟩, if_pos ⟨ok 0 (by omega), ok 1 (by omega)⟩, sh_merge, sh_told]
  rw [if_neg k2, if_neg k2]
  by_cases k3 : x.Kind = 3
  · rw [if_pos k3, if_pos k3]
    unfold pairOfM
    rw [if_pos ⟨ok2 0 (by omega), ok2 1 (by omega)⟩, if_pos ⟨ok 0 (by omega), ok 1 (by omega)⟩, sh_pair n hn (moves_and n mode) _ _ (rng 0 (by omega)) (rng 1 (by omega)), sh_told]
  rw [if_neg k3, if_neg k3]
  by_cases k4 : x.Kind = 4
  · rw [if_pos k4, if_pos k4]
    unfold pairOfM
    rw [if_pos ⟨ok2 0 (by omega), ok2 1 (by omega)⟩, if_pos ⟨ok 0 (by omega), ok 1 (by omega)⟩, sh_pair n hn (moves_seq n mode) _ _ (rng 0 (by omega)) (rng 1 (by omega)), sh_told]
  rw [if_neg k4, if_neg k4]
  by_cases k5 : x.Kind = 5
  · rw [if_pos k5, if_pos k5]
    unfold spanOfM
    rw [if_pos ⟨ok2 0 (by omega), ok2 1 (by omega), ok2 2 (by omega)⟩, if_pos ⟨ok 0 (by omega), ok 1 (by omega), ok 2 (by omega)⟩, sh_span n hn (moves_not n mode) _ _ _ (rng 0 (by omega)) (rng 1 (by omega)) (rng 2 (by omega)), sh_told]
  rw [if_neg k5, if_neg k5]
  by_cases k6 : x.Kind = 6
  · rw [if_pos k6, if_pos k6]
    unfold spanOfM
    rw [if_pos ⟨ok2 0 (by omega), ok2 1 (by omega), ok2 2 (by omega)⟩, if_pos ⟨ok 0 (by omega), ok 1 (by omega), ok 2 (by omega)⟩, sh_span n hn (moves_each n mode) _ _ _ (rng 0 (by omega)) (rng 1 (by omega)) (rng 2 (by omega)), sh_told]
  rw [if_neg k6, if_neg k6]
  unfold plusM
  have hN : 1 ≤ x.N ∧ x.N ≤ 20 := by omega
  rw [if_pos ⟨ok2 0 (by omega), hN⟩, if_pos ⟨ok 0 (by omega), hN⟩, endM_later n hl, sh_lates n x.N (endM l) _ (endM_le h1) ⟨hn, hE⟩]
/- Turned names: what is meant stays. -/
theorem by_inj {b : List Int} (h : turnBy b = true) {i j : Nat} (hi : i < 5) (hj : j < 5) (e : b.getD i 0 = b.getD j 0) : i = j := by
  have h5 := turnBy_len h
  unfold turnBy at h
  simp only [Bool.and_eq_true, List.all_eq_true, List.mem_range', decide_eq_true_eq] at h
  have key : ∀ i j, i < j → j < 5 → b.getD i 0 ≠ b.getD j 0 := fun i j hij hj e => by
    have g := h.1 j ⟨j, by omega, by omega⟩
    unfold byGood at g
    rw [List.getElem?_eq_getElem (show j < b.length by omega)] at g
    rw [List.getD_eq_getElem?_getD, List.getD_eq_getElem?_getD, List.getElem?_eq_getElem (show j < b.length by omega), List.getElem?_eq_getElem (show i < b.length by omega)] at e
    simp only [Option.getD_some] at e
    have m0 : b[i] ∈ b.take j := List.mem_take_iff_getElem.2 ⟨i, by omega, rfl⟩
    have m : b[j] ∈ b.take j := by rw [← e]; exact m0
    have c : (b.take j).contains b[j] = true := List.contains_iff_mem.2 m
    simp [m] at g
  rcases Nat.lt_trichotomy i j with c | c | c
  · exact absurd e (key i j c hj)
  · exact c
  · exact absurd e.symm (key j i c hi)
theorem by_sym {b : List Int} (h : turnBy b = true) {s : Int} (hs : 0 ≤ s ∧ s < 5) : 0 ≤ b.getD s.toNat 0 ∧ b.getD s.toNat 0 < 5 := by
  obtain ⟨x, e, h1, h2⟩ := turnBy_sym h (i := s.toNat) (by omega)
  rw [List.getD_eq_getElem?_getD, e]
  simp only [Option.getD_some]
  omega
theorem sym_turn {b : List Int} (h : turnBy b = true) {s : Int} (hs : 0 ≤ s ∧ s < 5) : ∀ (l : List GEv) (i : Nat), (∀ e ∈ l, 0 ≤ e.Sym ∧ e.Sym < 5) → symFrom (b.getD s.toNat 0) i (l.map (swEv b)) = symFrom s i l
  | [], i, _ => rfl
  | e :: l, i, hl => by
    have he := hl e (by simp)
    have ih := sym_turn h hs l (i + 1) fun x hx => hl x (by simp [hx])
    show symFrom _ i (swEv b e :: l.map (swEv b)) = _
    unfold symFrom
    rw [ih]
    by_cases c : e.Sym = s
    · rw [if_pos (show (swEv b e).Sym = b.getD s.toNat 0 by unfold swEv; rw [c]), if_pos c]; rfl
    · rw [if_neg (fun q => c (by
        have := by_inj h (show e.Sym.toNat < 5 by omega) (show s.toNat < 5 by omega) q
        omega)), if_neg c]
theorem endM_turn (b : List Int) (l : List GEv) : endM (l.map (swEv b)) = endM l := by
  unfold endM
  rw [List.getLast?_map]
  cases l.getLast? <;> rfl
theorem mean_turn (mode : Int) {b : List Int} (h : turnBy b = true) (l : List GEv) (hl : ∀ e ∈ l, 0 ≤ e.Sym ∧ e.Sym < 5) : ∀ x : GEx, exForm x = true → meanM mode (l.map (swEv b)) (swEx b x) = meanM mode l x := by
  refine exInd fun x ih hf => ?_
  obtain ⟨here, hks⟩ := form_kids hf
  have ho := here_one here
  rw [meanM_eq, meanM_eq, swEx_eq]
  dsimp only
  by_cases k1 : x.Kind = 1
  · rw [if_pos k1, if_pos k1, if_pos k1, sym_turn h ⟨ho.1, ho.2.1⟩ l 0 hl]
  rw [if_neg k1, if_neg k1]
  have parts : ∀ xs : List GEx, (∀ y ∈ xs, y ∈ x.Kids) → meansM mode (l.map (swEv b)) (xs.map (swEx b)) = meansM mode l xs := fun xs => by
    induction xs with
    | nil => intro _; rw [List.map_nil, meansM_nil, meansM_nil]
    | cons y ys ihs =>
      intro hy
      have hyk := hy y (by simp)
      rw [List.map_cons, meansM_cons, meansM_cons, ih y hyk (hks y hyk), ihs fun z hz => hy z (by simp [hz])]
  rw [parts x.Kids fun y hy => hy]
  cases meansM mode l x.Kids with
  | none => rfl
  | some r =>
    dsimp only
    unfold combM
    rw [endM_turn]
theorem swEx_D (b : List Int) : ∀ e : GEx, exD (swEx b e) = exD e := by
  refine exInd fun e ih => ?_
  rw [swEx_eq, exD_eq, exD_eq]
  dsimp only
  have : ∀ l : List GEx, (∀ x ∈ l, x ∈ e.Kids) → exDs (l.map (swEx b)) = exDs l := fun l => by
    induction l with
    | nil => intro _; rfl
    | cons y ys ihs =>
      intro hy
      rw [List.map_cons, exDs_cons, exDs_cons, ih y (hy y (by simp)), ihs fun z hz => hy z (by simp [hz])]
  rw [this e.Kids fun x hx => hx]
theorem swEx_form {b : List Int} (h : turnBy b = true) : ∀ e : GEx, exForm e = true → exForm (swEx b e) = true := by
  refine exInd fun e ih hf => ?_
  obtain ⟨here, hks⟩ := form_kids hf
  have ho := here_one here
  rw [exForm_eq, Bool.and_eq_true, exForms_all, List.all_eq_true]
  have kids : ∀ x ∈ (swEx b e).Kids, exForm x = true := fun x hx => by
    rw [swEx_eq] at hx
    obtain ⟨y, hy, rfl⟩ := List.mem_map.1 hx
    exact ih y hy (hks y hy)
  refine ⟨?_, kids⟩
  have bs := by_sym h ⟨ho.1, ho.2.1⟩
  unfold exHere at here ⊢
  rw [swEx_eq]
  dsimp only
  rw [List.length_map]
  simp only [Bool.and_eq_true, decide_eq_true_eq, Bool.or_eq_true] at here ⊢
  obtain ⟨⟨⟨⟨h1, h2⟩, h3⟩, h4⟩, h5⟩ := here
  by_cases k1 : e.Kind = 1
  · rw [if_pos k1]
    exact ⟨⟨⟨⟨h1, bs.1⟩, bs.2⟩, .inl k1⟩, h5⟩
  · rw [if_neg k1]
    exact ⟨⟨⟨⟨h1, h2⟩, h3⟩, h4⟩, h5⟩
theorem swEx_ok {b : List Int} (h : turnBy b = true) {e : GEx} (he : exOk e = true) : exOk (swEx b e) = true := by
  unfold exOk at he ⊢
  rw [swEx_n, swEx_D]
  simp only [Bool.and_eq_true] at he ⊢
  exact ⟨he.1, swEx_form h e he.2⟩
theorem evsOk_of {l : List GEv} (h1 : ∀ e ∈ l, evOk e = true) (h2 : l.Pairwise fun a b => a.At < b.At) (h3 : l.length ≤ 24) : evsOk l = true := by
  unfold evsOk
  simp only [Bool.and_eq_true, List.all_eq_true, List.mem_range', decide_eq_true_eq]
  refine ⟨?_, h3⟩
  rintro i ⟨j, hj, rfl⟩
  rw [show 0 + 1 * j = j by omega]
  unfold evGood
  rw [List.getElem?_eq_getElem hj]
  simp only [Bool.and_eq_true]
  refine ⟨h1 _ (List.getElem_mem hj), ?_⟩
  cases j with
  | zero => rfl
  | succ j =>
    simp only [prevOk, List.getElem?_eq_getElem (show j < l.length by omega), decide_eq_true_eq]
    exact List.pairwise_iff_getElem.1 h2 _ _ _ _ (by omega)
theorem evsOk_turn {b : List Int} (h : turnBy b = true) {l : List GEv} (hl : evsOk l = true) : evsOk (l.map (swEv b)) = true := by
  refine evsOk_of (fun e he => ?_) (List.pairwise_map.2 (evsUp_of hl).1) (by rw [List.length_map]; exact evsOk_len hl)
  obtain ⟨e, h1, rfl⟩ := List.mem_map.1 he
  have o := evsOk_ok hl h1
  have s := evs_sym hl e h1
  have := by_sym h s
  unfold evOk at o ⊢
  unfold swEv
  simp only [Bool.and_eq_true, decide_eq_true_eq] at o ⊢
  omega
theorem shEv_later {n : Int} (hn : 0 ≤ n ∧ n ≤ 1000) {l : List GEv} (h : EvsUp l) : l.map (shEv n) = l.map (laterEv n) := by
  apply List.map_congr_left
  intro e he
  have := h.2.1 e he
  unfold shEv laterEv
  rw [wr _ (by omega)]
theorem evsOk_later {n : Int} (hn : 0 ≤ n) {l : List GEv} (hl : evsOk l = true) (hE : endM l + n ≤ 1000) : evsOk (l.map (laterEv n)) = true := by
  have up := evsUp_of hl
  refine evsOk_of (fun e he => ?_) (List.pairwise_map.2 (up.1.imp fun h => by unfold laterEv; dsimp only; omega)) (by rw [List.length_map]; exact evsOk_len hl)
  obtain ⟨e, h1, rfl⟩ := List.mem_map.1 he
  have o := evsOk_ok hl h1
  have := endM_ge up e h1
  unfold evOk at o ⊢
  unfold laterEv
  simp only [Bool.and_eq_true, decide_eq_true_eq] at o ⊢
  omega
/- Renaming and time shift are symmetries: the law over data. -/
theorem same_ok (k : Nat) (hk : 2000000000000 ≤ k) {l : List GOcc} (h : occsOk l = true) : impl_OccsSame.f k l l = some true :=
  OccsSame_refl k l (by have := occsOk_len h; omega) (fun o ho => by have := occsOk_all h o ho; omega) (by omega)
theorem FnTurn_pure (p0 p1 : List Int) (h0 : ∀ y ∈ p0, 0 ≤ y ∧ y ≤ 255) (h1 : ∀ y ∈ p1, 0 ≤ y ∧ y ≤ 255) : ∃ k, laws_FnTurn.f k p0 p1 = some true := by
  obtain ⟨k, hk⟩ : ∃ k : Nat, k = 2000000000000 := ⟨_, rfl⟩
  refine ⟨k, ?_⟩
  unfold laws_FnTurn.f
  by_cases c0 : 1048576 < (p0.length : Int)
  · rw [if_pos c0]
  rw [if_neg c0]
  by_cases c1 : 1048576 < (p1.length : Int)
  · rw [if_pos c1]
  rw [if_neg c1]
  obtain ⟨x, b, e1, e2, e3⟩ := DrawTurnEx_k k (by omega) p0 (by omega) h0
  obtain ⟨y, mode, ev, f1, f2, f3, f4⟩ := DrawMeanOf_k k (by omega) p1 (by omega) h1
  rw [e1, f1]
  simp only [Option.bind_some]
  have tn : exN (turnEx x b) ≤ 1000000 := by
    unfold turnEx
    split
    · rw [swEx_n]; omega
    · rw [exN_leaf]; omega
  have tl : (turnEvs ev b).length ≤ 25 := by
    unfold turnEvs
    split
    · rw [List.length_map]; exact f3
    · simp
  rw [impl_TurnEx_k k (by omega) x b (by omega) (by omega), impl_TurnEvs_k k (by omega) ev b (by omega) (by omega), spec_TurnEx_k k (by omega) x b (by omega) (by omega)]
  simp only [Option.bind_some]
  rw [exSame_k _ tn k (by omega), spec_TurnEvs_k k (by omega) ev b (by omega) (by omega)]
  simp only [Option.bind_some]
  rw [if_pos trivial, EvsSame_refl k (turnEvs ev b) (by omega) (by omega)]
  simp only [Option.bind_some]
  rw [if_pos trivial, impl_TurnBy_k k (by omega) b (by omega), spec_TurnBy_k k (by omega) b (by omega), spec_ExOk_k x (by omega) k (by omega)]
  simp only [Option.bind_some]
  have S := @same_ok k (by omega)
  by_cases hb : turnBy b = true
  rotate_left
  · have tx : turnEx x b = ⟨0, 0, 0, []⟩ := by unfold turnEx; rw [if_neg (fun q => hb q.2)]
    rw [tx]
    simp [hb]
  by_cases hx : exOk x = true
  rotate_left
  · have tx : turnEx x b = ⟨0, 0, 0, []⟩ := by unfold turnEx; rw [if_neg (fun q => hx q.1)]
    rw [tx]
    simp [hb, hx]
  rw [if_pos hb, if_pos hb, if_pos hx, if_pos hb, spec_EvsOk_k k (by omega) ev (by omega)]
  simp only [Option.bind_some]
  by_cases he : evsOk ev = true
  rotate_left
  · have te : turnEvs ev b = [] := by unfold turnEvs; rw [if_neg (fun q => he q.1)]
    rw [te, if_neg he]
    rfl
  have tx : turnEx x b = swEx b x := by unfold turnEx; rw [if_pos ⟨hx, hb⟩]
  have te : turnEvs ev b = ev.map (swEv b) := by unfold turnEvs; rw [if_pos ⟨he, hb⟩]
  have hf := exOk_form hx
  have up := evsUp_of he
  have same : meanOf (turnEx x b) mode (turnEvs ev b) = meanOf x mode ev := by
    rw [tx, te]
    unfold meanOf
    have a1 := swEx_ok hb hx
    have a2 := evsOk_turn hb he
    simp only [hx, he, a1, a2, true_and, and_true]
    split
    · exact mean_turn mode hb ev (evs_sym he) x hf.2
    · rfl
  have many : (if exOk (turnEx x b) = true then (exN (turnEx x b) : Int) else 0) = (if exOk x = true then (exN x : Int) else 0) := by
    rw [tx, if_pos (swEx_ok hb hx), if_pos hx, swEx_n]
  have ok := meanOf_ok x mode ev
  have lt : (laterEvs ev 7).length ≤ 25 := by
    unfold laterEvs
    split
    · rw [List.length_map]; exact f3
    · simp
  rw [if_pos he, impl_MeanOf_k k (by omega) x mode ev (by omega) (by omega), impl_MeanOf_k k (by omega) (turnEx x b) mode (turnEvs ev b) tn (by omega), same, exMany_k k (by omega) x (by omega), exMany_k k (by omega) _ tn, many, impl_TurnLate_k k (by omega) ev 7 (by omega)]
  simp only [Option.bind_some]
  rw [impl_MeanOf_k k (by omega) x mode (laterEvs ev 7) (by omega) (by omega)]
  simp only [Option.bind_some]
  have ol := occsOk_len ok
  rw [impl_TurnOccs_eq _ 7 (by omega) 24 (fun o ho => (occsOk_all ok o ho).1) (by omega) k (by omega), S ok]
  simp only [Option.bind_some]
  simp only [if_true]
  have late : (laterEvs ev 7).length = 0 ∨ (meanOf x mode (laterEvs ev 7) = (turnOccs (meanOf x mode ev).1 7, (meanOf x mode ev).2)) := by
    by_cases hE : 1000 < endM ev + 7
    · left
      unfold laterEvs
      rw [if_neg (fun q => q.2.2.2 hE)]
      rfl
    · have e : laterEvs ev 7 = ev.map (laterEv 7) := by
        unfold laterEvs
        rw [if_pos ⟨he, by decide, by decide, hE⟩, shEv_later (by decide) up]
      by_cases hnil : ev = []
      · left; rw [e, hnil]; rfl
      · right
        have a2 := evsOk_later (n := 7) (by decide) he (by omega)
        have t : turnOccs (meanOf x mode ev).1 7 = shL 7 (meanOf x mode ev).1 := by
          unfold turnOccs
          rw [if_pos ⟨ok, by decide, by decide⟩]
          apply List.map_congr_left
          intro o ho
          have := occsOk_all ok o ho
          unfold shOcc shM
          rw [wr _ (by omega), wr _ (by omega)]
        rw [t, e]
        unfold meanOf
        simp only [hx, he, a2, true_and, and_true]
        split
        · exact mean_later mode 7 (by decide) ev hnil up (evsUp_of a2) (by omega) x hf.2
        · rfl
  by_cases hz : (((laterEvs ev 7).length : Nat) : Int) = 0
  · cases (meanOf x mode ev).2 <;> simp [hz]
  · rcases late with h | h
    · omega
    · have ok2 := meanOf_ok x mode (laterEvs ev 7)
      rw [h] at ok2 ⊢
      dsimp only at ok2 ⊢
      rw [S ok2]
      cases (meanOf x mode ev).2 <;> simp [hz]
end Go.Proofs.YtdhlbpgjcfdofaaGreat
