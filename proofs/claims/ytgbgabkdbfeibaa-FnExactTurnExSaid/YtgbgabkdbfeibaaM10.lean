/- Trees that are turned: the law. -/
import Derived.Test.YtgbgabkdbfeibaaM9
namespace Go.Proofs.Ytgbgabkdbfeibaa
open Go Go.Vm
set_option linter.unusedVariables false
mutual
def swEx (b : List Int) : GEx → GEx
  | ⟨a, s, n, ks⟩ => ⟨a, if a = 1 then b.getD s.toNat 0 else s, n, swExs b ks⟩
def swExs (b : List Int) : List GEx → List GEx
  | [] => []
  | x :: xs => swEx b x :: swExs b xs
end
theorem swExs_map (b : List Int) : ∀ l : List GEx, swExs b l = l.map (swEx b)
  | [] => by simp only [swExs]; rfl
  | x :: xs => by simp only [swExs, swExs_map b xs, List.map_cons]
theorem swEx_eq (b : List Int) (e : GEx) : swEx b e = ⟨e.Kind, if e.Kind = 1 then b.getD e.Sym.toNat 0 else e.Sym, e.N, e.Kids.map (swEx b)⟩ := by cases e; simp only [swEx, swExs_map]
theorem exNs_map (f : GEx → GEx) : ∀ (l : List GEx), (∀ x ∈ l, exN (f x) = exN x) → exNs (l.map f) = exNs l
  | [], _ => rfl
  | x :: xs, h => by rw [List.map_cons, exNs_cons, exNs_cons, h x (List.mem_cons_self ..), exNs_map f xs fun y hy => h y (List.mem_cons_of_mem _ hy)]
theorem swEx_n (b : List Int) : ∀ e : GEx, exN (swEx b e) = exN e := by
  refine exInd fun e ih => ?_
  rw [swEx_eq, exN_eq, exN_eq e]
  dsimp only
  rw [exNs_map (swEx b) e.Kids ih]
theorem turn_loops (k : Nat) (rec' : GEx → List Int → Option GEx) (b : List Int) (e : GEx) (f : GEx → GEx) (hl : e.Kids.length ≤ 1048577) (H : ∀ x ∈ e.Kids, rec' x b = some (f x)) :
    ∀ (d n i : Nat) (acc : List GEx), i + d = e.Kids.length → d < n → acc.length = i →
      spec_l12Ex.l0 k rec' e b n acc (i : Int) = some (acc ++ (e.Kids.drop i).map f) ∧ spec_l12Ex.l1 k rec' e b n acc (i : Int) = some (acc ++ (e.Kids.drop i).map f) ∧ impl_Ex_turn.l0 k rec' e b n acc (i : Int) = some (acc ++ (e.Kids.drop i).map f) := by
  intro d
  induction d with
  | zero =>
    intro n i acc hi hn ha
    obtain ⟨n, rfl⟩ : ∃ m, n = m + 1 := ⟨n - 1, by omega⟩
    rw [List.drop_eq_nil_of_le (by omega), List.map_nil, List.append_nil]
    exact ⟨by rw [spec_l12Ex.l0, if_neg (by omega)], by rw [spec_l12Ex.l1, if_neg (by omega)], by rw [impl_Ex_turn.l0, if_neg (by omega)]⟩
  | succ d ih =>
    intro n i acc hi hn ha
    obtain ⟨n, rfl⟩ : ∃ m, n = m + 1 := ⟨n - 1, by omega⟩
    have hlt : i < e.Kids.length := by omega
    obtain ⟨i0, i1, i2⟩ := ih n (i + 1) (acc ++ [f e.Kids[i]]) (by omega) (by omega) (by simp; omega)
    rw [List.drop_eq_getElem_cons hlt, List.map_cons]
    refine ⟨?_, ?_, ?_⟩
    · rw [spec_l12Ex.l0, if_pos (by omega), req_pos (by omega), Int.toNat_natCast, List.getElem?_eq_getElem hlt]
      simp only [Option.bind_some, H e.Kids[i] (List.getElem_mem hlt)]
      rw [req_pos (by omega), wrS i (by omega), i0]; simp
    · rw [spec_l12Ex.l1, if_pos (by omega), req_pos (by omega), Int.toNat_natCast, List.getElem?_eq_getElem hlt]
      simp only [Option.bind_some, H e.Kids[i] (List.getElem_mem hlt)]
      rw [req_pos (by omega), wrS i (by omega), i1]; simp
    · rw [impl_Ex_turn.l0, if_pos (by omega), req_pos (by omega), Int.toNat_natCast, List.getElem?_eq_getElem hlt]
      simp only [Option.bind_some, H e.Kids[i] (List.getElem_mem hlt)]
      rw [req_pos (by omega), wrS i (by omega), i2]; simp
theorem form_kids {e : GEx} (h : exForm e = true) : exHere e = true ∧ ∀ x ∈ e.Kids, exForm x = true := by
  rw [exForm_eq, exForms_all] at h
  simp only [Bool.and_eq_true, List.all_eq_true] at h
  exact h
theorem here_one {e : GEx} (h : exHere e = true) : 0 ≤ e.Sym ∧ e.Sym < 5 ∧ (e.Kind = 1 → e.Kids = [] ∧ e.N = 0) := by
  unfold exHere at h
  simp only [Bool.and_eq_true, decide_eq_true_eq] at h
  refine ⟨h.1.1.1.2, h.1.1.2, fun h1 => ?_⟩
  have hk := h.1.1.1.1
  have hn := h.2
  rw [if_neg (by omega)] at hn
  rw [h1] at hk
  have : e.Kids.length = 0 := by have : kidsN 1 = 0 := rfl; omega
  exact ⟨List.length_eq_zero_iff.1 this, by simpa using hn⟩
theorem turn_k (b : List Int) (hb : turnBy b = true) : ∀ e : GEx, exN e ≤ 1048577 → exForm e = true → ∀ k : Nat, 3 * exN e ≤ k → spec_l12Ex.f k e b = some (swEx b e) ∧ impl_Ex_turn.f k e b = some (swEx b e) := by
  refine exInd fun e ih hs hf k hk => ?_
  obtain ⟨hh, hkids⟩ := form_kids hf
  obtain ⟨s0, s5, one⟩ := here_one hh
  rw [exN_eq] at hk hs
  have hq := exNs_len e.Kids
  obtain ⟨k, rfl⟩ : ∃ m, k = m + 1 := ⟨k - 1, by omega⟩
  have H : ∀ x ∈ e.Kids, spec_l12Ex.f k x b = some (swEx b x) ∧ impl_Ex_turn.f k x b = some (swEx b x) := fun x hx => by
    have := exNs_mem hx
    exact ih x hx (by omega) (hkids x hx) k (by omega)
  obtain ⟨i0, i1, _⟩ := turn_loops k (spec_l12Ex.f k) b e (swEx b) (by omega) (fun x hx => (H x hx).1) e.Kids.length k 0 [] (by omega) (by omega) rfl
  obtain ⟨_, _, i2⟩ := turn_loops k (impl_Ex_turn.f k) b e (swEx b) (by omega) (fun x hx => (H x hx).2) e.Kids.length k 0 [] (by omega) (by omega) rfl
  rw [show ((0 : Nat) : Int) = 0 from rfl, List.drop_zero, List.nil_append] at i0 i1 i2
  obtain ⟨y, y1, _, _⟩ := turnBy_sym hb (i := e.Sym.toNat) (by omega)
  have yd : b.getD e.Sym.toNat 0 = y := by rw [List.getD_eq_getElem?_getD, y1]; rfl
  rw [swEx_eq, spec_l12Ex.f, impl_Ex_turn.f, i0, i1, i2]
  by_cases h1 : e.Kind = 1
  · obtain ⟨n1, n2⟩ := one h1
    simp only [if_pos h1, req_pos s0, y1, Option.bind_some, yd, n1, n2, List.map_nil, h1]
    exact ⟨rfl, rfl⟩
  · simp only [if_neg h1, Option.bind_some]
    exact ⟨trivial, trivial⟩
def turnEx (e : GEx) (b : List Int) : GEx := if exOk e = true ∧ turnBy b = true then swEx b e else ⟨0, 0, 0, []⟩
theorem turnEx_n (e : GEx) (b : List Int) (h : exN e ≤ 1048577) : exN (turnEx e b) ≤ 1048577 := by
  unfold turnEx
  split
  · rw [swEx_n]; exact h
  · rw [exN_eq]; dsimp only; rw [exNs_nil]; omega
theorem spec_TurnEx_eq (e : GEx) (b : List Int) (hs : exN e ≤ 1048577) (hb : b.length < 4611686018427387904) : Evn (fun k => spec_TurnEx.f k e b) (turnEx e b) := by
  unfold spec_TurnEx.f turnEx
  refine Evn.bind (r := exOk e) ⟨3 * exN e, fun k hk => spec_ExOk_k e hs k hk⟩ ?_
  by_cases h : exOk e = true
  · refine Evn.pos h (Evn.bind (spec_TurnBy_eq b hb) ?_)
    by_cases h2 : turnBy b = true
    · rw [if_pos ⟨h, h2⟩]
      refine Evn.pos h2 (Evn.bind (r := swEx b e) ⟨3 * exN e, fun k hk => (turn_k b h2 e hs ?_ k hk).1⟩ (Evn.const rfl))
      unfold exOk at h; simp only [Bool.and_eq_true] at h; exact h.2
    · rw [if_neg (fun q => h2 q.2)]; exact Evn.neg h2 (Evn.const rfl)
  · rw [if_neg (fun q => h q.1)]; exact Evn.neg h (Evn.const rfl)
theorem impl_TurnEx_eq (e : GEx) (b : List Int) (hs : exN e ≤ 1048577) (hb : b.length < 4611686018427387904) : Evn (fun k => impl_TurnEx.f k e b) (turnEx e b) := by
  unfold impl_TurnEx.f turnEx
  refine Evn.bind (r := exOk e) ⟨3 * exN e, fun k hk => impl_ExOk_k e hs k hk⟩ ?_
  by_cases h : exOk e = true
  · refine Evn.pos h (Evn.bind (impl_TurnBy_eq b hb) ?_)
    by_cases h2 : turnBy b = true
    · rw [if_pos ⟨h, h2⟩]
      refine Evn.pos h2 (Evn.bind (r := swEx b e) ⟨3 * exN e, fun k hk => (turn_k b h2 e hs ?_ k hk).2⟩ (Evn.const rfl))
      unfold exOk at h; simp only [Bool.and_eq_true] at h; exact h.2
    · rw [if_neg (fun q => h2 q.2)]; exact Evn.neg h2 (Evn.const rfl)
  · rw [if_neg (fun q => h q.1)]; exact Evn.neg h (Evn.const rfl)
theorem FnExactTurnEx_pure (p0 : GEx) (p1 : List Int) (h0 : exSm p0) (h1 : p1.length * 8 ≤ reachBytes) : ∃ k, laws_FnExactTurnEx.f k p0 p1 = some true := by
  have hb := reach_lt h1 (by omega)
  suffices Evn (fun k => laws_FnExactTurnEx.f k p0 p1) true from this.get
  unfold laws_FnExactTurnEx.f
  by_cases hl : 1048576 < (p1.length : Int)
  · exact Evn.pos hl (Evn.const rfl)
  refine Evn.neg hl (Evn.bind ⟨3 * exN p0, fun k hk => szEx_k p0 h0 k 1048576 hk (by decide) (by decide)⟩ ?_)
  by_cases hz : (exNs p0.Kids : Int) ≤ 1048576
  rotate_left
  · exact Evn.pos (by rw [if_neg hz]; decide) (Evn.const rfl)
  have hn : exN p0 ≤ 1048577 := by rw [exN_eq]; omega
  have hT := turnEx_n p0 p1 hn
  have hto : Evn (fun k => laws_toEx.f k p0) p0 := ⟨3 * exN p0, fun k hk => toEx_k p0 hn k hk⟩
  have htb := toIntS_eq p1 h1
  have hspec := spec_TurnEx_eq p0 p1 hn hb
  have himpl := impl_TurnEx_eq p0 p1 hn hb
  have heq : ∀ e : GEx, exN e ≤ 1048577 → Evn (fun k => laws_eqEx.f k e e) true := fun e he => ⟨3 * exN e, fun k hk => eqEx_k e he k hk⟩
  have hib := eqIntS_refl p1 hb
  have hmark : ∀ e : GEx, exN e ≤ 1048577 → Evn (fun k => laws_markEx.f k e 1) (1 + 3 * exNs e.Kids, ⟨e.Kind, e.Sym, e.N, mkExs 1 e.Kids⟩) := fun e he => by
    have he2 := he
    rw [exN_eq] at he2
    refine ⟨3 * exN e, fun k hk => ?_⟩
    dsimp only
    unfold laws_markEx.f
    rw [markExS_all e he k 1 hk (by decide) (by omega)]
    simp only [Option.bind_some]
    rw [req_pos (mkExs_len _ _)]
  have hheld : ∀ e : GEx, exN e ≤ 1048577 → Evn (fun k => laws_heldEx.f k ⟨e.Kind, e.Sym, e.N, mkExs 1 e.Kids⟩ 1) (1 + 3 * exNs e.Kids) := fun e he => by
    have he2 := he
    rw [exN_eq] at he2
    refine ⟨3 * exN e, fun k hk => ?_⟩
    dsimp only
    unfold laws_heldEx.f
    dsimp only
    rw [heldExS_all e he k 1 hk (by decide) (by omega)]
    simp only [Option.bind_some]
    rw [if_neg (by omega)]
  obtain ⟨l', g1, g2, g3⟩ := markIntS_eq p1 (1 + 3 * exNs p0.Kids) (by omega) (by omega)
  refine Evn.neg (by rw [if_pos hz]; omega) (Evn.bind hto (Evn.bind htb (Evn.bind hspec (Evn.bind hto (Evn.bind htb (Evn.bind himpl (Evn.bind (heq _ hT) (Evn.pos rfl (Evn.bind hto (Evn.bind (heq _ hn) (Evn.pos rfl (Evn.bind htb (Evn.bind hib (Evn.pos rfl (Evn.bind (hmark p0 hn) (Evn.req (mkExs_len _ _) (Evn.bind g3 (Evn.req g1 (Evn.neg (by dsimp only; omega) ?_)))))))))))))))))))
  refine Evn.bind (heq _ hT) (Evn.pos rfl (Evn.bind (hmark _ hT) (Evn.req (mkExs_len _ _) (Evn.bind (hheld _ hT) (Evn.neg (by omega) (Evn.pos rfl (Evn.bind hto (Evn.bind htb (Evn.bind himpl (Evn.bind (heq _ hT) (Evn.pos rfl (Evn.bind (hheld _ hT) (Evn.neg (by omega) (Evn.pos rfl (Evn.const rfl)))))))))))))))
end Go.Proofs.Ytgbgabkdbfeibaa
