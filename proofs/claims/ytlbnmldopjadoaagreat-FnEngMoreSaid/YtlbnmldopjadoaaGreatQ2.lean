/- Plain lemmas about the functions over data; third part. -/
import Derived.Test.YtlbnmldopjadoaaGreatQ1
import Derived.Laws.Strings
namespace Go.Proofs.YtlbnmldopjadoaaGreat
open Go Go.Vm
set_option linter.unusedVariables false
set_option linter.unusedSimpArgs false
def zz : ByteArray := ⟨#[122, 122]⟩
def v7 (x : GRule) : GRule := ⟨zz, 0, x.Mode, x.Ex, x.Low, x.High, x.Key, 0, -1⟩
theorem BV : ik zz = true := by
 unfold ik
 simp only [Bool.and_eq_true, decide_eq_true_eq]
 refine ⟨fun i hi => ?_, by decide, by decide⟩
 have h2 : i < 2 := hi
 have : i = 0 ∨ i = 1 := by omega
 rcases this with rfl | rfl <;> rfl
theorem CF {s : ByteArray} (h : s.size ≠ 2) : eZ s zz = false := by
 unfold eZ
 rw [ByteArray.toList_eq, ByteArray.toList_eq, beq_eq_false_iff_ne]
 intro e
 apply h
 have := congrArg List.length e
 rw [Array.length_toList] at this
 exact this
theorem BC {x : GRule} (h : lg x) : tG (v7 x) := ⟨⟨BV, by show (0 : Int) ≤ 0 ∧ (0 : Int) ≤ 9; omega, h.mode, h.ex, h.low, h.key, by show (-9 : Int) ≤ 0 ∧ (0 : Int) ≤ 9; omega, by show (-1 : Int) ≤ -1 ∧ (-1 : Int) ≤ 4; omega⟩, rfl, rfl, rfl⟩
theorem yR {l : List GRule} {r : GRule} (h : dD l = true) (hl : l.length < 4) (hr : lg r) (hn : ∀ s ∈ l, eZ s.Name r.Name = false) : dD (l ++ [r]) = true := by
 unfold dD at h ⊢
 simp only [Bool.and_eq_true, decide_eq_true_eq] at h ⊢
 refine ⟨fun i hi => ?_, by rw [List.length_append, List.length_singleton]; omega⟩
 rw [List.length_append, List.length_singleton] at hi
 unfold eW
 by_cases hlt : i < l.length
 ·have := h.1 i hlt
  unfold eW at this
  rw [List.getElem?_append_left hlt, List.take_append_of_le_length (by omega)]
  exact this
 ·have : i = l.length := by omega
  subst this
  rw [List.getElem?_append_right (Nat.le_refl _), Nat.sub_self]
  simp only [List.getElem?_cons_zero, Bool.and_eq_true]
  refine ⟨(tw r).2 hr, ?_⟩
  rw [List.take_left, List.all_eq_true]
  intro s hs
  rw [hn s hs]; rfl
theorem xp {l : List GRule} {r : GRule} : cU r l.length (jM l) (jM (l ++ [r])) :=
 ⟨rfl, by simp [jM], rfl, ⟨pB r, by simp [jM]⟩, rfl, rfl, fun v hv => by
  have : v = 0 := by simp [jM, yg] at hv; exact hv
  omega, rfl⟩
theorem AL (k : Nat) (hk : 1000000000000 ≤ k) (o : GOcc) (h : o.Ids.length ≤ 1000) : ei.f k [o] [o] = some true := vn k [o] (by simp) (fun x hx => by rw [List.mem_singleton.1 hx]; exact h) hk
/-- what has fired beside is what has fired, but for the last rule -/
theorem yj (k : Nat) (hk : 1000000000000 ≤ k) (x6 : List GRule) (a b : GEng × Int × List GFire) (hf : b.2.2.filter (dR x6.length) = a.2.2) (hl : b.2.2.length ≤ 1000000) (hid : ∀ f ∈ b.2.2, f.Occ.Ids.length ≤ 1000) : ∀ (d j N : Nat) (n : Nat), j + d = b.2.2.length → d < N → n = ((b.2.2.take j).filter (dR x6.length)).length →
  aU.l3 k x6 a b N (n : Int) (j : Int) = some (.ok (a.2.2.length : Int)) := by
 intro d
 induction d with
 | zero =>
  intro j N n hj hN hn
  obtain ⟨N, rfl⟩ : ∃ m, N = m + 1 := ⟨N - 1, by omega⟩
  rw [aU.l3, if_neg (by omega), ← hf, hn, show j = b.2.2.length by omega, List.take_length]
 | succ d ih =>
  intro j N n hj hN hn
  obtain ⟨N, rfl⟩ : ∃ m, N = m + 1 := ⟨N - 1, by omega⟩
  have hlt : j < b.2.2.length := by omega
  have htk : (b.2.2.take (j + 1)).filter (dR x6.length) = (b.2.2.take j).filter (dR x6.length) ++ [b.2.2[j]].filter (dR x6.length) := by
   rw [List.take_add_one, List.getElem?_eq_getElem hlt, List.filter_append]; rfl
  rw [aU.l3, if_pos (by omega), ae (by omega), ae (by omega), Int.toNat_natCast, List.getElem?_eq_getElem hlt]
  simp only [Option.bind_some]
  by_cases hb : b.2.2[j].Rule < ((x6.length : Nat) : Int)
  ·have hbl : dR x6.length b.2.2[j] = true := by unfold dR; simpa using hb
   have hsplit : a.2.2 = (b.2.2.take j).filter (dR x6.length) ++ (b.2.2[j] :: (b.2.2.drop (j + 1)).filter (dR x6.length)) := by
    rw [← hf]
    conv => lhs; rw [← List.take_append_drop j b.2.2, List.drop_eq_getElem_cons hlt]
    rw [List.filter_append, List.filter_cons_of_pos hbl]
   have hnl : n < a.2.2.length := by rw [hsplit, List.length_append, List.length_cons, ← hn]; omega
   have hget : a.2.2[n]? = some b.2.2[j] := by rw [hsplit, hn, List.getElem?_append_right (Nat.le_refl _), Nat.sub_self]; rfl
   have hal : a.2.2.length ≤ b.2.2.length := by rw [← hf]; exact List.length_filter_le _ _
   rw [if_pos hb, if_pos (by omega), ae (by omega), ae (by omega), Int.toNat_natCast, hget]
   simp only [Option.bind_some]
   rw [ae (by omega), ae (by omega), if_pos trivial, ae (by omega), ae (by omega), ae (by omega), ae (by omega), AL k hk _ (hid _ (List.getElem_mem hlt))]
   simp only [Option.bind_some, if_true]
   rw [wrS n (by omega), wrS j (by omega)]
   exact ih (j + 1) N (n + 1) (by omega) (by omega) (by rw [htk, List.filter_cons_of_pos hbl, List.length_append, ← hn]; rfl)
  ·have hbl : ¬ dR x6.length b.2.2[j] = true := by unfold dR; simpa using hb
   rw [if_neg hb, wrS j (by omega)]
   exact ih (j + 1) N n (by omega) (by omega) (by rw [htk, List.filter_cons_of_neg hbl, List.length_append, ← hn]; rfl)
theorem yH (k : Nat) (hk : 2000000000000 ≤ k) (p1 : List Int) (hp : ∀ y ∈ p1, 0 ≤ y ∧ y ≤ 255) (hl : p1.length ≤ 1048576) {r : GRule} (hr : tG r) (x6 : List GRule) (hpri : ∀ s ∈ x6, 0 ≤ s.Pri) : ∀ (d i N : Nat) (e y : GEng), i + d = 6 → d < N → jk e → jk y → e.Rules = x6 → cU r x6.length e y →
  aU.l2 k p1 x6 N e.Rules e.Graphs e.Events e.Keys e.Fired y.Rules y.Graphs y.Events y.Keys y.Fired (i : Int) = some (.ok ()) ∨ aU.l2 k p1 x6 N e.Rules e.Graphs e.Events e.Keys e.Fired y.Rules y.Graphs y.Events y.Keys y.Fired (i : Int) = some (.error true) := by
 intro d
 induction d with
 | zero =>
  intro i N e y hi hN he hy hru hB
  obtain ⟨N, rfl⟩ : ∃ m, N = m + 1 := ⟨N - 1, by omega⟩
  left
  rw [aU.l2]
  by_cases c : (i : Int) < (p1.length : Int)
  ·rw [if_pos c, if_neg (by omega)]
  ·rw [if_neg c]
 | succ d ih =>
  intro i N e y hi hN he hy hru hB
  obtain ⟨N, rfl⟩ : ∃ m, N = m + 1 := ⟨N - 1, by omega⟩
  rw [aU.l2]
  by_cases c : (i : Int) < (p1.length : Int)
  rotate_left
  ·rw [if_neg c]; exact .inl rfl
  have hlt : i < p1.length := by omega
  have hb := hp _ (List.getElem_mem hlt)
  obtain ⟨q1, q2, q3⟩ := rV p1[i] 8 (by omega) (by omega)
  have hc : lC ⟨p1[i] % 5, 1 + p1[i] / 8 % 3, 5⟩ = true := by
   unfold lC
   simp only [Bool.and_eq_true, decide_eq_true_eq]; omega
  obtain ⟨c1, c2, c3, c4, c5⟩ := uw k hk he hc
  obtain ⟨y1, y2, y3, y4, y5⟩ := uw k hk hy hc
  rw [if_pos c, if_pos (by omega), ae (by omega), Int.toNat_natCast, List.getElem?_eq_getElem hlt]
  simp only [Option.bind_some]
  rw [ae (by omega), wr p1[i] (by omega), nw _ 5 (by omega) (by omega), q1, nw _ 3 (by omega) (by omega), wr (1 + p1[i] / 8 % 3) (by omega)]
  rw [show (⟨e.Rules, e.Graphs, e.Events, e.Keys, e.Fired⟩ : GEng) = e from rfl, show (⟨y.Rules, y.Graphs, y.Events, y.Keys, y.Fired⟩ : GEng) = y from rfl, c1]
  simp only [Option.bind_some]
  rw [ae (by omega), ae (by omega), y1]
  simp only [Option.bind_some]
  have hcb := w7 hr hB (by rw [hru]; exact hpri) (p1[i] % 5) (1 + p1[i] / 8 % 3) 5 c4 y4
  have hcf := yn y (p1[i] % 5) (1 + p1[i] / 8 % 3) 5
  generalize cH e (p1[i] % 5) (1 + p1[i] / 8 % 3) 5 = a at c2 c3 c4 c5 hcb ⊢
  generalize cH y (p1[i] % 5) (1 + p1[i] / 8 % 3) 5 = b at y2 y3 y4 y5 hcb hcf ⊢
  rcases hcb with ⟨h1, h2, h3⟩ | ⟨h1, h2⟩
  ·have hev := ia c2.evs
   have hbf := y2.fired.1
   have hbe := ia y2.evs
   rw [if_pos h1]
   have := yj k (by omega) x6 a b h3 (by omega) (fun f hf => by
    have := dP ((gZ _).1 (y2.fired.2 f (hcf.2 f hf)).2.1).2.2.2.2
    omega) b.2.2.length 0 k 0 (by omega) (by omega) (by simp)
   rw [show ((0 : Nat) : Int) = 0 from rfl] at this
   rw [this]
   simp only [Option.bind_some, if_true]
   have hes : eI.f k a.1.Events b.1.Events = some true := by rw [h2.evs]; exact wE k a.1.Events (by omega) (by omega)
   rw [hes]
   simp only [Option.bind_some, if_true]
   rw [wrS i (by omega)]
   exact ih (i + 1) N a.1 b.1 (by omega) (by omega) c2 y2 (c3.trans hru) h2
  ·right
   rw [if_neg h2, h1]; rfl
theorem tM (p0 p1 : List Int) (h0 : ∀ y ∈ p0, 0 ≤ y ∧ y ≤ 255) (h1 : ∀ y ∈ p1, 0 ≤ y ∧ y ≤ 255) : ∃ k, aU.f k p0 p1 = some true := by
 obtain ⟨k, hk⟩ : ∃ k : Nat, k = 2000000000000 := ⟨_, rfl⟩
 refine ⟨k, ?_⟩
 unfold aU.f
 by_cases c0 : 1048576 < (p0.length : Int)
 ·rw [if_pos c0]
 rw [if_neg c0]
 by_cases c1 : 1048576 < (p1.length : Int)
 ·rw [if_pos c1]
 rw [if_neg c1]
 obtain ⟨l, e1, e2, e3⟩ := Ad k (by omega) p0 (by omega) h0
 obtain ⟨x, f1, f2⟩ := yx k (by omega) p1 (by omega) h1
 have hs : ∀ r ∈ l, kw r := fun r hr => (e3 r hr).1
 have I := jS k (by omega) l (by omega) hs
 have S := tn k (by omega) l (by omega) hs
 rw [e1]
 simp only [Option.bind_some]
 rw [f1]
 simp only [Option.bind_some]
 rw [S]
 simp only [Option.bind_some]
 by_cases hok : dD l = true
 rotate_left
 ·rw [if_neg hok, I]; simp
 rw [if_pos hok, oD k (by omega) x f2.1]
 simp only [Option.bind_some]
 by_cases hx : rOk x = true
 rotate_left
 ·rw [if_neg hx, I]; simp
 rw [if_pos hx]
 by_cases hl : ((l.length : Nat) : Int) < 4
 rotate_left
 ·rw [if_neg hl, I]; simp
 rw [if_pos hl, zb k (by omega) l (by omega) hs, if_pos hok]
 simp only [Option.bind_some]
 rw [ae (by omega), ae (by omega), k9, List.nil_append]
 have hR := (tw x).1 hx
 have hI := BC hR
 have hm := yR (r := v7 x) hok (by omega) hI.ok (fun s hs => CF (e3 s hs).2)
 rw [show ([⟨(⟨#[122, 122]⟩ : ByteArray), 0, x.Mode, x.Ex, x.Low, x.High, x.Key, 0, -1⟩] : List GRule) = [v7 x] from rfl]
 rw [zb k (by omega) (l ++ [v7 x]) (by rw [List.length_append, List.length_singleton]; omega) (fun r hr => (ec hm hr).small), if_pos hm]
 simp only [Option.bind_some]
 rw [vR k (by omega) (pY hok)]
 simp only [Option.bind_some, if_true]
 rw [vR k (by omega) (pY hm)]
 simp only [Option.bind_some, if_true]
 rcases yH k (by omega) p1 h1 (by omega) hI l (fun s hs => (ec hok hs).pri.1) 6 0 k (jM l) (jM (l ++ [v7 x])) (by omega) (by omega) (pY hok) (pY hm) rfl xp with q | q
 ·rw [show ((0 : Nat) : Int) = 0 from rfl] at q
  rw [q]; rfl
 ·rw [show ((0 : Nat) : Int) = 0 from rfl] at q
  rw [q]; rfl
end Go.Proofs.YtlbnmldopjadoaaGreat
