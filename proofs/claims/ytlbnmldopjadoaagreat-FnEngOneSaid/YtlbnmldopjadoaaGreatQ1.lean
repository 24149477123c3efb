/- Plain lemmas about the functions over data; second part. -/
import Derived.Test.YtlbnmldopjadoaaGreatQ0
namespace Go.Proofs.YtlbnmldopjadoaaGreat
open Go Go.Vm
set_option linter.unusedVariables false
set_option linter.unusedSimpArgs false
theorem xg (o : GOcc) (n : Int) (h : Few o) (h1 : -100000 ≤ o.To + n ∧ o.To + n ≤ 200000) : fd.f o n = some (iW n o) := by
 unfold fd.f
 rw [pV _ h]
 simp only [Option.bind_some]
 rw [wr _ (by omega)]
 rfl
def gy (n : GNode) (d : List GOcc) : GNode := ⟨n.Kind, n.Sym, n.N, n.Kids, n.Pair, n.Span, d, n.Many⟩
theorem lN (k : Nat) (hk : 1000000000000 ≤ k) (kid : List GOcc) (ns : List GNode) (i m : Nat) (n : GNode) (hi : i < ns.length) (hm : m + kid.length ≤ 80000000000) (hd : Ok m n.Due) (hid : Ids kid) (ht : ∀ o ∈ kid, -100000 ≤ o.To + n.N ∧ o.To + n.N ≤ 200000) :
  aj.l2 k kid (i : Int) k (ns.set i n) 0 = some (ns.set i (gy n (kid.foldl (fun s o => bZ s (iW n.N o)) n.Due))) := by
 have := gW (fun s : List GOcc => ns.set i (gy n s)) kid (fun s o => (fd.f o n.N).bind fun x => dB.f k s x) (fun N s j => aj.l2 k kid (i : Int) N (ns.set i (gy n s)) j) (fun s o => bZ s (iW n.N o)) (fun j s => Ok (m + j) s)
  (fun N s => by rw [aj.l2, if_neg (by omega)])
  (fun N s j h => by
   rw [aj.l2, if_pos (by omega), ae (by omega), Int.toNat_natCast, List.getElem?_eq_getElem h]
   simp only [Option.bind_some, Option.bind_assoc, Int.toNat_natCast]
   rw [List.getElem?_set_self hi]
   simp only [Option.bind_some, List.set_set]
   rw [wrS j (by omega)]
   rfl)
  (fun j s h hI => by
   have ho := hid _ (List.getElem_mem h)
   have hf : Few kid[j] := by have := dq ho; omega
   have := hI.2.2
   refine ⟨?_, (hI.put (rg ho)).mono (by omega)⟩
   rw [xg _ _ hf (ht _ (List.getElem_mem h))]
   simp only [Option.bind_some]
   rw [iF k hk _ _ (by omega) hI.2.1.few hI.1])
  k n.Due (by omega) (by simpa using hd)
 exact this.1
theorem nw (k : Nat) (hk : 1000000000000 ≤ k) (kid : List GOcc) (ns : List GNode) (i m : Nat) (n : GNode) (hi : i < ns.length) (hm : m + kid.length ≤ 80000000000) (hd : Ok m n.Due) (hid : Ids kid) (ht : ∀ o ∈ kid, -100000 ≤ o.To + n.N ∧ o.To + n.N ≤ 200000) :
  ak.l2 k kid (i : Int) k (ns.set i n) 0 = some (ns.set i (gy n (kid.foldl (fun s o => bZ s (iW n.N o)) n.Due))) := by
 have := gW (fun s : List GOcc => ns.set i (gy n s)) kid (fun s o => (fd.f o n.N).bind fun x => dB.f k s x) (fun N s j => ak.l2 k kid (i : Int) N (ns.set i (gy n s)) j) (fun s o => bZ s (iW n.N o)) (fun j s => Ok (m + j) s)
  (fun N s => by rw [ak.l2, if_neg (by omega)])
  (fun N s j h => by
   rw [ak.l2, if_pos (by omega), ae (by omega), Int.toNat_natCast, List.getElem?_eq_getElem h]
   simp only [Option.bind_some, Option.bind_assoc, Int.toNat_natCast]
   rw [List.getElem?_set_self hi]
   simp only [Option.bind_some, List.set_set]
   rw [wrS j (by omega)]
   rfl)
  (fun j s h hI => by
   have ho := hid _ (List.getElem_mem h)
   have hf : Few kid[j] := by have := dq ho; omega
   have := hI.2.2
   refine ⟨?_, (hI.put (rg ho)).mono (by omega)⟩
   rw [xg _ _ hf (ht _ (List.getElem_mem h))]
   simp only [Option.bind_some]
   rw [iF k hk _ _ (by omega) hI.2.1.few hI.1])
  k n.Due (by omega) (by simpa using hd)
 exact this.1
theorem Bp (k : Nat) (hk : 1000000000000 ≤ k) (g : GGraph) (t : Int) (N i : Nat) (ns : List GNode) (full : Bool) (found : List (List GOcc)) (n : GNode) (e : GEx) (es : List GEx) (hi : i < g.Nodes.length) (hg : g.Nodes.length ≤ 1000) (hl : ns.length = g.Nodes.length) (hn : ns[i]? = some n)
  (hx : fT e) (hR : kG es i n e) (hS : lj t n) (hf : found.length = i) (hF : jc t es found) (hs : 0 ≤ g.Seen ∧ g.Seen ≤ 23) (ht : 0 ≤ t ∧ t ≤ 100000) :
  aj.l1 k g t (N + 1) ns full found (i : Int) = aj.l1 k g t N (ns.set i (eV (aF g.Mode g.Seen t none found n))) (full || decide (40 < (eV (aF g.Mode g.Seen t none found n)).Many)) (found ++ [(aF g.Mode g.Seen t none found n).2]) ((i + 1 : Nat) : Int) := by
 have hout := tN (mode := g.Mode) (seen := g.Seen) (ev := none) hx hR hS hf hF hs
 have h12 := hx.2
 have hsm := hout.small h12
 obtain ⟨S1, S2, S3, S4, S5, m0, m1, T1, T2, T3, T4⟩ := hS
 have W : ∀ (q : Nat), q ≤ 30420000000 → IntKind.wrap .i64 (n.Many + (q : Int)) = n.Many + (q : Int) := fun q hq => wr _ (by omega)
 have fin : ∀ (m : GNode) (out : List GOcc), aF g.Mode g.Seen t none found n = (m, out) → m.Many = n.Many → ∀ m' : GNode, m' = eV (m, out) →
   (if full = true then aj.l1 k g t N (ns.set i m') true (found ++ [out]) ((i + 1 : Nat) : Int) else aj.l1 k g t N (ns.set i m') (decide (40 < n.Many + (out.length : Int))) (found ++ [out]) ((i + 1 : Nat) : Int)) =
   aj.l1 k g t N (ns.set i (eV (aF g.Mode g.Seen t none found n))) (full || decide (40 < (eV (aF g.Mode g.Seen t none found n)).Many)) (found ++ [(aF g.Mode g.Seen t none found n).2]) ((i + 1 : Nat) : Int) := by
  intro m out h hm m' hm'
  rw [h, hm']
  have : (eV (m, out)).Many = n.Many + (out.length : Int) := by show m.Many + _ = _; rw [hm]
  rw [this]
  cases full
  ·rw [if_neg (by decide), Bool.false_or]
  ·rw [if_pos rfl, Bool.true_or]
 rw [aj.l1, if_pos (by omega), ae (by omega), ae (by omega), Int.toNat_natCast, hn]
 simp only [Option.bind_some]
 rw [wrS i (by omega)]
 rcases ir (gR hx.1).1 with ⟨hk', hK⟩ | ⟨hk', hK⟩ | ⟨hk', hK⟩ | ⟨hk', hK⟩ | ⟨hk', hK⟩ | ⟨hk', hK⟩ | ⟨hk', hK⟩ <;> rw [← hR.1] at hk'
 ·rw [if_pos hk', ae (by omega)]
  have hfd : aF g.Mode g.Seen t none found n = (n, []) := by unfold aF; rw [if_pos hk', if_neg (by simp)]
  rw [show IntKind.wrap .i64 (n.Many + 0) = n.Many + (([] : List GOcc).length : Int) from W 0 (by omega)]
  exact fin n _ hfd rfl _ rfl
 ·have a := bB hR hf hF (j := 0) (x := e.Kids[0]'(by omega)) (by simp)
  have b := bB hR hf hF (j := 1) (x := e.Kids[1]'(by omega)) (by simp)
  have hN : exN (e.Kids[0]'(by omega)) + exN (e.Kids[1]'(by omega)) + 1 = exN e := by obtain ⟨x, y, hK'⟩ := gx hK; rw [gA hK']; simp only [hK', List.getElem_cons_zero, List.getElem_cons_succ]
  have h2 := a.two b (by omega)
  rw [cq] at h2
  obtain ⟨q0, a1, a2, a3, _⟩ := cy hR hf (j := 0) (by rw [hK]; decide)
  obtain ⟨q1, b1, b2, b3, _⟩ := cy hR hf (j := 1) (by rw [hK]; decide)
  rw [if_neg (by omega), if_pos hk']
  rw [ae (by omega), a2]
  simp only [Option.bind_some]
  rw [ae (by omega), ae (by omega), Int.toNat_natCast, a3]
  simp only [Option.bind_some]
  rw [ae (by omega), b2]
  simp only [Option.bind_some]
  rw [ae (by omega), ae (by omega), Int.toNat_natCast, b3]
  simp only [Option.bind_some]
  rw [bY k hk _ _ (by omega) a.2.1.few b.2.1.few a.1]
  simp only [Option.bind_some]
  rw [ae (by omega)]
  have hfd : aF g.Mode g.Seen t none found n = (n, bQ (av found n 0) (av found n 1)) := by unfold aF; rw [if_neg (by omega), if_pos hk']
  rw [hfd] at hsm
  rw [W _ hsm]
  exact fin n _ hfd rfl _ rfl
 ·have a := bB hR hf hF (j := 0) (x := e.Kids[0]'(by omega)) (by simp)
  have b := bB hR hf hF (j := 1) (x := e.Kids[1]'(by omega)) (by simp)
  have hN : exN (e.Kids[0]'(by omega)) + exN (e.Kids[1]'(by omega)) + 1 = exN e := by obtain ⟨x, y, hK'⟩ := gx hK; rw [gA hK']; simp only [hK', List.getElem_cons_zero, List.getElem_cons_succ]
  have h2 := a.two b (by omega)
  rw [cq] at h2
  obtain ⟨q0, a1, a2, a3, _⟩ := cy hR hf (j := 0) (by rw [hK]; decide)
  obtain ⟨q1, b1, b2, b3, _⟩ := cy hR hf (j := 1) (by rw [hK]; decide)
  rw [if_neg (by omega), if_neg (by omega), if_pos hk']
  rw [ae (by omega), a2]
  simp only [Option.bind_some]
  rw [ae (by omega), ae (by omega), Int.toNat_natCast, a3]
  simp only [Option.bind_some]
  rw [ae (by omega), b2]
  simp only [Option.bind_some]
  rw [ae (by omega), ae (by omega), Int.toNat_natCast, b3]
  simp only [Option.bind_some]
  rw [xb k hk g.Mode n.Pair _ _ 40 40 (av found n 0).length (av found n 1).length S1 S2 a.2.1 b.2.1 (Nat.le_refl _) (Nat.le_refl _) (by rw [Nat.mul_add, Nat.mul_comm (av found n 1).length (av found n 0).length]; omega)]
  simp only [Option.bind_some]
  rw [ae (by omega)]
  have hfd : aF g.Mode g.Seen t none found n = (⟨n.Kind, n.Sym, n.N, n.Kids, ⟨(gF g.Mode n.Pair.Left n.Pair.Right (av found n 0) (av found n 1)).1, (gF g.Mode n.Pair.Left n.Pair.Right (av found n 0) (av found n 1)).2.1⟩, n.Span, n.Due, n.Many⟩, (gF g.Mode n.Pair.Left n.Pair.Right (av found n 0) (av found n 1)).2.2) := by unfold aF; rw [if_neg (by omega), if_neg (by omega), if_pos hk']
  rw [hfd] at hsm
  simp only [List.set_set]
  rw [W _ hsm]
  exact fin _ _ hfd rfl _ rfl
 ·have a := bB hR hf hF (j := 0) (x := e.Kids[0]'(by omega)) (by simp)
  have b := bB hR hf hF (j := 1) (x := e.Kids[1]'(by omega)) (by simp)
  have hN : exN (e.Kids[0]'(by omega)) + exN (e.Kids[1]'(by omega)) + 1 = exN e := by obtain ⟨x, y, hK'⟩ := gx hK; rw [gA hK']; simp only [hK', List.getElem_cons_zero, List.getElem_cons_succ]
  have h2 := a.two b (by omega)
  rw [cq] at h2
  obtain ⟨q0, a1, a2, a3, _⟩ := cy hR hf (j := 0) (by rw [hK]; decide)
  obtain ⟨q1, b1, b2, b3, _⟩ := cy hR hf (j := 1) (by rw [hK]; decide)
  rw [if_neg (by omega), if_neg (by omega), if_neg (by omega), if_pos hk']
  rw [ae (by omega), a2]
  simp only [Option.bind_some]
  rw [ae (by omega), ae (by omega), Int.toNat_natCast, a3]
  simp only [Option.bind_some]
  rw [ae (by omega), b2]
  simp only [Option.bind_some]
  rw [ae (by omega), ae (by omega), Int.toNat_natCast, b3]
  simp only [Option.bind_some]
  rw [(sX k hk g.Mode n.Pair _ _ 40 (av found n 1).length (by omega) (by omega) (by omega) S1 a.2.1 b.2.1 (by omega) (Nat.le_refl _)).1]
  simp only [Option.bind_some]
  rw [ae (by omega)]
  have hfd : aF g.Mode g.Seen t none found n = (⟨n.Kind, n.Sym, n.N, n.Kids, ⟨(kJ g.Mode n.Pair.Left (av found n 0) (av found n 1)).1, n.Pair.Right⟩, n.Span, n.Due, n.Many⟩, (kJ g.Mode n.Pair.Left (av found n 0) (av found n 1)).2) := by unfold aF; rw [if_neg (by omega), if_neg (by omega), if_neg (by omega), if_pos hk']
  rw [hfd] at hsm
  simp only [List.set_set]
  rw [W _ hsm]
  exact fin _ _ hfd rfl _ rfl
 ·have a := bB hR hf hF (j := 0) (x := e.Kids[0]'(by omega)) (by simp)
  have b := bB hR hf hF (j := 1) (x := e.Kids[1]'(by omega)) (by simp)
  have c := bB hR hf hF (j := 2) (x := e.Kids[2]'(by omega)) (by simp)
  have hN : exN (e.Kids[0]'(by omega)) + exN (e.Kids[1]'(by omega)) + exN (e.Kids[2]'(by omega)) + 1 = exN e := by obtain ⟨x, y, z, hK'⟩ := iZ hK; rw [ja hK']; simp only [hK', List.getElem_cons_zero, List.getElem_cons_succ]
  have := eQ (e.Kids[1]'(by omega))
  have := eQ (e.Kids[2]'(by omega))
  have h2 := a.two c (by omega)
  have h3 := b.small (by omega)
  rw [cq] at h2
  obtain ⟨q0, a1, a2, a3, _⟩ := cy hR hf (j := 0) (by rw [hK]; decide)
  obtain ⟨q1, b1, b2, b3, _⟩ := cy hR hf (j := 1) (by rw [hK]; decide)
  obtain ⟨q2, c1, c2, c3, _⟩ := cy hR hf (j := 2) (by rw [hK]; decide)
  rw [if_neg (by omega), if_neg (by omega), if_neg (by omega), if_neg (by omega), if_pos hk']
  rw [ae (by omega), a2]
  simp only [Option.bind_some]
  rw [ae (by omega), ae (by omega), Int.toNat_natCast, a3]
  simp only [Option.bind_some]
  rw [ae (by omega), b2]
  simp only [Option.bind_some]
  rw [ae (by omega), ae (by omega), Int.toNat_natCast, b3]
  simp only [Option.bind_some]
  rw [ae (by omega), c2]
  simp only [Option.bind_some]
  rw [ae (by omega), ae (by omega), Int.toNat_natCast, c3]
  simp only [Option.bind_some]
  rw [(tJ k hk g.Mode n.Span _ _ _ 40 (av found n 2).length (by omega) (by omega) (by omega) S3 S4 a.2.1 b.2.1 c.2.1 (by omega) (by omega) (Nat.le_refl _)).1]
  simp only [Option.bind_some]
  rw [ae (by omega)]
  have hfd : aF g.Mode g.Seen t none found n = (⟨n.Kind, n.Sym, n.N, n.Kids, n.Pair, ⟨(gB g.Mode n.Span.Left n.Span.Mid (av found n 0) (av found n 1) (av found n 2)).1, (gB g.Mode n.Span.Left n.Span.Mid (av found n 0) (av found n 1) (av found n 2)).2.1⟩, n.Due, n.Many⟩, (gB g.Mode n.Span.Left n.Span.Mid (av found n 0) (av found n 1) (av found n 2)).2.2) := by unfold aF; rw [if_neg (by omega), if_neg (by omega), if_neg (by omega), if_neg (by omega), if_pos hk']
  rw [hfd] at hsm
  simp only [List.set_set]
  rw [W _ hsm]
  exact fin _ _ hfd rfl _ rfl
 ·have a := bB hR hf hF (j := 0) (x := e.Kids[0]'(by omega)) (by simp)
  have b := bB hR hf hF (j := 1) (x := e.Kids[1]'(by omega)) (by simp)
  have c := bB hR hf hF (j := 2) (x := e.Kids[2]'(by omega)) (by simp)
  have hN : exN (e.Kids[0]'(by omega)) + exN (e.Kids[1]'(by omega)) + exN (e.Kids[2]'(by omega)) + 1 = exN e := by obtain ⟨x, y, z, hK'⟩ := iZ hK; rw [ja hK']; simp only [hK', List.getElem_cons_zero, List.getElem_cons_succ]
  have := eQ (e.Kids[1]'(by omega))
  have := eQ (e.Kids[2]'(by omega))
  have h2 := a.two b (by omega)
  have h3 := c.small (by omega)
  rw [cq] at h2
  obtain ⟨q0, a1, a2, a3, _⟩ := cy hR hf (j := 0) (by rw [hK]; decide)
  obtain ⟨q1, b1, b2, b3, _⟩ := cy hR hf (j := 1) (by rw [hK]; decide)
  obtain ⟨q2, c1, c2, c3, _⟩ := cy hR hf (j := 2) (by rw [hK]; decide)
  rw [if_neg (by omega), if_neg (by omega), if_neg (by omega), if_neg (by omega), if_neg (by omega), if_pos hk']
  rw [ae (by omega), a2]
  simp only [Option.bind_some]
  rw [ae (by omega), ae (by omega), Int.toNat_natCast, a3]
  simp only [Option.bind_some]
  rw [ae (by omega), b2]
  simp only [Option.bind_some]
  rw [ae (by omega), ae (by omega), Int.toNat_natCast, b3]
  simp only [Option.bind_some]
  rw [ae (by omega), c2]
  simp only [Option.bind_some]
  rw [ae (by omega), ae (by omega), Int.toNat_natCast, c3]
  simp only [Option.bind_some]
  rw [(ri k hk g.Mode n.Span _ _ _ 40 (av found n 1).length (by omega) (by omega) (by omega) S3 S4 a.2.1 b.2.1 c.2.1 (by omega) (Nat.le_refl _) (by omega)).1]
  simp only [Option.bind_some]
  rw [ae (by omega)]
  have hfd : aF g.Mode g.Seen t none found n = (⟨n.Kind, n.Sym, n.N, n.Kids, n.Pair, ⟨(cL g.Mode n.Span.Left n.Span.Mid (av found n 0) (av found n 1) (av found n 2)).1, (cL g.Mode n.Span.Left n.Span.Mid (av found n 0) (av found n 1) (av found n 2)).2.1⟩, n.Due, n.Many⟩, (cL g.Mode n.Span.Left n.Span.Mid (av found n 0) (av found n 1) (av found n 2)).2.2) := by unfold aF; rw [if_neg (by omega), if_neg (by omega), if_neg (by omega), if_neg (by omega), if_neg (by omega), if_pos hk']
  rw [hfd] at hsm
  simp only [List.set_set]
  rw [W _ hsm]
  exact fin _ _ hfd rfl _ rfl
 ·have a := bB hR hf hF (j := 0) (x := e.Kids[0]'(by omega)) (by simp)
  have hN : exN (e.Kids[0]'(by omega)) + 1 = exN e := by obtain ⟨x, hK'⟩ := tF hK.1; rw [tY hK']; simp only [hK', List.getElem_cons_zero]
  have hsa := a.small (by omega)
  obtain ⟨q0, a1, a2, a3, _⟩ := cy hR hf (j := 0) (by rw [hK.1]; decide)
  have hd := S5.filter (fun o => !(o.To == t))
  have := S5.2.2
  rw [if_neg (by omega), if_neg (by omega), if_neg (by omega), if_neg (by omega), if_neg (by omega), if_neg (by omega), se k hk _ _ (by omega)]
  simp only [Option.bind_some]
  have hth : aQ.f (fun y0 => cT.f y0 t) k n.Due = some (n.Due.filter fun o => !(o.To == t)) := lv k hk _ _ _ (by omega) (fun x hx => rfl)
  rw [hth]
  simp only [Option.bind_some]
  rw [ae (by omega), a2]
  simp only [Option.bind_some]
  rw [ae (by omega), ae (by omega), Int.toNat_natCast, a3]
  simp only [Option.bind_some]
  have hl2 := lN k hk (av found n 0) ns i 40 (gy n (n.Due.filter fun o => !(o.To == t))) (by omega) (by omega) hd a.2.1 (fun o ho => by have := a.2.2.2 o ho; have h7 := hR.2.2.1; have hh := hK.2; show -100000 ≤ o.To + n.N ∧ o.To + n.N ≤ 200000; omega)
  simp only [gy] at hl2
  rw [hl2]
  simp only [Option.bind_some]
  rw [ae (by omega), List.getElem?_set_self (by omega)]
  simp only [Option.bind_some, List.set_set]
  have hfd : aF g.Mode g.Seen t none found n = (⟨n.Kind, n.Sym, n.N, n.Kids, n.Pair, n.Span, Ar t n.N n.Due (av found n 0), n.Many⟩, atM n.Due t) := by unfold aF; rw [if_neg (by omega), if_neg (by omega), if_neg (by omega), if_neg (by omega), if_neg (by omega), if_neg (by omega)]
  rw [hfd] at hsm
  show (if full = true then aj.l1 k g t N (ns.set i ⟨n.Kind, n.Sym, n.N, n.Kids, n.Pair, n.Span, _, IntKind.wrap .i64 (n.Many + ((atM n.Due t).length : Int))⟩) true _ _ else aj.l1 k g t N (ns.set i ⟨n.Kind, n.Sym, n.N, n.Kids, n.Pair, n.Span, _, IntKind.wrap .i64 (n.Many + ((atM n.Due t).length : Int))⟩) (decide (40 < IntKind.wrap .i64 (n.Many + ((atM n.Due t).length : Int)))) _ _) = _
  rw [W _ hsm]
  exact fin _ _ hfd rfl _ rfl
theorem Bf (k : Nat) (hk : 1000000000000 ≤ k) (g : GGraph) (t : Int) (x : GEv) (N i : Nat) (ns : List GNode) (full : Bool) (found : List (List GOcc)) (n : GNode) (e : GEx) (es : List GEx) (hi : i < g.Nodes.length) (hg : g.Nodes.length ≤ 1000) (hl : ns.length = g.Nodes.length) (hn : ns[i]? = some n)
  (hx : fT e) (hR : kG es i n e) (hS : lj t n) (hf : found.length = i) (hF : jc t es found) (hs : 0 ≤ g.Seen ∧ g.Seen ≤ 23) (ht : 0 ≤ t ∧ t ≤ 100000) :
  ak.l1 k g t x (N + 1) ns full found (i : Int) = ak.l1 k g t x N (ns.set i (eV (aF g.Mode g.Seen t (some x.Sym) found n))) (full || decide (40 < (eV (aF g.Mode g.Seen t (some x.Sym) found n)).Many)) (found ++ [(aF g.Mode g.Seen t (some x.Sym) found n).2]) ((i + 1 : Nat) : Int) := by
 have hout := tN (mode := g.Mode) (seen := g.Seen) (ev := (some x.Sym)) hx hR hS hf hF hs
 have h12 := hx.2
 have hsm := hout.small h12
 obtain ⟨S1, S2, S3, S4, S5, m0, m1, T1, T2, T3, T4⟩ := hS
 have W : ∀ (q : Nat), q ≤ 30420000000 → IntKind.wrap .i64 (n.Many + (q : Int)) = n.Many + (q : Int) := fun q hq => wr _ (by omega)
 have fin : ∀ (m : GNode) (out : List GOcc), aF g.Mode g.Seen t (some x.Sym) found n = (m, out) → m.Many = n.Many → ∀ m' : GNode, m' = eV (m, out) →
   (if full = true then ak.l1 k g t x N (ns.set i m') true (found ++ [out]) ((i + 1 : Nat) : Int) else ak.l1 k g t x N (ns.set i m') (decide (40 < n.Many + (out.length : Int))) (found ++ [out]) ((i + 1 : Nat) : Int)) =
   ak.l1 k g t x N (ns.set i (eV (aF g.Mode g.Seen t (some x.Sym) found n))) (full || decide (40 < (eV (aF g.Mode g.Seen t (some x.Sym) found n)).Many)) (found ++ [(aF g.Mode g.Seen t (some x.Sym) found n).2]) ((i + 1 : Nat) : Int) := by
  intro m out h hm m' hm'
  rw [h, hm']
  have : (eV (m, out)).Many = n.Many + (out.length : Int) := by show m.Many + _ = _; rw [hm]
  rw [this]
  cases full
  ·rw [if_neg (by decide), Bool.false_or]
  ·rw [if_pos rfl, Bool.true_or]
 rw [ak.l1, if_pos (by omega), ae (by omega), ae (by omega), Int.toNat_natCast, hn]
 simp only [Option.bind_some]
 rw [wrS i (by omega)]
 rcases ir (gR hx.1).1 with ⟨hk', hK⟩ | ⟨hk', hK⟩ | ⟨hk', hK⟩ | ⟨hk', hK⟩ | ⟨hk', hK⟩ | ⟨hk', hK⟩ | ⟨hk', hK⟩ <;> rw [← hR.1] at hk'
 ·rw [if_pos hk']
  by_cases hsym : x.Sym = n.Sym
  ·rw [if_pos hsym, ae (by omega)]
   have hfd : aF g.Mode g.Seen t (some x.Sym) found n = (n, [⟨t, t, [g.Seen]⟩]) := by unfold aF; rw [if_pos hk', if_pos (by rw [hsym])]
   rw [show IntKind.wrap .i64 (n.Many + ((1 : Nat) : Int)) = n.Many + (([⟨t, t, [g.Seen]⟩] : List GOcc).length : Int) from W 1 (by omega)]
   exact fin n _ hfd rfl _ rfl
  ·rw [if_neg hsym, ae (by omega)]
   have hfd : aF g.Mode g.Seen t (some x.Sym) found n = (n, []) := by unfold aF; rw [if_pos hk', if_neg (by simpa using hsym)]
   rw [show IntKind.wrap .i64 (n.Many + 0) = n.Many + (([] : List GOcc).length : Int) from W 0 (by omega)]
   exact fin n _ hfd rfl _ rfl
 ·have a := bB hR hf hF (j := 0) (x := e.Kids[0]'(by omega)) (by simp)
  have b := bB hR hf hF (j := 1) (x := e.Kids[1]'(by omega)) (by simp)
  have hN : exN (e.Kids[0]'(by omega)) + exN (e.Kids[1]'(by omega)) + 1 = exN e := by obtain ⟨x, y, hK'⟩ := gx hK; rw [gA hK']; simp only [hK', List.getElem_cons_zero, List.getElem_cons_succ]
  have h2 := a.two b (by omega)
  rw [cq] at h2
  obtain ⟨q0, a1, a2, a3, _⟩ := cy hR hf (j := 0) (by rw [hK]; decide)
  obtain ⟨q1, b1, b2, b3, _⟩ := cy hR hf (j := 1) (by rw [hK]; decide)
  rw [if_neg (by omega), if_pos hk']
  rw [ae (by omega), a2]
  simp only [Option.bind_some]
  rw [ae (by omega), ae (by omega), Int.toNat_natCast, a3]
  simp only [Option.bind_some]
  rw [ae (by omega), b2]
  simp only [Option.bind_some]
  rw [ae (by omega), ae (by omega), Int.toNat_natCast, b3]
  simp only [Option.bind_some]
  rw [bY k hk _ _ (by omega) a.2.1.few b.2.1.few a.1]
  simp only [Option.bind_some]
  rw [ae (by omega)]
  have hfd : aF g.Mode g.Seen t (some x.Sym) found n = (n, bQ (av found n 0) (av found n 1)) := by unfold aF; rw [if_neg (by omega), if_pos hk']
  rw [hfd] at hsm
  rw [W _ hsm]
  exact fin n _ hfd rfl _ rfl
 ·have a := bB hR hf hF (j := 0) (x := e.Kids[0]'(by omega)) (by simp)
  have b := bB hR hf hF (j := 1) (x := e.Kids[1]'(by omega)) (by simp)
  have hN : exN (e.Kids[0]'(by omega)) + exN (e.Kids[1]'(by omega)) + 1 = exN e := by obtain ⟨x, y, hK'⟩ := gx hK; rw [gA hK']; simp only [hK', List.getElem_cons_zero, List.getElem_cons_succ]
  have h2 := a.two b (by omega)
  rw [cq] at h2
  obtain ⟨q0, a1, a2, a3, _⟩ := cy hR hf (j := 0) (by rw [hK]; decide)
  obtain ⟨q1, b1, b2, b3, _⟩ := cy hR hf (j := 1) (by rw [hK]; decide)
  rw [if_neg (by omega), if_neg (by omega), if_pos hk']
  rw [ae (by omega), a2]
  simp only [Option.bind_some]
  rw [ae (by omega), ae (by omega), Int.toNat_natCast, a3]
  simp only [Option.bind_some]
  rw [ae (by omega), b2]
  simp only [Option.bind_some]
  rw [ae (by omega), ae (by omega), Int.toNat_natCast, b3]
  simp only [Option.bind_some]
  rw [xb k hk g.Mode n.Pair _ _ 40 40 (av found n 0).length (av found n 1).length S1 S2 a.2.1 b.2.1 (Nat.le_refl _) (Nat.le_refl _) (by rw [Nat.mul_add, Nat.mul_comm (av found n 1).length (av found n 0).length]; omega)]
  simp only [Option.bind_some]
  rw [ae (by omega)]
  have hfd : aF g.Mode g.Seen t (some x.Sym) found n = (⟨n.Kind, n.Sym, n.N, n.Kids, ⟨(gF g.Mode n.Pair.Left n.Pair.Right (av found n 0) (av found n 1)).1, (gF g.Mode n.Pair.Left n.Pair.Right (av found n 0) (av found n 1)).2.1⟩, n.Span, n.Due, n.Many⟩, (gF g.Mode n.Pair.Left n.Pair.Right (av found n 0) (av found n 1)).2.2) := by unfold aF; rw [if_neg (by omega), if_neg (by omega), if_pos hk']
  rw [hfd] at hsm
  simp only [List.set_set]
  rw [W _ hsm]
  exact fin _ _ hfd rfl _ rfl
 ·have a := bB hR hf hF (j := 0) (x := e.Kids[0]'(by omega)) (by simp)
  have b := bB hR hf hF (j := 1) (x := e.Kids[1]'(by omega)) (by simp)
  have hN : exN (e.Kids[0]'(by omega)) + exN (e.Kids[1]'(by omega)) + 1 = exN e := by obtain ⟨x, y, hK'⟩ := gx hK; rw [gA hK']; simp only [hK', List.getElem_cons_zero, List.getElem_cons_succ]
  have h2 := a.two b (by omega)
  rw [cq] at h2
  obtain ⟨q0, a1, a2, a3, _⟩ := cy hR hf (j := 0) (by rw [hK]; decide)
  obtain ⟨q1, b1, b2, b3, _⟩ := cy hR hf (j := 1) (by rw [hK]; decide)
  rw [if_neg (by omega), if_neg (by omega), if_neg (by omega), if_pos hk']
  rw [ae (by omega), a2]
  simp only [Option.bind_some]
  rw [ae (by omega), ae (by omega), Int.toNat_natCast, a3]
  simp only [Option.bind_some]
  rw [ae (by omega), b2]
  simp only [Option.bind_some]
  rw [ae (by omega), ae (by omega), Int.toNat_natCast, b3]
  simp only [Option.bind_some]
  rw [(sX k hk g.Mode n.Pair _ _ 40 (av found n 1).length (by omega) (by omega) (by omega) S1 a.2.1 b.2.1 (by omega) (Nat.le_refl _)).1]
  simp only [Option.bind_some]
  rw [ae (by omega)]
  have hfd : aF g.Mode g.Seen t (some x.Sym) found n = (⟨n.Kind, n.Sym, n.N, n.Kids, ⟨(kJ g.Mode n.Pair.Left (av found n 0) (av found n 1)).1, n.Pair.Right⟩, n.Span, n.Due, n.Many⟩, (kJ g.Mode n.Pair.Left (av found n 0) (av found n 1)).2) := by unfold aF; rw [if_neg (by omega), if_neg (by omega), if_neg (by omega), if_pos hk']
  rw [hfd] at hsm
  simp only [List.set_set]
  rw [W _ hsm]
  exact fin _ _ hfd rfl _ rfl
 ·have a := bB hR hf hF (j := 0) (x := e.Kids[0]'(by omega)) (by simp)
  have b := bB hR hf hF (j := 1) (x := e.Kids[1]'(by omega)) (by simp)
  have c := bB hR hf hF (j := 2) (x := e.Kids[2]'(by omega)) (by simp)
  have hN : exN (e.Kids[0]'(by omega)) + exN (e.Kids[1]'(by omega)) + exN (e.Kids[2]'(by omega)) + 1 = exN e := by obtain ⟨x, y, z, hK'⟩ := iZ hK; rw [ja hK']; simp only [hK', List.getElem_cons_zero, List.getElem_cons_succ]
  have := eQ (e.Kids[1]'(by omega))
  have := eQ (e.Kids[2]'(by omega))
  have h2 := a.two c (by omega)
  have h3 := b.small (by omega)
  rw [cq] at h2
  obtain ⟨q0, a1, a2, a3, _⟩ := cy hR hf (j := 0) (by rw [hK]; decide)
  obtain ⟨q1, b1, b2, b3, _⟩ := cy hR hf (j := 1) (by rw [hK]; decide)
  obtain ⟨q2, c1, c2, c3, _⟩ := cy hR hf (j := 2) (by rw [hK]; decide)
  rw [if_neg (by omega), if_neg (by omega), if_neg (by omega), if_neg (by omega), if_pos hk']
  rw [ae (by omega), a2]
  simp only [Option.bind_some]
  rw [ae (by omega), ae (by omega), Int.toNat_natCast, a3]
  simp only [Option.bind_some]
  rw [ae (by omega), b2]
  simp only [Option.bind_some]
  rw [ae (by omega), ae (by omega), Int.toNat_natCast, b3]
  simp only [Option.bind_some]
  rw [ae (by omega), c2]
  simp only [Option.bind_some]
  rw [ae (by omega), ae (by omega), Int.toNat_natCast, c3]
  simp only [Option.bind_some]
  rw [(tJ k hk g.Mode n.Span _ _ _ 40 (av found n 2).length (by omega) (by omega) (by omega) S3 S4 a.2.1 b.2.1 c.2.1 (by omega) (by omega) (Nat.le_refl _)).1]
  simp only [Option.bind_some]
  rw [ae (by omega)]
  have hfd : aF g.Mode g.Seen t (some x.Sym) found n = (⟨n.Kind, n.Sym, n.N, n.Kids, n.Pair, ⟨(gB g.Mode n.Span.Left n.Span.Mid (av found n 0) (av found n 1) (av found n 2)).1, (gB g.Mode n.Span.Left n.Span.Mid (av found n 0) (av found n 1) (av found n 2)).2.1⟩, n.Due, n.Many⟩, (gB g.Mode n.Span.Left n.Span.Mid (av found n 0) (av found n 1) (av found n 2)).2.2) := by unfold aF; rw [if_neg (by omega), if_neg (by omega), if_neg (by omega), if_neg (by omega), if_pos hk']
  rw [hfd] at hsm
  simp only [List.set_set]
  rw [W _ hsm]
  exact fin _ _ hfd rfl _ rfl
 ·have a := bB hR hf hF (j := 0) (x := e.Kids[0]'(by omega)) (by simp)
  have b := bB hR hf hF (j := 1) (x := e.Kids[1]'(by omega)) (by simp)
  have c := bB hR hf hF (j := 2) (x := e.Kids[2]'(by omega)) (by simp)
  have hN : exN (e.Kids[0]'(by omega)) + exN (e.Kids[1]'(by omega)) + exN (e.Kids[2]'(by omega)) + 1 = exN e := by obtain ⟨x, y, z, hK'⟩ := iZ hK; rw [ja hK']; simp only [hK', List.getElem_cons_zero, List.getElem_cons_succ]
  have := eQ (e.Kids[1]'(by omega))
  have := eQ (e.Kids[2]'(by omega))
  have h2 := a.two b (by omega)
  have h3 := c.small (by omega)
  rw [cq] at h2
  obtain ⟨q0, a1, a2, a3, _⟩ := cy hR hf (j := 0) (by rw [hK]; decide)
  obtain ⟨q1, b1, b2, b3, _⟩ := cy hR hf (j := 1) (by rw [hK]; decide)
  obtain ⟨q2, c1, c2, c3, _⟩ := cy hR hf (j := 2) (by rw [hK]; decide)
  rw [if_neg (by omega), if_neg (by omega), if_neg (by omega), if_neg (by omega), if_neg (by omega), if_pos hk']
  rw [ae (by omega), a2]
  simp only [Option.bind_some]
  rw [ae (by omega), ae (by omega), Int.toNat_natCast, a3]
  simp only [Option.bind_some]
  rw [ae (by omega), b2]
  simp only [Option.bind_some]
  rw [ae (by omega), ae (by omega), Int.toNat_natCast, b3]
  simp only [Option.bind_some]
  rw [ae (by omega), c2]
  simp only [Option.bind_some]
  rw [ae (by omega), ae (by omega), Int.toNat_natCast, c3]
  simp only [Option.bind_some]
  rw [(ri k hk g.Mode n.Span _ _ _ 40 (av found n 1).length (by omega) (by omega) (by omega) S3 S4 a.2.1 b.2.1 c.2.1 (by omega) (Nat.le_refl _) (by omega)).1]
  simp only [Option.bind_some]
  rw [ae (by omega)]
  have hfd : aF g.Mode g.Seen t (some x.Sym) found n = (⟨n.Kind, n.Sym, n.N, n.Kids, n.Pair, ⟨(cL g.Mode n.Span.Left n.Span.Mid (av found n 0) (av found n 1) (av found n 2)).1, (cL g.Mode n.Span.Left n.Span.Mid (av found n 0) (av found n 1) (av found n 2)).2.1⟩, n.Due, n.Many⟩, (cL g.Mode n.Span.Left n.Span.Mid (av found n 0) (av found n 1) (av found n 2)).2.2) := by unfold aF; rw [if_neg (by omega), if_neg (by omega), if_neg (by omega), if_neg (by omega), if_neg (by omega), if_pos hk']
  rw [hfd] at hsm
  simp only [List.set_set]
  rw [W _ hsm]
  exact fin _ _ hfd rfl _ rfl
 ·have a := bB hR hf hF (j := 0) (x := e.Kids[0]'(by omega)) (by simp)
  have hN : exN (e.Kids[0]'(by omega)) + 1 = exN e := by obtain ⟨x, hK'⟩ := tF hK.1; rw [tY hK']; simp only [hK', List.getElem_cons_zero]
  have hsa := a.small (by omega)
  obtain ⟨q0, a1, a2, a3, _⟩ := cy hR hf (j := 0) (by rw [hK.1]; decide)
  have hd := S5.filter (fun o => !(o.To == t))
  have := S5.2.2
  rw [if_neg (by omega), if_neg (by omega), if_neg (by omega), if_neg (by omega), if_neg (by omega), if_neg (by omega), se k hk _ _ (by omega)]
  simp only [Option.bind_some]
  have hth : aQ.f (fun y0 => cT.f y0 t) k n.Due = some (n.Due.filter fun o => !(o.To == t)) := lv k hk _ _ _ (by omega) (fun x hx => rfl)
  rw [hth]
  simp only [Option.bind_some]
  rw [ae (by omega), a2]
  simp only [Option.bind_some]
  rw [ae (by omega), ae (by omega), Int.toNat_natCast, a3]
  simp only [Option.bind_some]
  have hl2 := nw k hk (av found n 0) ns i 40 (gy n (n.Due.filter fun o => !(o.To == t))) (by omega) (by omega) hd a.2.1 (fun o ho => by have := a.2.2.2 o ho; have h7 := hR.2.2.1; have hh := hK.2; show -100000 ≤ o.To + n.N ∧ o.To + n.N ≤ 200000; omega)
  simp only [gy] at hl2
  rw [hl2]
  simp only [Option.bind_some]
  rw [ae (by omega), List.getElem?_set_self (by omega)]
  simp only [Option.bind_some, List.set_set]
  have hfd : aF g.Mode g.Seen t (some x.Sym) found n = (⟨n.Kind, n.Sym, n.N, n.Kids, n.Pair, n.Span, Ar t n.N n.Due (av found n 0), n.Many⟩, atM n.Due t) := by unfold aF; rw [if_neg (by omega), if_neg (by omega), if_neg (by omega), if_neg (by omega), if_neg (by omega), if_neg (by omega)]
  rw [hfd] at hsm
  show (if full = true then ak.l1 k g t x N (ns.set i ⟨n.Kind, n.Sym, n.N, n.Kids, n.Pair, n.Span, _, IntKind.wrap .i64 (n.Many + ((atM n.Due t).length : Int))⟩) true _ _ else ak.l1 k g t x N (ns.set i ⟨n.Kind, n.Sym, n.N, n.Kids, n.Pair, n.Span, _, IntKind.wrap .i64 (n.Many + ((atM n.Due t).length : Int))⟩) (decide (40 < IntKind.wrap .i64 (n.Many + ((atM n.Due t).length : Int)))) _ _) = _
  rw [W _ hsm]
  exact fin _ _ hfd rfl _ rfl
theorem yX {mode seen t : Int} {ev : Option Int} {f g : List (List GOcc)} {n : GNode} (h0 : n.Kind = 1 ∨ av f n 0 = av g n 0) (h1 : n.Kind = 1 ∨ n.Kind = 7 ∨ av f n 1 = av g n 1) (h2 : (n.Kind ≠ 5 ∧ n.Kind ≠ 6) ∨ av f n 2 = av g n 2)
  (hk : 1 ≤ n.Kind ∧ n.Kind ≤ 7) : aF mode seen t ev f n = aF mode seen t ev g n := by
 unfold aF
 by_cases k1 : n.Kind = 1
 ·rw [if_pos k1, if_pos k1]
 have e0 : av f n 0 = av g n 0 := h0.resolve_left k1
 rw [if_neg k1, if_neg k1, e0]
 by_cases k7 : n.Kind = 7
 ·rw [if_neg (by omega), if_neg (by omega), if_neg (by omega), if_neg (by omega), if_neg (by omega), if_neg (by omega), if_neg (by omega), if_neg (by omega), if_neg (by omega), if_neg (by omega)]
 have e1 : av f n 1 = av g n 1 := (h1.resolve_left k1).resolve_left k7
 rw [e1]
 by_cases k5 : n.Kind = 5 ∨ n.Kind = 6
 ·have e2 : av f n 2 = av g n 2 := h2.resolve_left (by omega)
  rw [e2]
 ·rw [if_neg (show ¬ n.Kind = 5 by omega), if_neg (show ¬ n.Kind = 5 by omega), if_neg (show ¬ n.Kind = 6 by omega), if_neg (show ¬ n.Kind = 6 by omega)]
theorem xR {e : GEx} (hx : fT e) {n : GNode} {es : List GEx} {i : Nat} (hR : kG es i n e) : 1 ≤ n.Kind ∧ n.Kind ≤ 7 ∧ (n.Kind = 1 ∨ 0 < e.Kids.length) ∧ (n.Kind = 1 ∨ n.Kind = 7 ∨ 1 < e.Kids.length) ∧ ((n.Kind ≠ 5 ∧ n.Kind ≠ 6) ∨ 2 < e.Kids.length) := by
 rcases ir (gR hx.1).1 with ⟨hk, hl⟩ | ⟨hk, hl⟩ | ⟨hk, hl⟩ | ⟨hk, hl⟩ | ⟨hk, hl⟩ | ⟨hk, hl⟩ | ⟨hk, hl⟩ <;> rw [← hR.1] at hk <;> omega
theorem nE {es : List GEx} {i : Nat} {n : GNode} {e : GEx} {found : List (List GOcc)} (h : kG es i n e) (hi : i ≤ found.length) {j : Nat} (hj : j < e.Kids.length) : av (found.take i) n j = av found n j := by
 obtain ⟨q, h1, h2, h3⟩ := h.2.2.2.2 j hj
 unfold av
 have e0 : n.Kids.getD j 0 = (q : Int) := by rw [List.getD_eq_getElem?_getD, h2]; rfl
 rw [e0, Int.toNat_natCast]
 rw [List.getD_eq_getElem?_getD, List.getD_eq_getElem?_getD, List.getElem?_take_of_lt h1]
theorem y7 {mode seen t : Int} {ev : Option Int} {es : List GEx} {i : Nat} {n : GNode} {e : GEx} {found : List (List GOcc)} (hx : fT e) (h : kG es i n e) (hi : i ≤ found.length) : aF mode seen t ev (found.take i) n = aF mode seen t ev found n := by
 obtain ⟨a, b, c, d, f⟩ := xR hx h
 exact yX (c.imp id fun q => nE h hi q) (d.imp id fun q => q.imp id fun q => nE h hi q) (f.imp id fun q => nE h hi q) ⟨a, b⟩
/-- the parts up to a place -/
def ez (mode seen t : Int) (ev : Option Int) (ns : List GNode) (i : Nat) : List GNode × List (List GOcc) := (ns.take i).foldl (mj mode seen t ev) ([], [])
theorem kD {mode seen t : Int} {ev : Option Int} {ns : List GNode} {i : Nat} (h : i < ns.length) : ez mode seen t ev ns (i + 1) = mj mode seen t ev (ez mode seen t ev ns i) ns[i] := by
 unfold ez
 rw [yU ns i h, List.foldl_append]; rfl
theorem nY (mode seen t : Int) (ev : Option Int) (ns : List GNode) : ez mode seen t ev ns ns.length = aB mode seen t ev ns := by
 unfold ez aB; rw [List.take_length]
theorem iX {mode seen t : Int} {ev : Option Int} {ns : List GNode} : ∀ {i : Nat}, i ≤ ns.length → (ez mode seen t ev ns i).1.length = i ∧ (ez mode seen t ev ns i).2.length = i
 | 0, _ => by simp [ez]
 | i + 1, h => by
  have := iX (mode := mode) (seen := seen) (t := t) (ev := ev) (ns := ns) (i := i) (by omega)
  rw [kD (by omega)]
  simp [mj, this.1, this.2]
theorem uw {mode seen t : Int} {ev : Option Int} {ns : List GNode} (j : Nat) : ∀ (d : Nat), j + d ≤ ns.length → (ez mode seen t ev ns (j + d)).1.take j = (ez mode seen t ev ns j).1 ∧ (ez mode seen t ev ns (j + d)).2.take j = (ez mode seen t ev ns j).2
 | 0, h => by
  have := iX (mode := mode) (seen := seen) (t := t) (ev := ev) (ns := ns) (i := j) (by omega)
  exact ⟨List.take_of_length_le (by rw [Nat.add_zero]; omega), List.take_of_length_le (by rw [Nat.add_zero]; omega)⟩
 | d + 1, h => by
  have ih := uw (mode := mode) (seen := seen) (t := t) (ev := ev) (ns := ns) j d (by omega)
  have hl := iX (mode := mode) (seen := seen) (t := t) (ev := ev) (ns := ns) (i := j + d) (by omega)
  rw [show j + (d + 1) = j + d + 1 by omega, kD (by omega)]
  simp only [mj]
  rw [List.take_append_of_le_length (by omega), List.take_append_of_le_length (by omega)]
  exact ih
theorem vz {mode seen t : Int} {ev : Option Int} {ns : List GNode} {j : Nat} (h : j ≤ ns.length) : (aB mode seen t ev ns).1.take j = (ez mode seen t ev ns j).1 ∧ (aB mode seen t ev ns).2.take j = (ez mode seen t ev ns j).2 := by
 have := uw (mode := mode) (seen := seen) (t := t) (ev := ev) (ns := ns) j (ns.length - j) (by omega)
 rw [show j + (ns.length - j) = ns.length by omega, nY] at this
 exact this
theorem fP (mode seen t : Int) (ev : Option Int) (ns : List GNode) : (aB mode seen t ev ns).1.length = ns.length ∧ (aB mode seen t ev ns).2.length = ns.length := by
 rw [← nY]; exact iX (Nat.le_refl _)
/-- every part, out of all that was found -/
theorem kC {mode seen t : Int} {ev : Option Int} {es : List GEx} {ns : List GNode} (hR : Rep es ns) {i : Nat} {n : GNode} (hn : ns[i]? = some n) :
  (aB mode seen t ev ns).1[i]? = some (eV (aF mode seen t ev (aB mode seen t ev ns).2 n)) ∧ (aB mode seen t ev ns).2[i]? = some (aF mode seen t ev (aB mode seen t ev ns).2 n).2 := by
 have hlt : i < ns.length := (List.getElem?_eq_some_iff.1 hn).1
 have hni : ns[i] = n := (List.getElem?_eq_some_iff.1 hn).2
 obtain ⟨e, he, hx, hr⟩ := hR.2 i n hn
 have p1 := vz (mode := mode) (seen := seen) (t := t) (ev := ev) (ns := ns) (j := i + 1) (by omega)
 have p0 := vz (mode := mode) (seen := seen) (t := t) (ev := ev) (ns := ns) (j := i) (by omega)
 have hl := iX (mode := mode) (seen := seen) (t := t) (ev := ev) (ns := ns) (i := i) (by omega)
 have pl := fP mode seen t ev ns
 have hf : aF mode seen t ev (ez mode seen t ev ns i).2 n = aF mode seen t ev (aB mode seen t ev ns).2 n := by
  rw [← p0.2]; exact y7 hx hr (by omega)
 rw [kD hlt] at p1
 simp only [mj] at p1
 rw [hni, hf] at p1
 constructor
 ·have := congrArg (fun l => l[i]?) p1.1
  simp only [List.getElem?_take_of_lt (Nat.lt_succ_self i)] at this
  rw [this, List.getElem?_append_right (by omega), hl.1, Nat.sub_self]; rfl
 ·have := congrArg (fun l => l[i]?) p1.2
  simp only [List.getElem?_take_of_lt (Nat.lt_succ_self i)] at this
  rw [this, List.getElem?_append_right (by omega), hl.2, Nat.sub_self]; rfl
/-- what holds of all parts ahead of a point in time -/
def mm (t : Int) (es : List GEx) (ns : List GNode) : Prop := Rep es ns ∧ ns.length ≤ 12 ∧ ∀ n ∈ ns, lj t n
theorem nG {mode seen t : Int} {ev : Option Int} {es : List GEx} {ns : List GNode} (hR : mm t es ns) (hs : 0 ≤ seen ∧ seen ≤ 23) : ∀ {i : Nat}, i ≤ ns.length → jc t es (ez mode seen t ev ns i).2
 | 0, _ => fun j l h => by simp [ez] at h
 | i + 1, h => by
  have ih := nG (mode := mode) (ev := ev) hR hs (i := i) (by omega)
  have hl := iX (mode := mode) (seen := seen) (t := t) (ev := ev) (ns := ns) (i := i) (by omega)
  rw [kD (by omega)]
  obtain ⟨e, he, hx, hr⟩ := hR.1.2 i ns[i] (List.getElem?_eq_getElem (by omega))
  intro j l hj
  simp only [mj] at hj
  rcases Nat.lt_or_ge j i with h1 | h1
  ·rw [List.getElem?_append_left (by omega)] at hj
   exact ih j l hj
  ·rw [List.getElem?_append_right (by omega)] at hj
   have : j = i := by
    have := (List.getElem?_eq_some_iff.1 hj).1
    simp at this; omega
   subst this
   rw [hl.2, Nat.sub_self, List.getElem?_cons_zero] at hj
   cases hj
   exact ⟨e, he, tN hx hr (hR.2.2 _ (List.getElem_mem _)) hl.2 ih hs⟩
theorem qi {mode seen t : Int} {ev : Option Int} {es : List GEx} {ns : List GNode} (hR : mm t es ns) (hs : 0 ≤ seen ∧ seen ≤ 23) : jc t es (aB mode seen t ev ns).2 := by
 rw [← nY]; exact nG hR hs (Nat.le_refl _)
def gU (l : List GOcc) : Prop := Asc l ∧ Ids l
theorem gU.ok {l : List GOcc} (h : gU l) : Ok l.length l := ⟨h.1, h.2, Nat.le_refl _⟩
theorem Ok.tidy {m : Nat} {l : List GOcc} (h : Ok m l) : gU l := ⟨h.1, h.2.1⟩
theorem qK {mode : Int} {p : GOcc → GOcc → Bool} : ∀ (r : List GOcc) (s : List GOcc × List GOcc), (r.foldl (en mode p) s).1.length ≤ s.1.length
 | [], _ => Nat.le_refl _
 | o :: r, s => by
  rw [List.foldl_cons]
  exact Nat.le_trans (qK r _) (List.length_filter_le _ _)
theorem oV {mode : Int} {p : GOcc → GOcc → Bool} : ∀ (r : List GOcc) (s : List GOcc × List GOcc), gU s.1 → gU (r.foldl (en mode p) s).1
 | [], _, h => h
 | o :: r, s, h => by
  rw [List.foldl_cons]
  exact oV r _ (Ok.tidy ((h.ok).rem (gone := _)))
theorem gU.merge {l m : List GOcc} (h : gU l) (hm : gU m) : gU (bQ l m) := ⟨eh h.1, fN h.2 hm.2⟩
theorem FO.tidy {t : Int} {s : Nat} {l : List GOcc} (h : FO t s l) : gU l := ⟨h.1, h.2.1⟩
theorem zg {n t : Int} (hn : 1 ≤ n ∧ n ≤ 20) : ∀ (kid acc : List GOcc), (∀ o ∈ kid, o.To = t) → (∀ o ∈ acc, t < o.To ∧ o.To ≤ t + 20) → ∀ o ∈ kid.foldl (fun s o => bZ s (iW n o)) acc, t < o.To ∧ o.To ≤ t + 20
 | [], _, _, h => h
 | x :: kid, acc, hk, h => by
  rw [List.foldl_cons]
  refine zg hn kid _ (fun o ho => hk o (by simp [ho])) (fun o ho => ?_)
  rcases eC.1 ho with h1 | rfl
  ·exact h o h1
  ·have := hk x (by simp); show t < x.To + n ∧ x.To + n ≤ t + 20; omega
/-- how much a part's own lists may grow by its j-th operand -/
def kl (e : GEx) (found : List (List GOcc)) (n : GNode) (j : Nat) : Nat := if j < e.Kids.length then (av found n j).length else 0
def xF (t : Int) (n : GNode) : Prop := (gU n.Pair.Left ∧ gU n.Pair.Right ∧ gU n.Span.Left ∧ gU n.Span.Mid ∧ gU n.Due) ∧
 All (fun o => o.To ≤ t) n.Pair.Left ∧ All (fun o => o.To ≤ t) n.Pair.Right ∧ All (fun o => o.To ≤ t) n.Span.Left ∧ All (fun o => o.To ≤ t) n.Span.Mid
def AY (e : GEx) (found : List (List GOcc)) (n r : GNode) : Prop := r.Pair.Left.length ≤ n.Pair.Left.length + kl e found n 0 ∧ r.Pair.Right.length ≤ n.Pair.Right.length + kl e found n 1 ∧
 r.Span.Left.length ≤ n.Span.Left.length + kl e found n 0 ∧ r.Span.Mid.length ≤ n.Span.Mid.length + (if n.Kind = 5 then kl e found n 1 else kl e found n 2) ∧ r.Due.length ≤ n.Due.length + kl e found n 0
def zz (n r : GNode) : Prop := r.Kind = n.Kind ∧ r.Sym = n.Sym ∧ r.N = n.N ∧ r.Kids = n.Kids ∧ r.Many = n.Many
theorem il {mode seen t : Int} {ev : Option Int} {found : List (List GOcc)} {n : GNode} : zz n (aF mode seen t ev found n).1 := by
 unfold aF zz
 repeat' split
 all_goals exact ⟨rfl, rfl, rfl, rfl, rfl⟩
theorem yI {t seen mode : Int} {ev : Option Int} {es : List GEx} {i : Nat} {n : GNode} {e : GEx} {found : List (List GOcc)} (hx : fT e) (hR : kG es i n e) (hS : lj t n) (hi : i ≤ found.length) (hF : jc t es (found.take i))
  (hd : ∀ o ∈ n.Due, t ≤ o.To ∧ o.To ≤ t + 20) :
  xF t (aF mode seen t ev found n).1 ∧ AY e found n (aF mode seen t ev found n).1 ∧ ∀ o ∈ (aF mode seen t ev found n).1.Due, (t < o.To ∨ ((aF mode seen t ev found n).1.Due = n.Due ∧ n.Kind ≠ 7)) ∧ o.To ≤ t + 20 := by
 obtain ⟨S1, S2, S3, S4, S5, _, _, T1, T2, T3, T4⟩ := hS
 have h12 := hx.2
 have hl' : (found.take i).length = i := by rw [List.length_take]; omega
 have base : xF t n := ⟨⟨S1.tidy, S2.tidy, S3.tidy, S4.tidy, S5.tidy⟩, T1, T2, T3, T4⟩
 have gr : AY e found n n := ⟨by omega, by omega, by omega, by omega, by omega⟩
 have du : n.Kind ≠ 7 → ∀ o ∈ n.Due, (t < o.To ∨ (n.Due = n.Due ∧ n.Kind ≠ 7)) ∧ o.To ≤ t + 20 := fun h7 o ho => ⟨.inr ⟨rfl, h7⟩, (hd o ho).2⟩
 have KF : ∀ j (h : j < e.Kids.length), FO t (exN e.Kids[j]) (av found n j) := fun j h => by
  have := bB hR hl' hF (j := j) (x := e.Kids[j]) (by simp)
  rwa [nE hR hi h] at this
 unfold aF
 rcases ir (gR hx.1).1 with ⟨hk, hl⟩ | ⟨hk, hl⟩ | ⟨hk, hl⟩ | ⟨hk, hl⟩ | ⟨hk, hl⟩ | ⟨hk, hl⟩ | ⟨hk, hl⟩ <;> rw [← hR.1] at hk
 ·rw [if_pos hk]; exact ⟨base, gr, du (by omega)⟩
 ·rw [if_neg (by omega), if_pos hk]; exact ⟨base, gr, du (by omega)⟩
 ·have a := KF 0 (by omega)
  have b := KF 1 (by omega)
  have hN : exN (e.Kids[0]'(by omega)) + exN (e.Kids[1]'(by omega)) + 1 = exN e := by obtain ⟨x, y, hK'⟩ := gx hl; rw [gA hK']; simp only [hK', List.getElem_cons_zero, List.getElem_cons_succ]
  have A := xt (mode := mode) (S1.tidy.ok) (S2.tidy.ok) a.2.1 b.2.1 (Nat.le_refl _) (Nat.le_refl _)
  have B := zP (mode := mode) T1 T2 a.2.2.2 b.2.2.2
  have k0 : kl e found n 0 = (av found n 0).length := if_pos (by omega)
  have k1 : kl e found n 1 = (av found n 1).length := if_pos (by omega)
  rw [if_neg (by omega), if_neg (by omega), if_pos hk]
  refine ⟨⟨⟨A.1.tidy, A.2.1.tidy, S3.tidy, S4.tidy, S5.tidy⟩, B.1, B.2.1, T3, T4⟩, ⟨?_, ?_, gr.2.2.1, gr.2.2.2.1, gr.2.2.2.2⟩, du (by omega)⟩
  ·rw [k0]; exact A.1.2.2
  ·rw [k1]; exact A.2.1.2.2
 ·have a := KF 0 (by omega)
  have b := KF 1 (by omega)
  have k0 : kl e found n 0 = (av found n 0).length := if_pos (by omega)
  have B := nv (mode := mode) (p := before) (av found n 1) (n.Pair.Left, []) b.2.2.2 T1 (by simp)
  have C := oV (mode := mode) (p := before) (av found n 1) (n.Pair.Left, []) S1.tidy
  rw [if_neg (by omega), if_neg (by omega), if_neg (by omega), if_pos hk]
  refine ⟨⟨⟨C.merge a.tidy, S2.tidy, S3.tidy, S4.tidy, S5.tidy⟩, lJ B.1 (fun o ho => by rw [a.2.2.2 o ho]; omega), T2, T3, T4⟩, ⟨?_, gr.2.1, gr.2.2.1, gr.2.2.2.1, gr.2.2.2.2⟩, du (by omega)⟩
  rw [k0]
  exact Nat.le_trans (cf _ _) (Nat.add_le_add_right (qK _ _) _)
 ·have a := KF 0 (by omega)
  have b := KF 1 (by omega)
  have c := KF 2 (by omega)
  have k0 : kl e found n 0 = (av found n 0).length := if_pos (by omega)
  have k1 : kl e found n 1 = (av found n 1).length := if_pos (by omega)
  have B := nv (mode := mode) (p := eJ n.Span.Mid) (av found n 2) (n.Span.Left, []) c.2.2.2 T3 (by simp)
  have C := oV (mode := mode) (p := eJ n.Span.Mid) (av found n 2) (n.Span.Left, []) S3.tidy
  rw [if_neg (by omega), if_neg (by omega), if_neg (by omega), if_neg (by omega), if_pos hk]
  refine ⟨⟨⟨S1.tidy, S2.tidy, C.merge a.tidy, S4.tidy.merge b.tidy, S5.tidy⟩, T1, T2, lJ B.1 (fun o ho => by rw [a.2.2.2 o ho]; omega), lJ T4 (fun o ho => by rw [b.2.2.2 o ho]; omega)⟩, ⟨gr.1, gr.2.1, ?_, ?_, gr.2.2.2.2⟩, du (by omega)⟩
  ·rw [k0]; exact Nat.le_trans (cf _ _) (Nat.add_le_add_right (qK _ _) _)
  ·rw [if_pos hk, k1]; exact cf _ _
 ·have a := KF 0 (by omega)
  have c := KF 2 (by omega)
  have k0 : kl e found n 0 = (av found n 0).length := if_pos (by omega)
  have k2 : kl e found n 2 = (av found n 2).length := if_pos (by omega)
  rw [if_neg (by omega), if_neg (by omega), if_neg (by omega), if_neg (by omega), if_neg (by omega), if_pos hk]
  refine ⟨⟨⟨S1.tidy, S2.tidy, S3.tidy.merge a.tidy, S4.tidy.merge c.tidy, S5.tidy⟩, T1, T2, lJ T3 (fun o ho => by rw [a.2.2.2 o ho]; omega), lJ T4 (fun o ho => by rw [c.2.2.2 o ho]; omega)⟩, ⟨gr.1, gr.2.1, ?_, ?_, gr.2.2.2.2⟩, du (by omega)⟩
  ·rw [k0]; exact cf _ _
  ·rw [if_neg (by omega), k2]; exact cf _ _
 ·have a := KF 0 (by omega)
  have k0 : kl e found n 0 = (av found n 0).length := if_pos (by omega)
  have hN := hR.2.2.1
  rw [if_neg (by omega), if_neg (by omega), if_neg (by omega), if_neg (by omega), if_neg (by omega), if_neg (by omega)]
  have D := zc (n := n.N) (av found n 0) _ n.Due.length ((S5.tidy.ok).filter (fun o => !(o.To == t))) a.2.1
  have E := zg (n := n.N) (t := t) (by omega) (av found n 0) (n.Due.filter fun o => !(o.To == t)) a.2.2.2 (fun o ho => by
   obtain ⟨h1, h2⟩ := List.mem_filter.1 ho
   have := hd o h1
   simp only [Bool.not_eq_true', beq_eq_false_iff_ne, ne_eq] at h2
   omega)
  refine ⟨⟨⟨S1.tidy, S2.tidy, S3.tidy, S4.tidy, D.tidy⟩, T1, T2, T3, T4⟩, ⟨gr.1, gr.2.1, gr.2.2.1, gr.2.2.2.1, ?_⟩, fun o ho => ⟨.inl (E o ho).1, (E o ho).2⟩⟩
  rw [k0]; exact D.2.2
def gK (ns : List GNode) (n : GNode) (j : Nat) : Int := ((ns[(n.Kids.getD j 0).toNat]?).map (·.Many)).getD 0
def Be (T : Int) (ns : List GNode) (n : GNode) : Prop := xF T n ∧ (0 ≤ n.Many ∧ n.Many ≤ 40) ∧ (n.Kind ≠ 7 → n.Due = []) ∧ (∀ o ∈ n.Due, T < o.To ∧ o.To ≤ T + 20) ∧
 ((n.Pair.Left.length : Int) ≤ gK ns n 0 ∧ (n.Pair.Right.length : Int) ≤ gK ns n 1 ∧ (n.Span.Left.length : Int) ≤ gK ns n 0 ∧ (n.Span.Mid.length : Int) ≤ (if n.Kind = 5 then gK ns n 1 else gK ns n 2) ∧ (n.Due.length : Int) ≤ gK ns n 0)
def eN (T : Int) (es : List GEx) (ns : List GNode) : Prop := Rep es ns ∧ (1 ≤ ns.length ∧ ns.length ≤ 12) ∧ ∀ n ∈ ns, Be T ns n
theorem iU {T : Int} {es : List GEx} {ns : List GNode} (h : eN T es ns) (n : GNode) (j : Nat) : 0 ≤ gK ns n j ∧ gK ns n j ≤ 40 := by
 unfold gK
 cases hq : ns[(n.Kids.getD j 0).toNat]? with
 | none => simp
 | some m =>
  have := (h.2.2 m (List.mem_of_getElem? hq)).2.1
  simpa using this
theorem All.weak {Q R : GOcc → Prop} {l : List GOcc} (h : All Q l) (f : ∀ o, Q o → R o) : All R l := fun o ho => f o (h o ho)
theorem eN.ready {T t : Int} {es : List GEx} {ns : List GNode} (h : eN T es ns) (ht : T ≤ t) : mm t es ns := by
 refine ⟨h.1, h.2.1.2, fun n hn => ?_⟩
 obtain ⟨⟨⟨g1, g2, g3, g4, g5⟩, t1, t2, t3, t4⟩, hm, _, _, l1, l2, l3, l4, l5⟩ := h.2.2 n hn
 have q0 := iU h n 0
 have q1 := iU h n 1
 have q2 := iU h n 2
 refine ⟨g1.ok.mono (by omega), g2.ok.mono (by omega), g3.ok.mono (by omega), g4.ok.mono (by split at l4 <;> omega), g5.ok.mono (by omega), hm.1, hm.2, ?_⟩
 exact ⟨t1.weak fun o ho => Int.le_trans ho ht, t2.weak fun o ho => Int.le_trans ho ht, t3.weak fun o ho => Int.le_trans ho ht, t4.weak fun o ho => Int.le_trans ho ht⟩
theorem vE {ns : List GNode} (h : dE ns = false) : ∀ n ∈ ns, n.Many ≤ 40 := fun n hn => by
 unfold dE at h
 rw [List.any_eq_false] at h
 have := h n hn
 simpa using this
theorem xA {mode seen t : Int} {ev : Option Int} {es : List GEx} {ns : List GNode} (hR : Rep es ns) {i : Nat} {n r : GNode} {e : GEx} (hn : ns[i]? = some n) (hr : kG es i n e) (hk : r.Kids = n.Kids) (j : Nat) :
  gK ns n j + (kl e (aB mode seen t ev ns).2 n j : Nat) ≤ gK (aB mode seen t ev ns).1 r j := by
 have hlt : i < ns.length := (List.getElem?_eq_some_iff.1 hn).1
 unfold gK
 rw [hk]
 cases hq : ns[(n.Kids.getD j 0).toNat]? with
 | some m =>
  obtain ⟨p1, p2⟩ := kC (mode := mode) (seen := seen) (t := t) (ev := ev) hR hq
  rw [p1]
  simp only [Option.map_some, Option.getD_some]
  have km := (il (mode := mode) (seen := seen) (t := t) (ev := ev) (found := (aB mode seen t ev ns).2) (n := m)).2.2.2.2
  show m.Many + _ ≤ (aF mode seen t ev _ m).1.Many + _
  rw [km]
  unfold kl
  split
  ·rename_i hj
   have : av (aB mode seen t ev ns).2 n j = (aF mode seen t ev (aB mode seen t ev ns).2 m).2 := by
    unfold av
    rw [List.getD_eq_getElem?_getD, p2]; rfl
   rw [this]; exact Int.le_refl _
  ·omega
 | none =>
  have pl := fP mode seen t ev ns
  have hge : ns.length ≤ (n.Kids.getD j 0).toNat := List.getElem?_eq_none_iff.1 hq
  rw [List.getElem?_eq_none (by omega)]
  simp only [Option.map_none, Option.getD_none]
  unfold kl
  split
  ·rename_i hj
   obtain ⟨q, h1, h2, _⟩ := hr.2.2.2.2 j hj
   have : n.Kids.getD j 0 = (q : Int) := by rw [List.getD_eq_getElem?_getD, h2]; rfl
   rw [this] at hge
   omega
  ·omega
/-- one more point in time, nothing due before it -/
theorem me {T t : Int} {mode seen : Int} {ev : Option Int} {es : List GEx} {ns : List GNode} (h : eN T es ns) (ht : T ≤ t) (hd : ∀ n ∈ ns, ∀ o ∈ n.Due, t ≤ o.To) (hs : 0 ≤ seen ∧ seen ≤ 23) (hfull : dE (aB mode seen t ev ns).1 = false) :
  eN t es (aB mode seen t ev ns).1 := by
 have hR := h.ready ht
 have pl := fP mode seen t ev ns
 have pf := qi (mode := mode) (ev := ev) hR hs
 refine ⟨⟨by rw [pl.1]; exact h.1.1, fun i r hr => ?_⟩, by rw [pl.1]; exact h.2.1, fun r hr => ?_⟩
 ·have hi : i < ns.length := by have := (List.getElem?_eq_some_iff.1 hr).1; omega
  obtain ⟨e, he, hx, hn⟩ := h.1.2 i ns[i] (List.getElem?_eq_getElem hi)
  rw [(kC h.1 (List.getElem?_eq_getElem hi)).1] at hr
  cases hr
  obtain ⟨k1, k2, k3, k4, _⟩ := il (mode := mode) (seen := seen) (t := t) (ev := ev) (found := (aB mode seen t ev ns).2) (n := ns[i])
  refine ⟨e, he, hx, k1.trans hn.1, k2.trans hn.2.1, k3.trans hn.2.2.1, ?_, ?_⟩
  ·show ((aF mode seen t ev (aB mode seen t ev ns).2 ns[i]).1).Kids.length = _; rw [k4]; exact hn.2.2.2.1
  ·show ∀ j, j < e.Kids.length → ∃ q : Nat, q < i ∧ ((aF mode seen t ev (aB mode seen t ev ns).2 ns[i]).1).Kids[j]? = some (q : Int) ∧ es[q]? = e.Kids[j]?; rw [k4]; exact hn.2.2.2.2
 ·obtain ⟨i, hi, hri⟩ := List.mem_iff_getElem.1 hr
  have hi' : i < ns.length := by omega
  obtain ⟨e, he, hx, hn⟩ := h.1.2 i ns[i] (List.getElem?_eq_getElem hi')
  have hm : ns[i] ∈ ns := List.getElem_mem hi'
  have pg := (kC (mode := mode) (seen := seen) (t := t) (ev := ev) h.1 (List.getElem?_eq_getElem hi')).1
  rw [List.getElem?_eq_getElem hi] at pg
  have pg := (Option.some.inj pg).symm.trans hri
  have hno := vE hfull r hr
  obtain ⟨hl, hmany, hdue, hdt, l1, l2, l3, l4, l5⟩ := h.2.2 _ hm
  obtain ⟨k1, k2, k3, k4, k5⟩ := il (mode := mode) (seen := seen) (t := t) (ev := ev) (found := (aB mode seen t ev ns).2) (n := ns[i])
  obtain ⟨a, b, c⟩ := yI (mode := mode) (seen := seen) (ev := ev) (found := (aB mode seen t ev ns).2) hx hn (hR.2.2 _ hm) (by omega) (fun j l hj => pf j l (by rcases Nat.lt_or_ge j i with h1 | h1; rwa [List.getElem?_take_of_lt h1] at hj; rw [List.getElem?_take_eq_none h1] at hj; cases hj))
   (fun o ho => ⟨hd _ hm o ho, by have := (hdt o ho).2; omega⟩)
  have K := fun j => xA (mode := mode) (seen := seen) (t := t) (ev := ev) (r := r) h.1 (List.getElem?_eq_getElem hi') hn (by rw [← pg]; exact k4) j
  have K0 := K 0
  have K1 := K 1
  have K2 := K 2
  have hk : r.Kind = ns[i].Kind := by rw [← pg]; exact k1
  have hdu : ns[i].Kind ≠ 7 → (aF mode seen t ev (aB mode seen t ev ns).2 ns[i]).1.Due = [] := fun h7 => by
   cases hc : (aF mode seen t ev (aB mode seen t ev ns).2 ns[i]).1.Due with
   | nil => rfl
   | cons o l =>
    exfalso
    have e0 : ns[i].Due = [] := hdue h7
    have g5 := b.2.2.2.2
    obtain ⟨a2, b2, c2, d2, e2⟩ := xR hx hn
    have hcc : (aF mode seen t ev (aB mode seen t ev ns).2 ns[i]).1.Due = ns[i].Due := by
     unfold aF
     repeat' split
     all_goals first | rfl | omega
    rw [hcc, e0] at hc; cases hc
  refine ⟨?_, ⟨?_, hno⟩, ?_, ?_, ?_⟩
  ·rw [← pg]; exact a
  ·rw [← pg]; show 0 ≤ (aF mode seen t ev _ ns[i]).1.Many + _; rw [k5]; omega
  ·intro h7; rw [hk] at h7; rw [← pg]; exact hdu h7
  ·rw [← pg]
   intro o ho
   have := c o ho
   refine ⟨this.1.elim id fun q => ?_, this.2⟩
   have hz : o ∈ (aF mode seen t ev (aB mode seen t ev ns).2 ns[i]).1.Due := ho
   rw [hdu q.2] at hz; simp at hz
  ·have e1 : r.Pair = (aF mode seen t ev (aB mode seen t ev ns).2 ns[i]).1.Pair := by rw [← pg]; rfl
   have e2 : r.Span = (aF mode seen t ev (aB mode seen t ev ns).2 ns[i]).1.Span := by rw [← pg]; rfl
   have e3 : r.Due = (aF mode seen t ev (aB mode seen t ev ns).2 ns[i]).1.Due := by rw [← pg]; rfl
   obtain ⟨b1, b2, b3, b4, b5⟩ := b
   rw [e1, e2, e3, hk]
   refine ⟨by omega, by omega, by omega, ?_, by omega⟩
   split at l4
   ·rename_i h5; rw [if_pos h5] at b4 ⊢; omega
   ·rename_i h5; rw [if_neg h5] at b4 ⊢; omega
def ga (t : Int) (l : List GOcc) : Int := l.foldl (fun t o => if o.To < t then o.To else t) t
/-- the first time before another one at which something is due, or that one -/
def cc (ns : List GNode) (before : Int) : Int := ns.foldl (fun t n => ga t n.Due) before
theorem vL : ∀ (l : List GOcc) (t : Int), ga t l ≤ t ∧ ∀ o ∈ l, ga t l ≤ o.To
 | [], t => ⟨Int.le_refl _, fun o h => by simp at h⟩
 | x :: l, t => by
  have ih := vL l (if x.To < t then x.To else t)
  show ga (if x.To < t then x.To else t) l ≤ t ∧ ∀ o ∈ x :: l, ga (if x.To < t then x.To else t) l ≤ o.To
  refine ⟨Int.le_trans ih.1 (by split <;> omega), fun o ho => ?_⟩
  rcases List.mem_cons.1 ho with rfl | ho
  ·exact Int.le_trans ih.1 (by split <;> omega)
  ·exact ih.2 o ho
theorem vR : ∀ (l : List GOcc) (t : Int), ga t l = t ∨ ∃ o ∈ l, ga t l = o.To
 | [], t => .inl rfl
 | x :: l, t => by
  show ga (if x.To < t then x.To else t) l = t ∨ ∃ o ∈ x :: l, ga (if x.To < t then x.To else t) l = o.To
  rcases vR l (if x.To < t then x.To else t) with h | ⟨o, h1, h2⟩
  ·split at h
   ·rename_i hx; rw [if_pos hx]; exact .inr ⟨x, by simp, h⟩
   ·rename_i hx; rw [if_neg hx]; exact .inl h
  ·exact .inr ⟨o, by simp [h1], h2⟩
theorem nN : ∀ (ns : List GNode) (b : Int), cc ns b ≤ b ∧ ∀ n ∈ ns, ∀ o ∈ n.Due, cc ns b ≤ o.To
 | [], b => ⟨Int.le_refl _, fun n h => by simp at h⟩
 | x :: ns, b => by
  have ih := nN ns (ga b x.Due)
  have m := vL x.Due b
  refine ⟨Int.le_trans ih.1 m.1, fun n hn o ho => ?_⟩
  rcases List.mem_cons.1 hn with rfl | hn
  ·exact Int.le_trans ih.1 (m.2 o ho)
  ·exact ih.2 n hn o ho
theorem nI : ∀ (ns : List GNode) (b : Int), cc ns b = b ∨ ∃ n ∈ ns, ∃ o ∈ n.Due, cc ns b = o.To
 | [], b => .inl rfl
 | x :: ns, b => by
  show cc ns (ga b x.Due) = b ∨ ∃ n ∈ x :: ns, ∃ o ∈ n.Due, cc ns (ga b x.Due) = o.To
  rcases nI ns (ga b x.Due) with h | ⟨n, h1, o, h2, h3⟩
  ·rcases vR x.Due b with q | ⟨o, q1, q2⟩
   ·exact .inl (h.trans q)
   ·exact .inr ⟨x, by simp, o, q1, h.trans q2⟩
  ·exact .inr ⟨n, by simp [h1], o, h2, h3⟩
def fa (found : List (List GOcc)) : List GOcc := found.getLast?.getD []
def cC (mode seen before : Int) : Nat → List GNode → List GOcc → List GNode × Bool × List GOcc
 | 0, ns, out => (ns, false, out)
 | f + 1, ns, out => if cc ns before < before then
   (if dE (aB mode seen (cc ns before) none ns).1 = true then ((aB mode seen (cc ns before) none ns).1, true, out ++ fa (aB mode seen (cc ns before) none ns).2)
    else cC mode seen before f (aB mode seen (cc ns before) none ns).1 (out ++ fa (aB mode seen (cc ns before) none ns).2))
  else (ns, false, out)
/-- an event: nothing, if there is too much -/
def ge (mode seen : Int) (ns : List GNode) (e : GEv) : Option (List GNode × List GOcc) :=
 if (cC mode seen e.At 1001 ns []).2.1 = true then none
 else if dE (aB mode seen e.At (some e.Sym) (cC mode seen e.At 1001 ns []).1).1 = true then none
 else some ((aB mode seen e.At (some e.Sym) (cC mode seen e.At 1001 ns []).1).1, (cC mode seen e.At 1001 ns []).2.2 ++ fa (aB mode seen e.At (some e.Sym) (cC mode seen e.At 1001 ns []).1).2)
theorem wu {found : List (List GOcc)} (h : 1 ≤ found.length) : found[found.length - 1]? = some (fa found) := by
 unfold fa
 rw [List.getLast?_eq_getElem?, List.getElem?_eq_getElem (by omega)]; rfl
theorem lg {t : Int} {mode seen : Int} {ev : Option Int} {es : List GEx} {ns : List GNode} (hR : mm t es ns) (h1 : 1 ≤ ns.length) (hs : 0 ≤ seen ∧ seen ≤ 23) : ∃ e, fT e ∧ FO t (exN e) (fa (aB mode seen t ev ns).2) := by
 have pl := fP mode seen t ev ns
 have hl := wu (found := (aB mode seen t ev ns).2) (by omega)
 obtain ⟨e, he, hf⟩ := qi (mode := mode) (ev := ev) hR hs _ _ hl
 have hi : (aB mode seen t ev ns).2.length - 1 < ns.length := by omega
 obtain ⟨e', he', hx, _⟩ := hR.1.2 _ _ (List.getElem?_eq_getElem hi)
 rw [he] at he'; cases he'
 exact ⟨e, hx, hf⟩
theorem ra {t : Int} {mode seen : Int} {ev : Option Int} {es : List GEx} {ns : List GNode} (hR : mm t es ns) (h1 : 1 ≤ ns.length) (hs : 0 ≤ seen ∧ seen ≤ 23) (hf : dE (aB mode seen t ev ns).1 = false) : (fa (aB mode seen t ev ns).2).length ≤ 40 := by
 have pl := fP mode seen t ev ns
 have hl := wu (found := (aB mode seen t ev ns).2) (by omega)
 have hi : ns.length - 1 < ns.length := by omega
 obtain ⟨p1, p2⟩ := kC (mode := mode) (seen := seen) (t := t) (ev := ev) hR.1 (List.getElem?_eq_getElem hi)
 rw [pl.2, p2] at hl
 have hl := Option.some.inj hl
 have := vE hf _ (List.mem_of_getElem? p1)
 have h0 := (hR.2.2 _ (List.getElem_mem hi)).2.2.2.2.2.1
 have k5 := (il (mode := mode) (seen := seen) (t := t) (ev := ev) (found := (aB mode seen t ev ns).2) (n := ns[ns.length - 1])).2.2.2.2
 rw [← hl]
 have this : (aF mode seen t ev (aB mode seen t ev ns).2 ns[ns.length - 1]).1.Many + ((aF mode seen t ev (aB mode seen t ev ns).2 ns[ns.length - 1]).2.length : Int) ≤ 40 := this
 rw [k5] at this
 omega
/-- all that is due before an event -/
theorem oi {mode seen before : Int} {es : List GEx} (hs : 0 ≤ seen ∧ seen ≤ 23) : ∀ (f : Nat) (ns : List GNode) (out : List GOcc) (T : Int), eN T es ns → T < before → (before - T).toNat ≤ f → Ids out → out.length + 40 * f ≤ 1000000 →
  (cC mode seen before f ns out).2.1 = false → ∃ T', T ≤ T' ∧ T' < before ∧ eN T' es (cC mode seen before f ns out).1 ∧ (∀ n ∈ (cC mode seen before f ns out).1, ∀ o ∈ n.Due, before ≤ o.To) ∧ Ids (cC mode seen before f ns out).2.2 ∧ (cC mode seen before f ns out).2.2.length ≤ 1000000
 | 0, ns, out, T, h, hT, hf, _, _, _ => by omega
 | f + 1, ns, out, T, h, hT, hf, ho, hol, hno => by
  have nl := nN ns before
  unfold cC at hno ⊢
  by_cases hlt : cc ns before < before
  ·rw [if_pos hlt] at hno ⊢
   by_cases hfu : dE (aB mode seen (cc ns before) none ns).1 = true
   ·rw [if_pos hfu] at hno; cases hno
   ·rw [if_neg hfu] at hno ⊢
    have hT' : T < cc ns before := by
     rcases nI ns before with q | ⟨n, q1, o, q2, q3⟩
     ·omega
     ·rw [q3]; exact ((h.2.2 n q1).2.2.2.1 o q2).1
    have hfu' : dE (aB mode seen (cc ns before) none ns).1 = false := by simpa using hfu
    have hR := h.ready (t := cc ns before) (by omega)
    have pi := me (mode := mode) (ev := none) h (Int.le_of_lt hT') nl.2 hs hfu'
    obtain ⟨e, _, lf⟩ := lg (mode := mode) (ev := none) hR h.2.1.1 hs
    have ll := ra (mode := mode) (ev := none) hR h.2.1.1 hs hfu'
    obtain ⟨T', a, b, c⟩ := oi hs f _ (out ++ fa (aB mode seen (cc ns before) none ns).2) (cc ns before) pi hlt (by omega)
     (fun o hh => by rcases List.mem_append.1 hh with q | q; exact ho o q; exact lf.2.1 o q) (by rw [List.length_append]; omega) hno
    exact ⟨T', by omega, b, c⟩
  ·rw [if_neg hlt] at hno ⊢
   exact ⟨T, Int.le_refl _, hT, h, fun n hn o hh => by have := nl.2 n hn o hh; omega, ho, show out.length ≤ 1000000 by omega⟩
theorem v7 {mode seen : Int} {es : List GEx} {ns ns' : List GNode} {e : GEv} {out : List GOcc} {T : Int} (h : eN T es ns) (hT : 0 ≤ T ∧ T < e.At ∧ e.At ≤ 1000) (hs : 0 ≤ seen ∧ seen ≤ 23) (hst : ge mode seen ns e = some (ns', out)) :
  eN e.At es ns' ∧ Ids out ∧ out.length ≤ 1000040 := by
 unfold ge at hst
 split at hst
 ·cases hst
 split at hst
 ·cases hst
 rename_i h1 h2
 cases hst
 obtain ⟨T', a, b, c, d, f, g⟩ := oi (mode := mode) (before := e.At) hs 1001 ns [] T h hT.2.1 (by omega) (fun o hh => by simp at hh) (by simp) (by simpa using h1)
 have h2' : dE (aB mode seen e.At (some e.Sym) (cC mode seen e.At 1001 ns []).1).1 = false := by simpa using h2
 have hR := c.ready (t := e.At) (by omega)
 obtain ⟨x, _, lf⟩ := lg (mode := mode) (ev := some e.Sym) hR c.2.1.1 hs
 have ll := ra (mode := mode) (ev := some e.Sym) hR c.2.1.1 hs h2'
 refine ⟨me c (by omega) d hs h2', fun o hh => ?_, by rw [List.length_append]; omega⟩
 rcases List.mem_append.1 hh with q | q
 ·exact f o q
 ·exact lf.2.1 o q
theorem ss {mode seen t : Int} {ev : Option Int} {es : List GEx} {nodes : List GNode} (hR : mm t es nodes) (hs : 0 ≤ seen ∧ seen ≤ 23) (full0 : Bool) (L : Nat → List GNode → Bool → List (List GOcc) → Int → Option (List (List GOcc) × List GNode × Bool))
  (hend : ∀ N ns full found, L (N + 1) ns full found (nodes.length : Int) = some (found, ns, full))
  (hstep : ∀ (N i : Nat) (ns : List GNode) (full : Bool) (found : List (List GOcc)) (n : GNode) (e : GEx), i < nodes.length → ns.length = nodes.length → ns[i]? = some n → fT e → kG es i n e → lj t n → found.length = i → jc t es found →
   L (N + 1) ns full found (i : Int) = L N (ns.set i (eV (aF mode seen t ev found n))) (full || decide (40 < (eV (aF mode seen t ev found n)).Many)) (found ++ [(aF mode seen t ev found n).2]) ((i + 1 : Nat) : Int)) :
  ∀ (d N i : Nat), i + d = nodes.length → d < N → L N ((ez mode seen t ev nodes i).1 ++ nodes.drop i) (full0 || dE (ez mode seen t ev nodes i).1) (ez mode seen t ev nodes i).2 (i : Int) = some ((aB mode seen t ev nodes).2, (aB mode seen t ev nodes).1, full0 || dE (aB mode seen t ev nodes).1) := by
 intro d
 induction d with
 | zero =>
  intro N i hi hN
  obtain ⟨N, rfl⟩ : ∃ m, N = m + 1 := ⟨N - 1, by omega⟩
  have : i = nodes.length := by omega
  subst this
  rw [hend, nY, List.drop_length, List.append_nil]
 | succ d ih =>
  intro N i hi hN
  obtain ⟨N, rfl⟩ : ∃ m, N = m + 1 := ⟨N - 1, by omega⟩
  have hlt : i < nodes.length := by omega
  have hl := iX (mode := mode) (seen := seen) (t := t) (ev := ev) (ns := nodes) (i := i) (by omega)
  obtain ⟨e, he, hx, hr⟩ := hR.1.2 i nodes[i] (List.getElem?_eq_getElem hlt)
  have hn : ((ez mode seen t ev nodes i).1 ++ nodes.drop i)[i]? = some nodes[i] := by
   rw [List.getElem?_append_right (by omega), hl.1, Nat.sub_self, List.drop_eq_getElem_cons hlt]; rfl
  rw [hstep N i _ _ _ nodes[i] e hlt (by rw [List.length_append, List.length_drop, hl.1]; omega) hn hx hr (hR.2.2 _ (List.getElem_mem _)) hl.2 (nG hR hs (by omega))]
  have := ih N (i + 1) (by omega) (by omega)
  rw [kD hlt] at this
  simp only [mj] at this
  rw [← this, List.drop_eq_getElem_cons hlt, List.set_append_right _ _ (by omega), hl.1, Nat.sub_self, List.set_cons_zero, List.append_assoc, List.singleton_append]
  congr 1
  unfold dE
  rw [List.any_append, Bool.or_assoc]
  simp
theorem wl {found : List (List GOcc)} {m : Nat} (h : found.length = m) (h1 : 1 ≤ m) (h2 : m ≤ 1000) :
  (req ((0 : Int) ≤ (IntKind.wrap .i64 (((found.length : Nat) : Int) - 1))) (req ((IntKind.wrap .i64 (((found.length : Nat) : Int) - 1)) < (found.length : Nat)) (found[(IntKind.wrap .i64 (((found.length : Nat) : Int) - 1)).toNat]?))) = some (fa found) := by
 rw [wr _ (by omega), ae (by omega), ae (by omega)]
 unfold fa
 rw [List.getLast?_eq_getElem?, show (((found.length : Nat) : Int) - 1).toNat = found.length - 1 by omega, List.getElem?_eq_getElem (by omega)]
 rfl
theorem vF {α β : Type} {c : Prop} [Decidable c] {x : Option α} {f : α → Option β} : (req c x).bind f = req c (x.bind f) := by
 unfold req; split <;> rfl
theorem n2_eq (k : Nat) (hk : 1000000000000 ≤ k) (g : GGraph) (t : Int) (es : List GEx) (hR : mm t es g.Nodes) (h1 : 1 ≤ g.Nodes.length) (hs : 0 ≤ g.Seen ∧ g.Seen ≤ 23) (ht : 0 ≤ t ∧ t ≤ 100000) :
  aj.f k g t = some (fa (aB g.Mode g.Seen t none g.Nodes).2, ⟨g.Mode, (aB g.Mode g.Seen t none g.Nodes).1, g.Seen, g.Now, g.Full || dE (aB g.Mode g.Seen t none g.Nodes).1⟩) := by
 have h12 := hR.2.1
 have := ss (mode := g.Mode) (ev := none) hR hs g.Full (aj.l1 k g t) (fun N ns full found => by rw [aj.l1, if_neg (by omega)])
  (fun N i ns full found n e hi hl hn hx hr hS hf hF => Bp k hk g t N i ns full found n e es hi (by omega) hl hn hx hr hS hf hF hs ht) g.Nodes.length k 0 (by omega) (by omega)
 simp only [ez, List.take_zero, List.foldl_nil, List.drop_zero, List.nil_append, dE, List.any_nil, Bool.or_false] at this
 unfold aj.f
 rw [show ((0 : Nat) : Int) = 0 from rfl] at this
 rw [this]
 simp only [Option.bind_some]
 have hl := fP g.Mode g.Seen t none g.Nodes
 have q := congrArg (Option.bind · fun x => some (x, (⟨g.Mode, (aB g.Mode g.Seen t none g.Nodes).1, g.Seen, g.Now, g.Full || dE (aB g.Mode g.Seen t none g.Nodes).1⟩ : GGraph))) (wl hl.2 h1 (by omega))
 simp only [vF, Option.bind_some] at q
 exact q
theorem ev_eq (k : Nat) (hk : 1000000000000 ≤ k) (g : GGraph) (t : Int) (x : GEv) (es : List GEx) (hR : mm t es g.Nodes) (h1 : 1 ≤ g.Nodes.length) (hs : 0 ≤ g.Seen ∧ g.Seen ≤ 23) (ht : 0 ≤ t ∧ t ≤ 100000) :
  ak.f k g t x = some (fa (aB g.Mode g.Seen t (some x.Sym) g.Nodes).2, ⟨g.Mode, (aB g.Mode g.Seen t (some x.Sym) g.Nodes).1, g.Seen, g.Now, g.Full || dE (aB g.Mode g.Seen t (some x.Sym) g.Nodes).1⟩, x) := by
 have h12 := hR.2.1
 have := ss (mode := g.Mode) (ev := some x.Sym) hR hs g.Full (ak.l1 k g t x) (fun N ns full found => by rw [ak.l1, if_neg (by omega)])
  (fun N i ns full found n e hi hl hn hx hr hS hf hF => Bf k hk g t x N i ns full found n e es hi (by omega) hl hn hx hr hS hf hF hs ht) g.Nodes.length k 0 (by omega) (by omega)
 simp only [ez, List.take_zero, List.foldl_nil, List.drop_zero, List.nil_append, dE, List.any_nil, Bool.or_false] at this
 unfold ak.f
 rw [show ((0 : Nat) : Int) = 0 from rfl] at this
 rw [this]
 simp only [Option.bind_some]
 have hl := fP g.Mode g.Seen t (some x.Sym) g.Nodes
 have q := congrArg (Option.bind · fun y => some (y, (⟨g.Mode, (aB g.Mode g.Seen t (some x.Sym) g.Nodes).1, g.Seen, g.Now, g.Full || dE (aB g.Mode g.Seen t (some x.Sym) g.Nodes).1⟩ : GGraph), x)) (wl hl.2 h1 (by omega))
 simp only [vF, Option.bind_some] at q
 exact q
theorem Co (k : Nat) (hk : 1000000000000 ≤ k) (n : GNode) (t : Int) (hl : n.Due.length ≤ 1000) : aR.l3 k n k t 0 = some (ga t n.Due) := by
 have := eS n.Due (fun s o => some (if o.To < s then o.To else s)) (aR.l3 k n) (fun s o => if o.To < s then o.To else s) (fun _ _ => True)
  (fun N s => by rw [aR.l3, if_neg (by omega)])
  (fun N s i h => by
   rw [aR.l3, if_pos (by omega), ae (by omega), Int.toNat_natCast, List.getElem?_eq_getElem h]
   simp only [Option.bind_some]
   rw [wrS i (by omega)]
   split <;> rfl)
  (fun i s h _ => ⟨rfl, trivial⟩) k t (by omega) trivial
 exact this.1
theorem BK (k : Nat) (hk : 1000000000000 ≤ k) (g : GGraph) (b : Int) (hg : g.Nodes.length ≤ 1000) (hd : ∀ n ∈ g.Nodes, n.Due.length ≤ 1000) : aR.f k g b = some (cc g.Nodes b, decide (cc g.Nodes b < b), g) := by
 have := eS g.Nodes (fun s n => aR.l3 k n k s 0) (aR.l2 k g) (fun s n => ga s n.Due) (fun _ _ => True)
  (fun N s => by rw [aR.l2, if_neg (by omega)])
  (fun N s i h => by
   rw [aR.l2, if_pos (by omega), ae (by omega), ae (by omega), Int.toNat_natCast, List.getElem?_eq_getElem h]
   simp only [Option.bind_some]
   rw [wrS i (by omega)])
  (fun i s h _ => ⟨Co k hk _ s (hd _ (List.getElem_mem h)), trivial⟩) k b (by omega) trivial
 unfold aR.f
 rw [this.1]; rfl
theorem eN.due {T : Int} {es : List GEx} {ns : List GNode} (h : eN T es ns) : ∀ n ∈ ns, n.Due.length ≤ 1000 := fun n hn => by
 have := (h.2.2 n hn).2.2.2.2.2.2.2.2
 have := iU h n 0
 omega
theorem xe (k : Nat) (hk : 1000000000000 ≤ k) (e : GEv) (mode seen now : Int) (es : List GEx) (hs : 0 ≤ seen ∧ seen ≤ 23) (he : e.At ≤ 1000) : ∀ (f N : Nat) (ns : List GNode) (out : List GOcc) (T : Int), eN T es ns → 0 ≤ T → T < e.At → (e.At - T).toNat ≤ f → f + 1 < N → out.length + 40 * f ≤ 1000000 →
  bz.l0 k e N mode ns seen now false out = some (mode, (cC mode seen e.At f ns out).1, seen, now, (cC mode seen e.At f ns out).2.1, (cC mode seen e.At f ns out).2.2)
 | 0, _, _, _, _, _, _, _, _, _, _ => by omega
 | f + 1, N, ns, out, T, h, hT0, hT, hf, hN, hol => by
  obtain ⟨N, rfl⟩ : ∃ m, N = m + 1 := ⟨N - 1, by omega⟩
  have nl := nN ns e.At
  rw [bz.l0, if_neg (by decide), BK k hk ⟨mode, ns, seen, now, false⟩ e.At (show ns.length ≤ 1000 by have := h.2.1.2; omega) h.due]
  simp only [Option.bind_some]
  unfold cC
  by_cases hlt : cc ns e.At < e.At
  ·rw [if_pos hlt, if_pos (by simpa using hlt)]
   have hT' : T < cc ns e.At := by
    rcases nI ns e.At with q | ⟨n, q1, o, q2, q3⟩
    ·omega
    ·rw [q3]; exact ((h.2.2 n q1).2.2.2.1 o q2).1
   have hR := h.ready (t := cc ns e.At) (by omega)
   rw [n2_eq k hk ⟨mode, ns, seen, now, false⟩ (cc ns e.At) es hR h.2.1.1 hs (by omega)]
   simp only [Option.bind_some, Bool.false_or]
   obtain ⟨x, hx, lf⟩ := lg (mode := mode) (ev := none) hR h.2.1.1 hs
   have ls := lf.small hx.2
   rw [ae (by omega)]
   by_cases hfu : dE (aB mode seen (cc ns e.At) none ns).1 = true
   ·rw [if_pos hfu, hfu]
    obtain ⟨N, rfl⟩ : ∃ m, N = m + 1 := ⟨N - 1, by omega⟩
    rw [bz.l0, if_pos rfl]
   ·have hfu' : dE (aB mode seen (cc ns e.At) none ns).1 = false := by simpa using hfu
    rw [if_neg hfu, hfu']
    have ll := ra (mode := mode) (ev := none) hR h.2.1.1 hs hfu'
    exact xe k hk e mode seen now es hs he f N _ _ (cc ns e.At) (me h (Int.le_of_lt hT') nl.2 hs hfu') (by omega) hlt (by omega) (by omega) (by rw [List.length_append]; omega)
  ·rw [if_neg hlt, if_neg (by simpa using hlt)]
theorem xj (k : Nat) (hk : 1000000000000 ≤ k) (e : GEv) (g : GGraph) (es : List GEx) (T : Int) (h : eN T es g.Nodes) (hT : 0 ≤ T ∧ T < e.At ∧ e.At ≤ 1000) (hs : 0 ≤ g.Seen ∧ g.Seen ≤ 23) (hf : g.Full = false) :
  bz.f k g e = some (match ge g.Mode g.Seen g.Nodes e with | none => ([], ⟨g.Mode, [], g.Seen + 1, e.At, true⟩) | some r => (r.2, ⟨g.Mode, r.1, g.Seen + 1, e.At, false⟩)) := by
 unfold bz.f
 rw [hf, xe k hk e g.Mode g.Seen g.Now es hs hT.2.2 1001 k g.Nodes [] T h hT.1 hT.2.1 (by omega) (by omega) (by simp)]
 simp only [Option.bind_some]
 unfold ge
 rw [wr (g.Seen + 1) (by omega)]
 by_cases h1 : (cC g.Mode g.Seen e.At 1001 g.Nodes []).2.1 = true
 ·rw [if_pos h1, if_pos h1]
 ·rw [if_neg h1, if_neg h1]
  obtain ⟨T', a, b, c, d, f, gg⟩ := oi (mode := g.Mode) (before := e.At) hs 1001 g.Nodes [] T h hT.2.1 (by omega) (fun o hh => by simp at hh) (by simp) (by simpa using h1)
  have hR := c.ready (t := e.At) (by omega)
  rw [ev_eq k hk ⟨g.Mode, (cC g.Mode g.Seen e.At 1001 g.Nodes []).1, g.Seen, g.Now, false⟩ e.At e es hR c.2.1.1 hs (by omega)]
  simp only [Option.bind_some, Bool.false_or]
  obtain ⟨x, hx, lf⟩ := lg (mode := g.Mode) (ev := some e.Sym) hR c.2.1.1 hs
  have ls := lf.small hx.2
  rw [ae (by omega)]
  by_cases h2 : dE (aB g.Mode g.Seen e.At (some e.Sym) (cC g.Mode g.Seen e.At 1001 g.Nodes []).1).1 = true
  ·rw [if_pos h2, if_pos h2, wr (g.Seen + 1) (by omega)]
  ·rw [if_neg h2, if_neg h2, wr (g.Seen + 1) (by omega)]
def Fresh (n : GNode) : Prop := n.Pair = ⟨[], []⟩ ∧ n.Span = ⟨[], []⟩ ∧ n.Due = [] ∧ n.Many = 0
theorem yD (m n : GNode) : mc m n = true ↔ m.Kind = n.Kind ∧ m.Sym = n.Sym ∧ m.N = n.N ∧ m.Kids = n.Kids := by
 unfold mc; simp
theorem B3 {a b : GEx} (h1 : a.Kind = b.Kind) (h2 : a.Sym = b.Sym) (h3 : a.N = b.N) (h4 : a.Kids = b.Kids) : a = b := by
 cases a; cases b; simp only at h1 h2 h3 h4; rw [h1, h2, h3, h4]
theorem xl {α : Type} {l m : List α} {i : Nat} {x : α} (h : l[i]? = some x) : (l ++ m)[i]? = some x := by
 rw [List.getElem?_append_left (List.getElem?_eq_some_iff.1 h).1]; exact h
theorem fT.kid {e x : GEx} (h : fT e) (hx : x ∈ e.Kids) : fT x := by
 refine ⟨(gR h.1).2 x hx, ?_⟩
 have := ec hx
 have := h.2
 rw [cA] at this
 omega
def Av (es : List GEx) (ns : List GNode) (k : Nat) (r : List GNode) (ok : List GEx → Prop) : Prop := ∃ es' nx, r = ns ++ nx ∧ Rep (es ++ es') (ns ++ nx) ∧ nx.length ≤ k ∧ (∀ n ∈ nx, Fresh n) ∧ ok (es ++ es')
theorem xd {xs : List GEx} (H : ∀ x ∈ xs, ∀ es ns, Rep es ns → Av es ns (exN x) (ei x ns).2 fun es => ∃ q : Nat, (ei x ns).1 = (q : Int) ∧ es[q]? = some x) :
  ∀ es ns, Rep es ns → Av es ns (bV xs) (dz xs ns).2 fun es => (dz xs ns).1.length = xs.length ∧ ∀ (j : Nat) (x : GEx), xs[j]? = some x → ∃ q : Nat, (dz xs ns).1[j]? = some (q : Int) ∧ es[q]? = some x := by
 induction xs with
 | nil =>
  intro es ns h
  rw [uG]
  exact ⟨[], [], by simp, by simpa using h, by simp, by simp, rfl, fun j x hj => by simp at hj⟩
 | cons x xs ih =>
  intro es ns h
  obtain ⟨e1, n1, a1, a2, a3, a4, q, a5, a6⟩ := H x (by simp) es ns h
  obtain ⟨e2, n2, b1, b2, b3, b4, b5, b6⟩ := ih (fun y hy => H y (by simp [hy])) _ _ a2
  rw [sw, cJ]
  simp only
  rw [a1]
  refine ⟨e1 ++ e2, n1 ++ n2, by rw [b1, List.append_assoc], by rw [← List.append_assoc, ← List.append_assoc]; exact b2, by rw [List.length_append]; omega, fun n hn => (List.mem_append.1 hn).elim (a4 n) (b4 n), by simp [b5], fun j y hj => ?_⟩
  rw [← List.append_assoc]
  cases j with
  | zero =>
   simp only [List.getElem?_cons_zero, Option.some.injEq] at hj
   subst hj
   exact ⟨q, by rw [List.getElem?_cons_zero, a5], xl a6⟩
  | succ j =>
   rw [List.getElem?_cons_succ] at hj ⊢
   exact b6 j y hj
theorem mV : ∀ x : GEx, fT x → ∀ es ns, Rep es ns → Av es ns (exN x) (ei x ns).2 fun es => ∃ q : Nat, (ei x ns).1 = (q : Int) ∧ es[q]? = some x := by
 refine lX fun x ih hx es ns h => ?_
 obtain ⟨e1, n1, a1, a2, a3, a4, a5, a6⟩ := xd (fun y hy => ih y hy (hx.kid hy)) es ns h
 rw [w9]
 unfold rA
 rw [a1]
 cases hfi : (ns ++ n1).findIdx? fun m => mc m (ng x.Kind x.Sym x.N (dz x.Kids ns).1) with
 | some i =>
  simp only
  rw [List.findIdx?_eq_some_iff_getElem] at hfi
  obtain ⟨hi, hk, _⟩ := hfi
  obtain ⟨k1, k2, k3, k4⟩ := (yD _ _).1 hk
  obtain ⟨e, he, _, hr⟩ := a2.2 i _ (List.getElem?_eq_getElem hi)
  have : e = x := by
   refine B3 (hr.1.symm.trans k1) (hr.2.1.symm.trans k2) (hr.2.2.1.symm.trans k3) (List.ext_getElem? fun j => ?_)
   have hlen : e.Kids.length = x.Kids.length := by rw [← hr.2.2.2.1, k4]; exact a5
   rcases Nat.lt_or_ge j e.Kids.length with hj | hj
   ·obtain ⟨q, _, q2, q3⟩ := hr.2.2.2.2 j hj
    obtain ⟨q', p1, p2⟩ := a6 j x.Kids[j] (List.getElem?_eq_getElem (by omega))
    rw [k4] at q2
    have hq : some (q' : Int) = some (q : Int) := p1.symm.trans q2
    have : q' = q := Int.ofNat.inj (Option.some.inj hq)
    subst this
    rw [← q3, p2, List.getElem?_eq_getElem (by omega)]
   ·rw [List.getElem?_eq_none hj, List.getElem?_eq_none (by omega)]
  subst this
  exact ⟨e1, n1, rfl, a2, by rw [cA]; omega, a4, i, rfl, he⟩
 | none =>
  simp only
  refine ⟨e1 ++ [x], n1 ++ [ng x.Kind x.Sym x.N (dz x.Kids ns).1], by rw [List.append_assoc], ?_, by rw [cA, List.length_append, List.length_singleton]; omega, fun n hn => ?_, (ns ++ n1).length, rfl, ?_⟩
  ·rw [← List.append_assoc, ← List.append_assoc]
   refine ⟨by have := a2.1; simp only [List.length_append, List.length_singleton] at this ⊢; omega, fun i n hn => ?_⟩
   rcases Nat.lt_or_ge i (ns ++ n1).length with hlt | hge
   ·rw [List.getElem?_append_left hlt] at hn
    obtain ⟨e, he, hf, hr⟩ := a2.2 i n hn
    refine ⟨e, xl he, hf, hr.1, hr.2.1, hr.2.2.1, hr.2.2.2.1, fun j hj => ?_⟩
    obtain ⟨q, q1, q2, q3⟩ := hr.2.2.2.2 j hj
    refine ⟨q, q1, q2, ?_⟩
    rw [List.getElem?_append_left (by rw [a2.1]; omega)]; exact q3
   ·rw [List.getElem?_append_right hge] at hn
    have : i = (ns ++ n1).length := by
     have := (List.getElem?_eq_some_iff.1 hn).1
     simp only [List.length_singleton] at this; omega
    subst this
    rw [Nat.sub_self, List.getElem?_cons_zero] at hn
    cases hn
    refine ⟨x, ?_, hx, rfl, rfl, rfl, a5, fun j hj => ?_⟩
    ·rw [← a2.1, List.getElem?_append_right (Nat.le_refl _), Nat.sub_self]; rfl
    ·obtain ⟨q, p1, p2⟩ := a6 j x.Kids[j] (List.getElem?_eq_getElem hj)
     have hq : q < (es ++ e1).length := (List.getElem?_eq_some_iff.1 p2).1
     refine ⟨q, by rw [← a2.1]; exact hq, p1, ?_⟩
     rw [List.getElem?_append_left hq, p2, List.getElem?_eq_getElem hj]
  ·rcases List.mem_append.1 hn with q | q
   ·exact a4 n q
   ·rw [List.mem_singleton.1 q]; exact ⟨rfl, rfl, rfl, rfl⟩
  ·rw [← List.append_assoc, ← a2.1, List.getElem?_append_right (Nat.le_refl _), Nat.sub_self]; rfl
/-- the parts of an expression, before anything has happened -/
theorem pR : Rep [] [] := ⟨rfl, fun i n h => by simp at h⟩
theorem ui {x : GEx} (hx : fT x) : ∃ es, eN 0 es (ei x []).2 ∧ ∃ q : Nat, es[q]? = some x ∧ (ei x []).1 = q := by
 obtain ⟨es, nx, a1, a2, a3, a4, q, a5, a6⟩ := mV x hx [] [] pR
 simp only [List.nil_append] at a1 a2 a6
 rw [a1]
 have hq := (List.getElem?_eq_some_iff.1 a6).1
 have := hx.2
 refine ⟨es, ⟨a2, ⟨by rw [← a2.1]; omega, by omega⟩, fun n hn => ?_⟩, q, a6, a5⟩
 obtain ⟨f1, f2, f3, f4⟩ := a4 n hn
 have g0 : gU [] := ⟨by simp [Asc], fun o h => by simp at h⟩
 have A0 : All (fun o => o.To ≤ (0 : Int)) [] := fun o h => by simp at h
 have mk : ∀ j, 0 ≤ gK nx n j := fun j => by
  unfold gK
  cases hq : nx[(n.Kids.getD j 0).toNat]? with
  | none => simp
  | some m => have := (a4 m (List.mem_of_getElem? hq)).2.2.2; simp [this]
 refine ⟨⟨by rw [f1, f2, f3]; exact ⟨g0, g0, g0, g0, g0⟩, by rw [f1, f2]; exact ⟨A0, A0, A0, A0⟩⟩, by rw [f4]; omega, fun _ => f3, by rw [f3]; simp, ?_⟩
 rw [f1, f2, f3]
 exact ⟨by simpa using mk 0, by simpa using mk 1, by simpa using mk 0, by split; exact (by simpa using mk 1); exact (by simpa using mk 2), by simpa using mk 0⟩
theorem yz (k : Nat) (a b : List Int) (hab : a.length = b.length) (ha : a.length ≤ 1000) : ∀ (d n i : Nat), i + d = a.length → d < n → cw.l0 k a b n (i : Int) = some (if a.drop i == b.drop i then .ok () else .error false) := by
 intro d
 induction d with
 | zero =>
  intro n i hi hn
  obtain ⟨n, rfl⟩ : ∃ m, n = m + 1 := ⟨n - 1, by omega⟩
  rw [cw.l0, if_neg (by omega), List.drop_eq_nil_of_le (by omega), List.drop_eq_nil_of_le (by omega)]; rfl
 | succ d ih =>
  intro n i hi hn
  obtain ⟨n, rfl⟩ : ∃ m, n = m + 1 := ⟨n - 1, by omega⟩
  have hlt : i < a.length := by omega
  rw [cw.l0, if_pos (by omega), ae (by omega), Int.toNat_natCast, List.getElem?_eq_getElem hlt]
  simp only [Option.bind_some]
  rw [ae (by omega), List.getElem?_eq_getElem (by omega)]
  simp only [Option.bind_some]
  rw [wrS i (by omega), ih n (i + 1) (by omega) (by omega), List.drop_eq_getElem_cons hlt, List.drop_eq_getElem_cons (show i < b.length by omega), List.cons_beq_cons]
  by_cases h : a[i] = b[i]
  ·rw [if_pos h, h, beq_self_eq_true, Bool.true_and]
  ·rw [if_neg h, beq_false_of_ne h, Bool.false_and]; rfl
theorem A9 (k : Nat) (hk : 1000000000000 ≤ k) (a b : List Int) (ha : a.length ≤ 1000) : cw.f k a b = some (a == b) := by
 unfold cw.f
 by_cases h : a.length = b.length
 ·rw [if_pos (by omega)]
  have := yz k a b h ha a.length k 0 (by omega) (by omega)
  rw [show ((0 : Nat) : Int) = 0 from rfl, List.drop_zero, List.drop_zero] at this
  rw [this]
  cases hab : a == b <;> rfl
 ·rw [if_neg (by omega)]
  have : (a == b) = false := by rw [beq_eq_false_iff_ne]; intro e; exact h (by rw [e])
  rw [this]
theorem Ct (k : Nat) (hk : 1000000000000 ≤ k) (m n : GNode) (hm : m.Kids.length ≤ 1000) : di.f k m n = some (mc m n) := by
 unfold di.f mc
 rw [A9 k hk _ _ hm]
 simp only [Option.bind_some]
 by_cases h1 : m.Kind = n.Kind
 ·rw [if_pos h1, h1, beq_self_eq_true, Bool.true_and]
  by_cases h2 : m.Sym = n.Sym
  ·rw [if_pos h2, h2, beq_self_eq_true, Bool.true_and]
   by_cases h3 : m.N = n.N
   ·rw [if_pos h3, h3, beq_self_eq_true, Bool.true_and]
   ·rw [if_neg h3, beq_false_of_ne h3, Bool.false_and]
  ·rw [if_neg h2, beq_false_of_ne h2, Bool.false_and]
 ·rw [if_neg h1, beq_false_of_ne h1, Bool.false_and]
theorem wW (k : Nat) (g1 : GNode → Option Bool) (p : GNode → Bool) (l : List GNode) (hl : l.length ≤ 1000) (hp : ∀ x ∈ l, g1 x = some (p x)) : ∀ (d i n : Nat), i + d = l.length → d < n →
  az.l0 k g1 l n (i : Int) = some (match (l.drop i).findIdx? p with | some j => .error (((i + j : Nat)) : Int) | none => .ok ()) := by
 intro d
 induction d with
 | zero =>
  intro i n hi hn
  obtain ⟨n, rfl⟩ : ∃ m, n = m + 1 := ⟨n - 1, by omega⟩
  rw [az.l0, if_neg (by omega), List.drop_eq_nil_of_le (by omega)]; rfl
 | succ d ih =>
  intro i n hi hn
  obtain ⟨n, rfl⟩ : ∃ m, n = m + 1 := ⟨n - 1, by omega⟩
  have hlt : i < l.length := by omega
  rw [az.l0, if_pos (by omega), ae (by omega), Int.toNat_natCast, List.getElem?_eq_getElem hlt]
  simp only [Option.bind_some]
  rw [hp _ (List.getElem_mem hlt)]
  simp only [Option.bind_some]
  rw [wrS i (by omega), ih (i + 1) n (by omega) (by omega), List.drop_eq_getElem_cons hlt, List.findIdx?_cons]
  by_cases h : p l[i] = true
  ·rw [if_pos h, if_pos h]; rfl
  ·rw [if_neg h, if_neg h]
   cases (l.drop (i + 1)).findIdx? p with
   | none => rfl
   | some j => simp only [Option.map_some]; congr 3; omega
theorem zo (k : Nat) (hk : 1000000000000 ≤ k) (g1 : GNode → Option Bool) (p : GNode → Bool) (l : List GNode) (hl : l.length ≤ 1000) (hp : ∀ x ∈ l, g1 x = some (p x)) :
  az.f g1 k l = some (match l.findIdx? p with | some j => (j : Int) | none => -1) := by
 unfold az.f
 have := wW k g1 p l hl hp l.length 0 k (by omega) (by omega)
 rw [show ((0 : Nat) : Int) = 0 from rfl, List.drop_zero] at this
 rw [this]
 cases l.findIdx? p with
 | none => rfl
 | some j => simp
def Kids3 (ns : List GNode) : Prop := ∀ n ∈ ns, n.Kids.length ≤ 3
theorem Rep.kids3 {es : List GEx} {ns : List GNode} (h : Rep es ns) : Kids3 ns := fun n hn => by
 obtain ⟨i, hi, rfl⟩ := List.mem_iff_getElem.1 hn
 obtain ⟨e, _, hx, hr⟩ := h.2 i _ (List.getElem?_eq_getElem hi)
 rw [hr.2.2.2.1]
 rcases ir (gR hx.1).1 with ⟨_, hl⟩ | ⟨_, hl⟩ | ⟨_, hl⟩ | ⟨_, hl⟩ | ⟨_, hl⟩ | ⟨_, hl⟩ | ⟨_, hl⟩ <;> omega
/-- the program adds parts -/
theorem wS : ∀ x : GEx, fT x → ∀ (k : Nat), 1000000000000 + exN x ≤ k → ∀ (es : List GEx) (ns : List GNode) (m s n : Int) (f : Bool), Rep es ns → ns.length + exN x ≤ 100 →
  bn.f k ⟨m, ns, s, n, f⟩ x = some ((ei x ns).1, ⟨m, (ei x ns).2, s, n, f⟩) := by
 refine lX fun x ih hx k hk es ns m s n f h hl => ?_
 obtain ⟨k, rfl⟩ : ∃ q, k = q + 1 := ⟨k - 1, by omega⟩
 have hkl := fh x.Kids
 rw [cA] at hk hl
 have loop : ∀ (xs : List GEx) (i : Nat), xs = x.Kids.drop i → i ≤ x.Kids.length → ∀ (N : Nat) (es : List GEx) (ns : List GNode) (acc : List Int), xs.length < N → acc.length = i → Rep es ns → ns.length + bV xs ≤ 100 →
   bn.l0 k (bn.f k) x N m ns s n f acc (i : Int) = some (m, (dz xs ns).2, s, n, f, acc ++ (dz xs ns).1) := by
  intro xs
  induction xs with
  | nil =>
   intro i hi hle N es ns acc hN ha hR hb
   obtain ⟨N, rfl⟩ : ∃ q, N = q + 1 := ⟨N - 1, by simp at hN; omega⟩
   have : x.Kids.length ≤ i := by have := congrArg List.length hi; simp at this; omega
   rw [bn.l0, if_neg (by omega), uG, List.append_nil]
  | cons y ys ihl =>
   intro i hi hle N es ns acc hN ha hR hb
   obtain ⟨N, rfl⟩ : ∃ q, N = q + 1 := ⟨N - 1, by simp at hN; omega⟩
   have hlt : i < x.Kids.length := by have := congrArg List.length hi; simp at this; omega
   rw [List.drop_eq_getElem_cons hlt] at hi
   obtain ⟨rfl, rfl⟩ := List.cons.inj hi
   have hm := List.getElem_mem hlt
   have hfy := hx.kid hm
   have hny := ec hm
   rw [cJ] at hb
   obtain ⟨e1, n1, a1, a2, a3, _⟩ := mV _ hfy es ns hR
   rw [bn.l0, if_pos (by omega), ae (by omega), Int.toNat_natCast, List.getElem?_eq_getElem hlt]
   simp only [Option.bind_some]
   rw [ih _ hm hfy k (by omega) es ns m s n f hR (by omega)]
   simp only [Option.bind_some]
   rw [ae (by omega), wrS i (by omega), ihl (i + 1) rfl (by omega) N (es ++ e1) _ _ (by simp at hN ⊢; omega) (by simp; omega) (by rw [a1]; exact a2) (by rw [a1, List.length_append]; omega), sw]
   simp
 have l0 := loop x.Kids 0 rfl (by omega) k es ns [] (by omega) rfl h (by omega)
 rw [bn.f]
 simp only
 rw [show ((0 : Nat) : Int) = 0 from rfl] at l0
 rw [l0]
 simp only [Option.bind_some, List.nil_append]
 obtain ⟨e1, n1, a1, a2, a3, a4, a5, a6⟩ := xd (fun y hy => mV y (hx.kid hy)) es ns h
 have k3 := a2.kids3
 rw [w9]
 unfold rA
 have nl : (dz x.Kids ns).2.length ≤ 100 := by rw [a1, List.length_append]; omega
 rw [zo k (by omega) (fun y0 => di.f k y0 ⟨x.Kind, x.Sym, x.N, (dz x.Kids ns).1, ⟨[], []⟩, ⟨[], []⟩, [], 0⟩) (fun q => mc q (ng x.Kind x.Sym x.N (dz x.Kids ns).1)) _ (by omega) (fun q hq => Ct k (by omega) q _ (by rw [a1] at hq; have := k3 q hq; omega))]
 simp only [Option.bind_some]
 cases (dz x.Kids ns).2.findIdx? fun q => mc q (ng x.Kind x.Sym x.N (dz x.Kids ns).1) with
 | none =>
  simp only
  rw [if_pos (by decide), ae (by omega)]
  rfl
 | some j =>
  simp only
  rw [if_neg (by omega)]
theorem pG (mode : Int) : cI.f mode = some (decide (0 ≤ mode) && decide (mode ≤ 4)) := by
 unfold cI.f
 rw [dH]; rfl
theorem sg {mode : Int} (h : 0 ≤ mode ∧ mode ≤ 4) : cI.f mode = some true := by
 rw [pG, decide_eq_true h.1, decide_eq_true h.2]; rfl
theorem m9 (k : Nat) (hk : 2000000000000 ≤ k) (x : GEx) (mode : Int) (hx : exN x ≤ 1000000) :
  eE.f k x mode = some (if jn x = true ∧ (0 ≤ mode ∧ mode ≤ 4) then ⟨mode, (ei x []).2, 0, 0, false⟩ else ⟨0, [], 0, 0, false⟩) := by
 unfold eE.f
 rw [mv x (by omega) k (by omega)]
 simp only [Option.bind_some]
 by_cases h1 : jn x = true
 ·rw [if_pos h1]
  have hf := kk h1
  by_cases h2 : 0 ≤ mode ∧ mode ≤ 4
  ·rw [sg h2, if_pos ⟨h1, h2⟩]
   simp only [Option.bind_some, if_true]
   rw [wS x ⟨hf.2, hf.1⟩ k (by omega) [] [] mode 0 0 false pR (by simp; omega)]
   rfl
  ·rw [pG mode, if_neg (fun q => h2 q.2)]
   simp only [Option.bind_some]
   rw [if_neg (by simpa using h2)]
 ·rw [if_neg h1, if_neg (fun q => h1 q.1)]
/-- all events, one after another -/
def jC (mode : Int) : List GEv → Int → List GNode → List GOcc → Option (List GOcc)
 | [], _, _, out => some out
 | e :: l, seen, ns, out => match ge mode seen ns e with
  | none => none
  | some r => jC mode l (seen + 1) r.1 (bQ out r.2)
def oP (x : GEx) (mode : Int) (l : List GEv) : List GOcc × Bool := if jn x = true ∧ (0 ≤ mode ∧ mode ≤ 4) ∧ dQ l = true then
  (match jC mode l 0 (ei x []).2 [] with | none => ([], false) | some out => (out, true)) else ([], false)
theorem yZ (k : Nat) (hk : 1000000000000 ≤ k) (mode : Int) (l : List GEv) (hl : AT l) (es : List GEx) : ∀ (d N i : Nat) (ns : List GNode) (now T : Int) (out : List GOcc), i + d = l.length → d < N → eN T es ns → 0 ≤ T → (∀ e ∈ l.drop i, T < e.At) → Asc out → Ids out → out.length ≤ i * 1000040 →
  bU.l0 k l N mode ns (i : Int) now false out (i : Int) = some (match jC mode (l.drop i) (i : Int) ns out with | none => .error ([], false) | some r => .ok r) ∧ (∀ r, jC mode (l.drop i) (i : Int) ns out = some r → Ids r ∧ r.length ≤ l.length * 1000040) := by
 intro d
 induction d with
 | zero =>
  intro N i ns now T out hi hN hG hT hlt ha hid hol
  obtain ⟨N, rfl⟩ : ∃ m, N = m + 1 := ⟨N - 1, by omega⟩
  rw [bU.l0, if_neg (by omega), List.drop_eq_nil_of_le (by omega)]
  refine ⟨rfl, fun r hr => ?_⟩
  cases hr
  have : i = l.length := by omega
  subst this
  exact ⟨hid, hol⟩
 | succ d ih =>
  intro N i ns now T out hi hN hG hT hlt ha hid hol
  obtain ⟨N, rfl⟩ : ∃ m, N = m + 1 := ⟨N - 1, by omega⟩
  have hii : i < l.length := by omega
  have h24 := hl.2.2
  have hm := List.getElem_mem hii
  have he := hl.2.1 _ hm
  have hTe := hlt l[i] (by rw [List.drop_eq_getElem_cons hii]; exact List.mem_cons_self)
  rw [List.drop_eq_getElem_cons hii]
  rw [bU.l0, if_pos (by omega), ae (by omega), Int.toNat_natCast, List.getElem?_eq_getElem hii]
  simp only [Option.bind_some]
  rw [xj k hk l[i] ⟨mode, ns, i, now, false⟩ es T hG ⟨hT, hTe, he.2⟩ (by simp only; omega) rfl]
  simp only [Option.bind_some]
  unfold jC
  cases hst : ge mode (i : Int) ns l[i] with
  | none =>
   simp only
   rw [bY k hk out [] (by simp; omega) hid.few (fun o h => by simp at h) ha]
   simp only [Option.bind_some, if_true]
   exact ⟨trivial, fun r hr => by cases hr⟩
  | some p =>
   obtain ⟨ns', f⟩ := p
   simp only
   obtain ⟨g1, g2, g3⟩ := v7 hG ⟨hT, hTe, he.2⟩ (by omega) hst
   rw [bY k hk out f (by omega) hid.few g2.few ha]
   simp only [Option.bind_some, Bool.false_eq_true, if_false]
   rw [wrS i (by omega), show (i : Int) + 1 = ((i + 1 : Nat) : Int) by omega]
   refine ih N (i + 1) ns' l[i].At l[i].At (bQ out f) (by omega) (by omega) g1 (by omega) (fun e hm' => ?_) (eh ha) (fN hid g2) (by have := cf f out; omega)
   obtain ⟨j, hj, rfl⟩ := List.mem_iff_getElem.1 hm'
   rw [List.getElem_drop]
   exact (List.pairwise_iff_getElem.1 hl.1) i (i + 1 + j) hii (by rw [List.length_drop] at hj; omega) (by omega)
theorem sQ (k : Nat) (hk : 2000000000000 ≤ k) (x : GEx) (mode : Int) (l : List GEv) (hx : exN x ≤ 1000000) (hl : l.length ≤ 1000000) : bU.f k x mode l = some (oP x mode l) := by
 unfold bU.f oP
 rw [mv x (by omega) k (by omega)]
 simp only [Option.bind_some]
 by_cases h1 : jn x = true
 ·rw [if_pos h1]
  have hf := kk h1
  by_cases h2 : 0 ≤ mode ∧ mode ≤ 4
  ·rw [sg h2]
   simp only [Option.bind_some, if_true]
   rw [vH k (by omega) l hl]
   simp only [Option.bind_some]
   by_cases h3 : dQ l = true
   ·rw [if_pos h3, if_pos ⟨h1, h2, h3⟩, m9 k hk x mode hx, if_pos ⟨h1, h2⟩]
    simp only [Option.bind_some]
    have hu := An h3
    obtain ⟨es, hG, _⟩ := ui (x := x) ⟨hf.2, hf.1⟩
    obtain ⟨q, q2⟩ := yZ k (by omega) mode l hu es l.length k 0 (ei x []).2 0 0 [] (by omega) (by have := hu.2.2; omega) hG (by omega) (fun e he => by have := hu.2.1 e (List.mem_of_mem_drop he); omega) (by simp [Asc]) (fun o h => by simp at h) (by simp)
    rw [show ((0 : Nat) : Int) = 0 from rfl, List.drop_zero] at q q2
    rw [q]
    cases hg : jC mode l 0 (ei x []).2 [] with
    | none => rfl
    | some r =>
     simp only [Option.bind_some]
     have := q2 r hg
     have h24 := hu.2.2
     rw [qh k (by omega) r (by omega) this.1.few]
     rfl
   ·rw [if_neg h3, if_neg (fun q => h3 q.2.2)]
  ·rw [pG mode, if_neg (fun q => h2 q.2.1)]
   simp only [Option.bind_some]
   rw [if_neg (by simpa using h2)]
 ·rw [if_neg h1, if_neg (fun q => h1 q.1)]
/-- made of events seen so far -/
def eM (s : Int) (o : GOcc) : Prop := 1 ≤ o.From ∧ o.From ≤ o.To ∧ o.Ids ≠ [] ∧ ∀ x ∈ o.Ids, x < s
theorem eM.mono {s s' : Int} (h : s ≤ s') {o : GOcc} (ho : eM s o) : eM s' o := ⟨ho.1, ho.2.1, ho.2.2.1, fun x hx => by have := ho.2.2.2 x hx; omega⟩
theorem xQ (s : Int) : fm (eM s) := fun a b ha hb => by
 obtain ⟨a1, a2, a3, a4⟩ := ha
 obtain ⟨b1, b2, b3, b4⟩ := hb
 refine ⟨?_, ?_, ?_, fun x hx => ?_⟩
 ·show 1 ≤ min a.From b.From; omega
 ·show min a.From b.From ≤ max a.To b.To; omega
 ·intro e
  obtain ⟨z, hz⟩ := List.exists_mem_of_ne_nil _ a3
  have : z ∈ dV a.Ids b.Ids := dP.2 (.inl hz)
  rw [show dV a.Ids b.Ids = [] from e] at this
  simp at this
 ·rcases dP.1 (show x ∈ dV a.Ids b.Ids from hx) with h | h
  ·exact a4 x h
  ·exact b4 x h
theorem yB {s n : Int} (hn : 0 ≤ n) {o : GOcc} (h : eM s o) : eM s (iW n o) := ⟨h.1, by show o.From ≤ o.To + n; have := h.2.1; omega, h.2.2.1, h.2.2.2⟩
/-- all lists of a part -/
def iR (Q : GOcc → Prop) (n : GNode) : Prop := All Q n.Pair.Left ∧ All Q n.Pair.Right ∧ All Q n.Span.Left ∧ All Q n.Span.Mid ∧ All Q n.Due
theorem Bm {Q : GOcc → Prop} {found : List (List GOcc)} (h : ∀ l ∈ found, All Q l) (n : GNode) (j : Nat) : All Q (av found n j) := by
 unfold av
 rw [List.getD_eq_getElem?_getD]
 cases hf : found[(n.Kids.getD j 0).toNat]? with
 | none => exact All.nil
 | some l => exact h l (List.mem_of_getElem? hf)
theorem zY {Q : GOcc → Prop} (hj : fm Q) {mode seen t : Int} {ev : Option Int} {found : List (List GOcc)} {n : GNode} (hb : ev ≠ none → Q ⟨t, t, [seen]⟩) (hl : ∀ o, Q o → Q (iW n.N o))
  (hn : iR Q n) (hf : ∀ l ∈ found, All Q l) : iR Q (aF mode seen t ev found n).1 ∧ All Q (aF mode seen t ev found n).2 := by
 obtain ⟨h1, h2, h3, h4, h5⟩ := hn
 have k := Bm hf n
 unfold aF
 split
 ·refine ⟨⟨h1, h2, h3, h4, h5⟩, ?_⟩
  split
  ·rename_i he
   intro x hx
   rw [List.mem_singleton.1 hx]
   exact hb (by rw [he]; simp)
  ·exact All.nil
 split
 ·exact ⟨⟨h1, h2, h3, h4, h5⟩, (k 0).merge (k 1)⟩
 split
 ·have := yW hj mode (n.Pair.Left, n.Pair.Right) _ _ h1 h2 (k 0) (k 1)
  exact ⟨⟨this.1, this.2.1, h3, h4, h5⟩, this.2.2⟩
 split
 ·have := zi hj mode (n.Pair.Left, n.Pair.Right) _ _ h1 h2 (k 0) (k 1)
  exact ⟨⟨this.1, h2, h3, h4, h5⟩, this.2.2⟩
 split
 ·have := zH hj mode (n.Span.Left, n.Span.Mid) _ _ _ h3 h4 (k 0) (k 1) (k 2)
  exact ⟨⟨h1, h2, this.1, this.2.1, h5⟩, this.2.2⟩
 split
 ·have := yb hj mode (n.Span.Left, n.Span.Mid) _ _ _ h3 h4 (k 0) (k 1) (k 2)
  exact ⟨⟨h1, h2, this.1, this.2.1, h5⟩, this.2.2⟩
 ·refine ⟨⟨h1, h2, h3, h4, ?_⟩, h5.filter _⟩
  have : ∀ (l acc : List GOcc), All Q l → All Q acc → All Q (l.foldl (fun s o => bZ s (iW n.N o)) acc) := by
   intro l
   induction l with
   | nil => intro acc _ h; exact h
   | cons o l ih => intro acc ho ha; exact ih _ (fun x hx => ho x (by simp [hx])) (ha.put (hl o (ho o (by simp))))
  exact this _ _ (k 0) (h5.filter _)
theorem Al {Q : GOcc → Prop} {r : GNode × List GOcc} (h : iR Q r.1) : iR Q (eV r) := h
theorem uH {Q : GOcc → Prop} (hj : fm Q) {mode seen t : Int} {ev : Option Int} {ns : List GNode} (hb : ev ≠ none → Q ⟨t, t, [seen]⟩) (hl : ∀ n ∈ ns, ∀ o, Q o → Q (iW n.N o)) (hn : ∀ n ∈ ns, iR Q n) :
  (∀ n ∈ (aB mode seen t ev ns).1, iR Q n) ∧ ∀ l ∈ (aB mode seen t ev ns).2, All Q l := by
 unfold aB
 refine gX (fun s : List GNode × List (List GOcc) => (∀ n ∈ s.1, iR Q n) ∧ ∀ l ∈ s.2, All Q l) _ ns ([], []) (fun s n hm hs => ?_) ⟨fun n h => by simp at h, fun l h => by simp at h⟩
 have := zY hj (mode := mode) (seen := seen) (t := t) (ev := ev) (found := s.2) (n := n) hb (hl n hm) (hn n hm) hs.2
 refine ⟨fun x hx => ?_, fun l hx => ?_⟩
 ·rcases List.mem_append.1 hx with h | h
  ·exact hs.1 x h
  ·rw [List.mem_singleton.1 h]; exact Al this.1
 ·rcases List.mem_append.1 hx with h | h
  ·exact hs.2 l h
  ·rw [List.mem_singleton.1 h]; exact this.2
def lR (Q : GOcc → Prop) (ns : List GNode) : Prop := ∀ n ∈ ns, ∀ o, Q o → Q (iW n.N o)
theorem Bq {mode seen t : Int} {ev : Option Int} {ns : List GNode} : ∀ x ∈ (aB mode seen t ev ns).1, ∃ n ∈ ns, x.N = n.N := by
 unfold aB
 refine gX (fun s : List GNode × List (List GOcc) => ∀ x ∈ s.1, ∃ n ∈ ns, x.N = n.N) _ ns ([], []) (fun s n hm hs x hx => ?_) (fun n h => by simp at h)
 rcases List.mem_append.1 hx with h | h
 ·exact hs x h
 ·rw [List.mem_singleton.1 h]
  exact ⟨n, hm, il.2.2.1⟩
theorem lR.point {Q : GOcc → Prop} {mode seen t : Int} {ev : Option Int} {ns : List GNode} (h : lR Q ns) : lR Q (aB mode seen t ev ns).1 := fun x hx o ho => by
 obtain ⟨n, hn, e⟩ := Bq x hx
 rw [e]; exact h n hn o ho
theorem rj {Q : GOcc → Prop} {found : List (List GOcc)} (h : ∀ l ∈ found, All Q l) : All Q (fa found) := by
 unfold fa
 cases hf : found.getLast? with
 | none => exact All.nil
 | some l => exact h l (List.mem_of_getLast? hf)
theorem All.app {Q : GOcc → Prop} {l m : List GOcc} (h : All Q l) (hm : All Q m) : All Q (l ++ m) := fun x hx => (List.mem_append.1 hx).elim (h x) (hm x)
theorem wt {Q : GOcc → Prop} (hj : fm Q) {mode seen before : Int} : ∀ (f : Nat) (ns : List GNode) (out : List GOcc), lR Q ns → (∀ n ∈ ns, iR Q n) → All Q out →
  lR Q (cC mode seen before f ns out).1 ∧ (∀ n ∈ (cC mode seen before f ns out).1, iR Q n) ∧ All Q (cC mode seen before f ns out).2.2
 | 0, ns, out, h1, h2, h3 => ⟨h1, h2, h3⟩
 | f + 1, ns, out, h1, h2, h3 => by
  unfold cC
  have hp := uH hj (mode := mode) (seen := seen) (t := cc ns before) (ev := none) (fun h => absurd rfl h) h1 h2
  split
  ·split
   ·exact ⟨h1.point, hp.1, h3.app (rj hp.2)⟩
   ·exact wt hj f _ _ h1.point hp.1 (h3.app (rj hp.2))
  ·exact ⟨h1, h2, h3⟩
theorem Ap {Q : GOcc → Prop} (hj : fm Q) {mode seen : Int} {ns ns' : List GNode} {e : GEv} {out : List GOcc} (hb : Q ⟨e.At, e.At, [seen]⟩) (h1 : lR Q ns) (h2 : ∀ n ∈ ns, iR Q n) (hst : ge mode seen ns e = some (ns', out)) :
  lR Q ns' ∧ (∀ n ∈ ns', iR Q n) ∧ All Q out := by
 have hd := wt hj (mode := mode) (seen := seen) (before := e.At) 1001 ns [] h1 h2 All.nil
 have hp := uH hj (mode := mode) (seen := seen) (t := e.At) (ev := some e.Sym) (fun _ => hb) hd.1 hd.2.1
 unfold ge at hst
 split at hst
 ·cases hst
 split at hst
 ·cases hst
 simp only [Option.some.injEq, Prod.mk.injEq] at hst
 obtain ⟨rfl, rfl⟩ := hst
 exact ⟨hd.1.point, hp.1, hd.2.2.app (rj hp.2)⟩
theorem zl (k : Nat) (g1 : Int → Option Bool) (l : List Int) (hl : l.length ≤ 1000000) (h : ∀ x ∈ l, g1 x = some false) : ∀ (d n i : Nat), i + d = l.length → d < n → bi.l0 k g1 l n (i : Int) = some (.ok ()) := by
 intro d
 induction d with
 | zero =>
  intro n i hi hn
  obtain ⟨n, rfl⟩ : ∃ m, n = m + 1 := ⟨n - 1, by omega⟩
  rw [bi.l0, if_neg (by omega)]
 | succ d ih =>
  intro n i hi hn
  obtain ⟨n, rfl⟩ : ∃ m, n = m + 1 := ⟨n - 1, by omega⟩
  have hlt : i < l.length := by omega
  rw [bi.l0, if_pos (by omega), ae (by omega), Int.toNat_natCast, List.getElem?_eq_getElem hlt]
  simp only [Option.bind_some]
  rw [h _ (List.getElem_mem hlt)]
  simp only [Option.bind_some, Bool.false_eq_true, if_false]
  rw [wrS i (by omega)]
  exact ih n (i + 1) (by omega) (by omega)
theorem zt (k : Nat) (hk : 2000000 ≤ k) (g1 : Int → Option Bool) (l : List Int) (hl : l.length ≤ 1000000) (h : ∀ x ∈ l, g1 x = some false) : cp.f g1 k l = some false := by
 have := zl k g1 l hl h l.length k 0 (by omega) (by omega)
 rw [show ((0 : Nat) : Int) = 0 from rfl] at this
 simp only [cp.f, bi.f, this, Option.bind_some]
 rfl
theorem uV (k : Nat) (g1 : GOcc → Option Bool) (l : List GOcc) (hl : l.length ≤ 1000000) (h : ∀ x ∈ l, g1 x = some false) : ∀ (d n i : Nat), i + d = l.length → d < n → aA.l0 k g1 l n (i : Int) = some (.ok ()) := by
 intro d
 induction d with
 | zero =>
  intro n i hi hn
  obtain ⟨n, rfl⟩ : ∃ m, n = m + 1 := ⟨n - 1, by omega⟩
  rw [aA.l0, if_neg (by omega)]
 | succ d ih =>
  intro n i hi hn
  obtain ⟨n, rfl⟩ : ∃ m, n = m + 1 := ⟨n - 1, by omega⟩
  have hlt : i < l.length := by omega
  rw [aA.l0, if_pos (by omega), ae (by omega), Int.toNat_natCast, List.getElem?_eq_getElem hlt]
  simp only [Option.bind_some]
  rw [h _ (List.getElem_mem hlt)]
  simp only [Option.bind_some, Bool.false_eq_true, if_false]
  rw [wrS i (by omega)]
  exact ih n (i + 1) (by omega) (by omega)
theorem sU (k : Nat) (hk : 2000000 ≤ k) (g1 : GOcc → Option Bool) (l : List GOcc) (hl : l.length ≤ 1000000) (h : ∀ x ∈ l, g1 x = some false) : aS.f g1 k l = some false := by
 have := uV k g1 l hl h l.length k 0 (by omega) (by omega)
 rw [show ((0 : Nat) : Int) = 0 from rfl] at this
 simp only [aS.f, aA.f, this, Option.bind_some]
 rfl
theorem tq (k : Nat) (g1 : GNode → Option Bool) (l : List GNode) (hl : l.length ≤ 1000000) (h : ∀ x ∈ l, g1 x = some false) : ∀ (d n i : Nat), i + d = l.length → d < n → az.l0 k g1 l n (i : Int) = some (.ok ()) := by
 intro d
 induction d with
 | zero =>
  intro n i hi hn
  obtain ⟨n, rfl⟩ : ∃ m, n = m + 1 := ⟨n - 1, by omega⟩
  rw [az.l0, if_neg (by omega)]
 | succ d ih =>
  intro n i hi hn
  obtain ⟨n, rfl⟩ : ∃ m, n = m + 1 := ⟨n - 1, by omega⟩
  have hlt : i < l.length := by omega
  rw [az.l0, if_pos (by omega), ae (by omega), Int.toNat_natCast, List.getElem?_eq_getElem hlt]
  simp only [Option.bind_some]
  rw [h _ (List.getElem_mem hlt)]
  simp only [Option.bind_some, Bool.false_eq_true, if_false]
  rw [wrS i (by omega)]
  exact ih n (i + 1) (by omega) (by omega)
theorem w7 (k : Nat) (hk : 2000000 ≤ k) (g1 : GNode → Option Bool) (l : List GNode) (hl : l.length ≤ 1000000) (h : ∀ x ∈ l, g1 x = some false) : cW.f g1 k l = some false := by
 have := tq k g1 l hl h l.length k 0 (by omega) (by omega)
 rw [show ((0 : Nat) : Int) = 0 from rfl] at this
 simp only [cW.f, az.f, this, Option.bind_some]
 rfl
theorem mR {s : Int} {l : List GOcc} {T : Int} (h : gU l) (hm : All (eM s) l) (ht : All (fun o => o.To ≤ T) l) (hT : T ≤ 1020) (hl : l.length ≤ 40) : da l = true :=
 yL (fun o ho => (fM o).2 ⟨(hm o ho).1, (hm o ho).2.1, by have := ht o ho; omega, by have := List.length_pos_iff.2 (hm o ho).2.2.1; omega, h.2 o ho⟩) h.1 hl
theorem rf {s T : Int} {es : List GEx} {ns : List GNode} {n : GNode} (h : eN T es ns) (hn : n ∈ ns) (hm : iR (eM s) n) (hT : 0 ≤ T ∧ T ≤ 1000) :
  da n.Pair.Left = true ∧ da n.Pair.Right = true ∧ da n.Span.Left = true ∧ da n.Span.Mid = true ∧ da n.Due = true := by
 obtain ⟨⟨⟨a1, a2, a3, a4, a5⟩, b1, b2, b3, b4⟩, _, _, c5, d1, d2, d3, d4, d5⟩ := h.2.2 n hn
 obtain ⟨m1, m2, m3, m4, m5⟩ := hm
 have k0 := iU h n 0
 have k1 := iU h n 1
 have k2 := iU h n 2
 refine ⟨mR a1 m1 b1 (by omega) (by omega), mR a2 m2 b2 (by omega) (by omega), mR a3 m3 b3 (by omega) (by omega), mR a4 m4 b4 (by omega) ?_, mR (T := T + 20) a5 m5 (fun o ho => (c5 o ho).2) (by omega) (by omega)⟩
 split at d4 <;> omega
theorem jd (k : Nat) (hk : 1000000000000 ≤ k) {l : List GOcc} (h : da l = true) : bw.f k l = some true := by
 rw [y6 k hk l ⟨by have := kZ h; omega, sj h⟩, h]
theorem yG (k : Nat) (hk : 2000000000000 ≤ k) {s T : Int} {es : List GEx} {ns : List GNode} (h : eN T es ns) (hT : 0 ≤ T ∧ T ≤ 1000) {i : Nat} {n : GNode} (hn : ns[i]? = some n) (hm : iR (eM s) n) : gT.f k n (i : Int) T = some true := by
 have hmem := List.mem_of_getElem? hn
 obtain ⟨o1, o2, o3, o4, o5⟩ := rf h hmem hm hT
 obtain ⟨e, he, hx, hR⟩ := h.1.2 i n hn
 have ha := xR hx hR
 have hlen := h.2.1
 have hi : i < ns.length := (List.getElem?_eq_some_iff.1 hn).1
 have hh : eD e = true := by have := hx.1; rw [kn] at this; simp only [Bool.and_eq_true] at this; exact this.1
 unfold eD at hh
 simp only [Bool.and_eq_true, decide_eq_true_eq, Bool.or_eq_true] at hh
 obtain ⟨⟨⟨⟨hk1, hs1⟩, hs2⟩, hs3⟩, hN⟩ := hh
 obtain ⟨⟨_, _⟩, hM, hD, hD2, _⟩ := h.2.2 n hmem
 have hkids : ∀ x ∈ n.Kids, dM.f x (i : Int) = some false := fun x hx' => by
  obtain ⟨j, hj⟩ := List.mem_iff_getElem?.1 hx'
  have hjl : j < e.Kids.length := by rw [← hR.2.2.2.1]; exact (List.getElem?_eq_some_iff.1 hj).1
  obtain ⟨q, q1, q2, _⟩ := hR.2.2.2.2 j hjl
  rw [hj] at q2
  simp only [Option.some.injEq] at q2
  subst q2
  simp only [dM.f]
  rw [wr _ (by omega), dH]
  simp only [Option.bind_some, Option.some.injEq, Bool.not_eq_false', Bool.and_eq_true, decide_eq_true_eq]
  omega
 have hdue : ∀ x ∈ n.Due, cY.f x T = some false := fun x hx' => by
  have := (hD2 x hx').1
  simp only [cY.f, Option.some.injEq, Bool.not_eq_false', decide_eq_true_eq]
  omega
 have k3 : n.Kids.length ≤ 3 := by
  have : j8 e.Kind ≤ 3 := by
   unfold j8; repeat' split
   all_goals omega
  rw [hR.2.2.2.1]; omega
 have c1 := zt k (by omega) (fun y0 => dM.f y0 (i : Int)) n.Kids (by omega) hkids
 have c2 := sU k (by omega) (fun y0 => cY.f y0 T) n.Due (by have := kZ o5; omega) hdue
 have hpair : gp.f k n.Pair = some true := by
  unfold gp.f
  rw [jd k (by omega) o1]
  simp only [Option.bind_some, if_true]
  rw [jd k (by omega) o2]
  rfl
 have hspan : gw.f k n.Span = some true := by
  unfold gw.f
  rw [jd k (by omega) o3]
  simp only [Option.bind_some, if_true]
  rw [jd k (by omega) o4]
  rfl
 have hkind : ff.f n.Kind = some true := by
  simp only [ff.f, dH, Option.bind_some, Option.some.injEq, Bool.and_eq_true, decide_eq_true_eq]
  omega
 have hsym : dd.f n.Sym = some true := by
  simp only [dd.f, dH, Option.bind_some, Option.some.injEq, Bool.and_eq_true, decide_eq_true_eq]
  rw [hR.2.1]; omega
 have hmany : ba.f n.Many 0 40 = some true := by
  simp only [dH, Option.some.injEq, Bool.and_eq_true, decide_eq_true_eq]; omega
 unfold gT.f
 rw [hkind]
 simp only [Option.bind_some, if_true]
 rw [wa n.Kind (by omega)]
 simp only [Option.bind_some]
 rw [if_pos (by rw [hR.2.2.2.1, hR.1]; omega), c1]
 simp only [Option.bind_some, Bool.false_eq_true, if_false]
 by_cases h7 : n.Kind = 7
 ·rw [if_pos h7]
  have hn7 : ba.f n.N 1 20 = some true := by
   rw [if_pos (by rw [← hR.1]; exact h7)] at hN
   simp only [Bool.and_eq_true, decide_eq_true_eq] at hN
   simp only [dH, Option.some.injEq, Bool.and_eq_true, decide_eq_true_eq, hR.2.2.1]; omega
  rw [hn7]
  simp only [Option.bind_some, if_true]
  rw [hsym]
  simp only [Option.bind_some, if_true]
  rw [hmany]
  simp only [Option.bind_some, if_true]
  rw [hpair]
  simp only [Option.bind_some, if_true]
  rw [hspan]
  simp only [Option.bind_some, if_true]
  rw [jd k (by omega) o5]
  simp only [Option.bind_some, if_true]
  rw [c2]
  rfl
 ·rw [if_neg h7]
  have hn0 : n.N = 0 := by
   rw [if_neg (by rw [← hR.1]; exact h7)] at hN
   simp only [decide_eq_true_eq] at hN
   rw [hR.2.2.1]; exact hN
  rw [if_pos hn0, if_neg (by rw [hD h7]; simp)]
  rw [hsym]
  simp only [Option.bind_some, if_true]
  rw [hmany]
  simp only [Option.bind_some, if_true]
  rw [hpair]
  simp only [Option.bind_some, if_true]
  rw [hspan]
  simp only [Option.bind_some, if_true]
  rw [jd k (by omega) o5]
  simp only [Option.bind_some, if_true]
  rw [c2]
  rfl
/-- a graph of an expression that has seen these events -/
structure jt (now : Int) (seen : Nat) (g : GGraph) : Prop where
 inv : ∃ es, eN now es g.Nodes
 late : 0 ≤ now ∧ now ≤ 1000
 now' : g.Now = now
 seen' : g.Seen = seen
 few : seen ≤ 24
 mode : 0 ≤ g.Mode ∧ g.Mode ≤ 4
 full : g.Full = false
 made : ∀ n ∈ g.Nodes, iR (eM seen) n
theorem za (k : Nat) (hk : 2000000000000 ≤ k) {now : Int} {seen : Nat} {g : GGraph} (h : jt now seen g) : cz.f k g = some true := by
 obtain ⟨es, hi⟩ := h.inv
 have hlen := hi.2.1
 have L : ∀ (d n i : Nat), i + d = g.Nodes.length → d < n → cz.l0 k g n (i : Int) = some (.ok ()) := by
  intro d
  induction d with
  | zero =>
   intro n i hi' hn
   obtain ⟨n, rfl⟩ : ∃ m, n = m + 1 := ⟨n - 1, by omega⟩
   rw [cz.l0, if_neg (by omega)]
  | succ d ih =>
   intro n i hi' hn
   obtain ⟨n, rfl⟩ : ∃ m, n = m + 1 := ⟨n - 1, by omega⟩
   have hlt : i < g.Nodes.length := by omega
   rw [cz.l0, if_pos (by omega), ae (by omega), Int.toNat_natCast, List.getElem?_eq_getElem hlt]
   simp only [Option.bind_some]
   rw [h.now', yG k hk hi h.late (List.getElem?_eq_getElem hlt) (h.made _ (List.getElem_mem hlt))]
   simp only [Option.bind_some, if_true]
   rw [wrS i (by omega)]
   exact ih n (i + 1) (by omega) (by omega)
 have L0 := L g.Nodes.length k 0 (by omega) (by omega)
 rw [show ((0 : Nat) : Int) = 0 from rfl] at L0
 unfold cz.f
 rw [L0]
 simp only [Option.bind_some]
 have e1 : cI.f g.Mode = some true := by
  simp only [cI.f, dH, Option.bind_some, Option.some.injEq, Bool.and_eq_true, decide_eq_true_eq]; exact h.mode
 have e2 : ba.f (g.Nodes.length : Int) 1 12 = some true := by
  simp only [dH, Option.some.injEq, Bool.and_eq_true, decide_eq_true_eq]; omega
 have e3 : ba.f g.Seen 0 24 = some true := by
  have := h.seen'; have := h.few
  simp only [dH, Option.some.injEq, Bool.and_eq_true, decide_eq_true_eq]; omega
 have e4 : ba.f g.Now 0 1000 = some true := by
  have := h.now'; have := h.late
  simp only [dH, Option.some.injEq, Bool.and_eq_true, decide_eq_true_eq]; omega
 rw [e1]
 simp only [Option.bind_some, if_true]
 rw [e2]
 simp only [Option.bind_some, if_true]
 rw [e3]
 simp only [Option.bind_some, if_true]
 rw [e4]
 rfl
theorem sy {s : Nat} {o : GOcc} (h : eM s o) (hl : o.Ids.length ≤ 1000) : ∃ x, dg.f o = some x ∧ x ∈ o.Ids ∧ x < s := by
 have h1 := List.length_pos_iff.2 h.2.2.1
 obtain ⟨m, hm⟩ : ∃ m, o.Ids.length = m + 1 := ⟨o.Ids.length - 1, by omega⟩
 unfold dg.f
 rw [hm, wrP m (by omega), ae (by omega), Int.toNat_natCast, List.getElem?_eq_getElem (by omega)]
 exact ⟨_, rfl, List.getElem_mem _, h.2.2.2 _ (List.getElem_mem _)⟩
theorem Bs (k : Nat) (hk : 2000000 ≤ k) (e : GEng) (ls : List (List GOcc)) (hl : ls.length ≤ 1000) (h : ∀ l ∈ ls, l.length ≤ 1000 ∧ All (eM e.Events.length) l ∧ Ids l) : bP.f k e ls = some true := by
 have L : ∀ (d n i : Nat), i + d = ls.length → d < n → bP.l0 k e ls n (i : Int) = some (.ok ()) := by
  intro d
  induction d with
  | zero =>
   intro n i hi' hn
   obtain ⟨n, rfl⟩ : ∃ m, n = m + 1 := ⟨n - 1, by omega⟩
   rw [bP.l0, if_neg (by omega)]
  | succ d ih =>
   intro n i hi' hn
   obtain ⟨n, rfl⟩ : ∃ m, n = m + 1 := ⟨n - 1, by omega⟩
   have hlt : i < ls.length := by omega
   obtain ⟨h1, h2, h3⟩ := h _ (List.getElem_mem hlt)
   rw [bP.l0, if_pos (by omega), ae (by omega), Int.toNat_natCast, List.getElem?_eq_getElem hlt]
   simp only [Option.bind_some]
   rw [sU k hk (fun y0 => dO.f y0 e) ls[i] (by omega) (fun x hx => by
    obtain ⟨z, q1, _, q3⟩ := sy (h2 x hx) (by have := dq (h3 x hx); omega)
    simp only [dO.f, q1, Option.bind_some, Option.some.injEq, Bool.not_eq_false', decide_eq_true_eq]
    exact q3)]
   simp only [Option.bind_some, Bool.false_eq_true, if_false]
   rw [wrS i (by omega)]
   exact ih n (i + 1) (by omega) (by omega)
 have L0 := L ls.length k 0 (by omega) (by omega)
 rw [show ((0 : Nat) : Int) = 0 from rfl] at L0
 unfold bP.f
 rw [L0]
 rfl
theorem xJ (k : Nat) (hk : 2000000000000 ≤ k) (e : GEng) {now : Int} {g : GGraph} (hn : ii.f e.Events = some now) (h : jt now e.Events.length g) : eH.f k e g = some true := by
 obtain ⟨es, hi⟩ := h.inv
 have hlen := hi.2.1
 unfold eH.f
 rw [za k hk h]
 simp only [Option.bind_some, if_true]
 rw [if_neg (by rw [h.full]; decide), if_pos h.seen', hn]
 simp only [Option.bind_some]
 rw [if_pos h.now', w7 k (by omega) (fun y0 => dx.f k y0 e) g.Nodes (by omega) (fun n hn' => by
  obtain ⟨o1, o2, o3, o4, o5⟩ := rf hi hn' (h.made n hn') h.late
  obtain ⟨m1, m2, m3, m4, m5⟩ := h.made n hn'
  have each : ∀ l, da l = true → All (eM e.Events.length) l → l.length ≤ 1000 ∧ All (eM e.Events.length) l ∧ Ids l := fun l ho hm => ⟨by have := kZ ho; omega, hm, zp ho⟩
  simp only [dx.f]
  rw [Bs k (by omega) e _ (by simp) (fun l hl => by
   simp only [List.mem_cons, List.not_mem_nil, or_false] at hl
   rcases hl with rfl | rfl | rfl | rfl | rfl
   ·exact each _ o1 m1
   ·exact each _ o2 m2
   ·exact each _ o3 m3
   ·exact each _ o4 m4
   ·exact each _ o5 m5)]
  rfl)]
 rfl
def xN (rs : List GRule) (x : Int) : Int := ((rs[x.toNat]?).map (·.Pri)).getD 0
/-- into a list that is kept backwards -/
def inR (p : Int → Int) : List Int → Int → List Int
 | [], x => [x]
 | y :: l, x => if p y < p x then y :: inR p l x else x :: y :: l
def jm (p : Int → Int) (n : Nat) : List Int := (List.range n).foldl (fun s (i : Nat) => inR p s (i : Int)) []
def ft (rs : List GRule) : List Int := (jm (xN rs) rs.length).reverse
theorem ud (p : Int → Int) (n : Nat) : jm p (n + 1) = inR p (jm p n) (n : Int) := by
 unfold jm
 rw [List.range_succ, List.foldl_append]; rfl
theorem vr (p : Int → Int) (x : Int) : ∀ l : List Int, (inR p l x).Perm (x :: l)
 | [] => List.Perm.refl _
 | y :: l => by
  unfold inR
  split
  ·exact ((vr p x l).cons y).trans (List.Perm.swap x y l)
  ·exact List.Perm.refl _
theorem kj (p : Int → Int) : ∀ n : Nat, (jm p n).Perm ((List.range n).map fun i : Nat => (i : Int))
 | 0 => List.Perm.refl _
 | n + 1 => by
  rw [ud, List.range_succ, List.map_append]
  exact (vr p n _).trans (((kj p n).cons (n : Int)).trans (by rw [List.map_cons, List.map_nil]; exact (List.perm_append_singleton _ _).symm))
theorem nV (rs : List GRule) : (ft rs).Perm ((List.range rs.length).map fun i : Nat => (i : Int)) := (List.reverse_perm _).trans (kj _ _)
theorem kq (rs : List GRule) : (ft rs).length = rs.length := by rw [(nV rs).length_eq]; simp
theorem un {rs : List GRule} {x : Int} : x ∈ ft rs ↔ ∃ i : Nat, i < rs.length ∧ x = i := by
 rw [(nV rs).mem_iff, List.mem_map]
 constructor
 ·rintro ⟨i, h, rfl⟩; exact ⟨i, List.mem_range.1 h, rfl⟩
 ·rintro ⟨i, h, rfl⟩; exact ⟨i, List.mem_range.2 h, rfl⟩
theorem wR (rs : List GRule) : (ft rs).Nodup := by
 rw [(nV rs).nodup_iff]
 exact (List.pairwise_map.2 ((List.nodup_range (n := rs.length)).imp fun h e => h (Int.ofNat.inj e)))
theorem Ag {p : Int → Int} {n : Nat} {x : Int} : x ∈ jm p n ↔ ∃ i : Nat, i < n ∧ x = i := by
 rw [(kj p n).mem_iff, List.mem_map]
 constructor
 ·rintro ⟨i, h, rfl⟩; exact ⟨i, List.mem_range.1 h, rfl⟩
 ·rintro ⟨i, h, rfl⟩; exact ⟨i, List.mem_range.2 h, rfl⟩
theorem A4 {α : Type} (A : List α) (y x z : α) (r : List α) : (A ++ y :: x :: r).set (A.length + 1) z = A ++ y :: z :: r := by
 rw [List.set_append_right _ _ (by omega), Nat.add_sub_cancel_left]; rfl
theorem Cl {α : Type} (A : List α) (y z : α) (r : List α) : (A ++ y :: r).set A.length z = A ++ z :: r := by
 rw [List.set_append_right _ _ (by omega), Nat.sub_self]; rfl
theorem Bo {α : Type} (A : List α) (y x : α) (r : List α) : (A ++ y :: x :: r)[A.length + 1]? = some x := by
 rw [List.getElem?_append_right (by omega), Nat.add_sub_cancel_left]; rfl
theorem wq {α : Type} (A : List α) (y : α) (r : List α) : (A ++ y :: r)[A.length]? = some y := by
 rw [List.getElem?_append_right (by omega), Nat.sub_self]; rfl
theorem ur (k : Nat) (p : Int → Int) (V : Int → Prop) (g : Int → Int → Option Int) (hg : ∀ a b, V a → V b → g a b = some (p b - p a)) (x : Int) (hx : V x) : ∀ (A r : List Int) (N : Nat), (∀ y ∈ A, V y) → A.length + r.length ≤ 1000 → A.length < N →
  aq.l3 k g 0 N (A.reverse ++ x :: r) (A.length : Int) = some ((inR p A x).reverse ++ r)
 | [], r, N, _, _, hN => by
  obtain ⟨N, rfl⟩ : ∃ m, N = m + 1 := ⟨N - 1, by omega⟩
  rw [aq.l3, if_neg (by simp)]
  rfl
 | y :: A, r, N, hA, hl, hN => by
  obtain ⟨N, rfl⟩ : ∃ m, N = m + 1 := ⟨N - 1, by omega⟩
  have hl' := hl
  simp only [List.length_cons] at hl'
  have e0 : (y :: A).reverse ++ x :: r = A.reverse ++ y :: x :: r := by simp
  have eL : (A.reverse ++ y :: x :: r).length = A.length + r.length + 2 := by simp; omega
  have g1 : (A.reverse ++ y :: x :: r)[A.length + 1]? = some x := by have := Bo A.reverse y x r; rwa [List.length_reverse] at this
  have g2 : (A.reverse ++ y :: x :: r)[A.length]? = some y := by have := wq A.reverse y (x :: r); rwa [List.length_reverse] at this
  have s1 : (A.reverse ++ y :: x :: r).set (A.length + 1) y = A.reverse ++ y :: y :: r := by have := A4 A.reverse y x y r; rwa [List.length_reverse] at this
  have s2 : (A.reverse ++ y :: y :: r).set A.length x = A.reverse ++ x :: y :: r := by have := Cl A.reverse y x (y :: r); rwa [List.length_reverse] at this
  have g3 : (A.reverse ++ y :: y :: r)[A.length]? = some y := by have := wq A.reverse y (y :: r); rwa [List.length_reverse] at this
  rw [e0, show (((y :: A).length : Nat) : Int) = ((A.length + 1 : Nat) : Int) from rfl]
  rw [aq.l3, if_pos (by omega), wrP A.length (by omega), ae (by omega), ae (by rw [eL]; omega), Int.toNat_natCast, Int.toNat_natCast, g1]
  simp only [Option.bind_some]
  rw [ae (by omega), ae (by rw [eL]; omega), g2]
  simp only [Option.bind_some]
  rw [hg x y hx (hA y (by simp))]
  simp only [Option.bind_some]
  unfold inR
  by_cases h : p y < p x
  ·rw [if_pos (by omega), if_pos h]
   rw [ae (by omega), ae (by rw [eL]; omega), ae (by omega), ae (by rw [eL]; omega), ae (by omega), ae (by rw [eL]; omega), ae (by omega), ae (by rw [eL]; omega), s1, g3]
   simp only [Option.bind_some]
   rw [s2, ur k p V g hg x hx A (y :: r) N (fun z hz => hA z (by simp [hz])) (by simp only [List.length_cons]; omega) (by simp only [List.length_cons] at hN; omega)]
   simp
  ·rw [if_neg (by omega), if_neg h]
   simp
theorem zJ (k : Nat) (hk : 2000 ≤ k) (p : Int → Int) (V : Int → Prop) (g : Int → Int → Option Int) (hg : ∀ a b, V a → V b → g a b = some (p b - p a)) (n : Nat) (hn : n ≤ 500) (hV : ∀ i : Nat, i < n → V i) : ∀ (d i N : Nat), i + d = n → 1 ≤ i → d < N →
  aq.l2 k g 0 (n : Int) N ((jm p i).reverse ++ (List.range' i d).map fun j : Nat => (j : Int)) (i : Int) = some (jm p n).reverse := by
 intro d
 induction d with
 | zero =>
  intro i N hi h1 hN
  obtain ⟨N, rfl⟩ : ∃ m, N = m + 1 := ⟨N - 1, by omega⟩
  have : i = n := by omega
  subst this
  rw [aq.l2, if_neg (by omega)]
  simp
 | succ d ih =>
  intro i N hi h1 hN
  obtain ⟨N, rfl⟩ : ∃ m, N = m + 1 := ⟨N - 1, by omega⟩
  rw [aq.l2, if_pos (by omega), List.range'_succ, List.map_cons]
  have hlen : (jm p i).length = i := by rw [(kj p i).length_eq]; simp
  have := ur k p V g hg (i : Int) (hV i (by omega)) (jm p i) ((List.range' (i + 1) d).map fun j : Nat => (j : Int)) k (fun y hy => by obtain ⟨j, hj, rfl⟩ := Ag.1 hy; exact hV j (by omega)) (by rw [hlen]; simp; omega) (by omega)
  rw [hlen] at this
  rw [this]
  simp only [Option.bind_some]
  rw [wrS i (by omega), ← ud]
  exact ih (i + 1) N (by omega) (by omega) (by omega)
theorem BE (k : Nat) (hk : 2000 ≤ k) (p : Int → Int) (V : Int → Prop) (g : Int → Int → Option Int) (hg : ∀ a b, V a → V b → g a b = some (p b - p a)) (n : Nat) (hn : n ≤ 500) (hV : ∀ i : Nat, i < n → V i) :
  aq.f g k ((List.range' 0 n).map fun j : Nat => (j : Int)) 0 (n : Int) = some (jm p n).reverse := by
 unfold aq.f
 rw [show IntKind.wrap .i64 ((0 : Int) + 1) = 1 from wr _ (by omega)]
 cases n with
 | zero =>
  obtain ⟨m, rfl⟩ : ∃ m, k = m + 1 := ⟨k - 1, by omega⟩
  rw [aq.l2, if_neg (by omega)]; rfl
 | succ n =>
  rw [List.range'_succ, List.map_cons]
  have := zJ k hk p V g hg (n + 1) hn hV n 1 k (by omega) (by omega) (by omega)
  rw [show (jm p 1).reverse = [((0 : Nat) : Int)] from rfl] at this
  rw [show ((1 : Nat) : Int) = 1 from rfl] at this
  have e : ((0 : Nat) : Int) :: List.map (fun j : Nat => (j : Int)) (List.range' (0 + 1) n) = [((0 : Nat) : Int)] ++ List.map (fun j : Nat => (j : Int)) (List.range' 1 n) := rfl
  rw [e, this]; rfl
theorem zu (k : Nat) (hk : 2000 ≤ k) (p : Int → Int) (V : Int → Prop) (g : Int → Int → Option Int) (hg : ∀ a b, V a → V b → g a b = some (p b - p a)) (n : Nat) (hn : n ≤ 19) (hV : ∀ i : Nat, i < n → V i) :
  dp.f g k ((List.range' 0 n).map fun j : Nat => (j : Int)) = some (jm p n).reverse := by
 have hlen : (jm p n).reverse.length = n := by rw [List.length_reverse, (kj p n).length_eq]; simp
 have hl2 : ((List.range' 0 n).map fun j : Nat => (j : Int)).length = n := by simp
 obtain ⟨m, rfl⟩ : ∃ m, k = m + 1 := ⟨k - 1, by omega⟩
 have ie := BE (m + 1) hk p V g hg n (by omega) hV
 unfold dp.f aH.f
 rw [aH.l0, hl2, if_pos (by omega)]
 simp only [Option.bind_some]
 rw [ie]
 simp only [Option.bind_some]
 rw [aH.l3, if_neg (by omega), ae (by rw [hlen, hl2])]
 simp only [Option.bind_some]
 rw [ae (by rw [hlen])]
theorem Bu (k : Nat) (hk : 2000 ≤ k) (rs : List GRule) (hl : rs.length ≤ 4) (hp : ∀ r ∈ rs, 0 ≤ r.Pri ∧ r.Pri ≤ 9) : cX.f k rs = some (ft rs) := by
 have L : ∀ (d i N : Nat), i + d = rs.length → d < N → cX.l0 k rs N ((List.range' 0 i).map fun j : Nat => (j : Int)) (i : Int) = some ((List.range' 0 rs.length).map fun j : Nat => (j : Int)) := by
  intro d
  induction d with
  | zero =>
   intro i N hi hN
   obtain ⟨N, rfl⟩ : ∃ m, N = m + 1 := ⟨N - 1, by omega⟩
   rw [cX.l0, if_neg (by omega), show i = rs.length by omega]
  | succ d ih =>
   intro i N hi hN
   obtain ⟨N, rfl⟩ : ∃ m, N = m + 1 := ⟨N - 1, by omega⟩
   rw [cX.l0, if_pos (by omega), ae (by simp; omega), wrS i (by omega)]
   have := ih (i + 1) N (by omega) (by omega)
   rw [List.range'_concat, List.map_append] at this
   simpa using this
 have L0 := L rs.length 0 k (by omega) (by omega)
 unfold cX.f
 rw [show (List.map (fun j : Nat => (j : Int)) (List.range' 0 0)) = [] from rfl, show ((0 : Nat) : Int) = 0 from rfl] at L0
 rw [L0]
 simp only [Option.bind_some]
 have hlen : (ft rs).length = rs.length := kq rs
 rw [zu k hk (xN rs) (fun x => ∃ i : Nat, i < rs.length ∧ x = i) _ (fun a b ⟨i, hi, ha⟩ ⟨j, hj, hb⟩ => by
  subst ha; subst hb
  unfold gP.f xN
  have h1 := hp _ (List.getElem_mem hi)
  have h2 := hp _ (List.getElem_mem hj)
  rw [ae (by omega), Int.toNat_natCast, Int.toNat_natCast, List.getElem?_eq_getElem hj]
  simp only [Option.bind_some]
  rw [ae (by omega), List.getElem?_eq_getElem hi]
  simp only [Option.bind_some, Option.map_some, Option.getD_some]
  rw [wr _ (by omega)]) rs.length (by omega) (fun i hi => ⟨i, hi, rfl⟩)]
 simp only [Option.bind_some]
 rw [ae (by show (ft rs).length = _; rw [hlen]; simp)]
 rfl
/-- a loop that ends where something does not hold -/
theorem yl {β : Type} (m : Nat) (p : Nat → Bool) (b : β) (L : Nat → Int → Option (Except β Unit)) (h0 : ∀ N, L (N + 1) (m : Int) = some (.ok ()))
  (h1 : ∀ N i, i < m → L (N + 1) (i : Int) = if p i = true then L N ((i + 1 : Nat) : Int) else some (.error b)) : ∀ (d i N : Nat), i + d = m → d < N → L N (i : Int) = some (if (List.range' i d).all p = true then .ok () else .error b) := by
 intro d
 induction d with
 | zero =>
  intro i N hi hN
  obtain ⟨N, rfl⟩ : ∃ q, N = q + 1 := ⟨N - 1, by omega⟩
  rw [show i = m by omega, h0]; rfl
 | succ d ih =>
  intro i N hi hN
  obtain ⟨N, rfl⟩ : ∃ q, N = q + 1 := ⟨N - 1, by omega⟩
  rw [h1 N i (by omega), List.range'_succ, List.all_cons]
  by_cases hp : p i = true
  ·rw [if_pos hp, ih (i + 1) N (by omega) (by omega), hp, Bool.true_and]
  ·rw [if_neg hp]
   have : p i = false := by simpa using hp
   rw [this, Bool.false_and]; rfl
theorem j9 {β : Type} (m : Nat) (p : Nat → Bool) (b : β) (L : Nat → Int → Option (Except β Unit)) (h0 : ∀ N, L (N + 1) (m : Int) = some (.ok ()))
  (h1 : ∀ N i, i < m → L (N + 1) (i : Int) = if p i = true then L N ((i + 1 : Nat) : Int) else some (.error b)) (N : Nat) (hN : m < N) : L N 0 = some (if ∀ i, i < m → p i = true then .ok () else .error b) := by
 have := yl m p b L h0 h1 m 0 N (by omega) hN
 rw [show ((0 : Nat) : Int) = 0 from rfl] at this
 rw [this]
 congr 1
 by_cases h : ∀ i, i < m → p i = true
 ·rw [if_pos h, if_pos]
  rw [List.all_eq_true]
  intro x hx
  rw [List.mem_range'] at hx
  obtain ⟨j, h1, h2⟩ := hx
  exact h x (by omega)
 ·rw [if_neg h, if_neg]
  intro q
  rw [List.all_eq_true] at q
  exact h fun i hi => q i (List.mem_range'.2 ⟨i, hi, by omega⟩)
/-- a loop that makes one of each -/
theorem jM {α β : Type} (l : List α) (f : α → β) (L : Nat → List β → Int → Option (List β)) (h0 : ∀ N acc, L (N + 1) acc (l.length : Int) = some acc)
  (h1 : ∀ N acc i (h : i < l.length), acc.length = i → L (N + 1) acc (i : Int) = L N (acc ++ [f l[i]]) ((i + 1 : Nat) : Int)) (N : Nat) (hN : l.length < N) : L N [] 0 = some (l.map f) := by
 have : ∀ (d i N : Nat), i + d = l.length → d < N → L N ((l.take i).map f) (i : Int) = some (l.map f) := by
  intro d
  induction d with
  | zero =>
   intro i N hi hN
   obtain ⟨N, rfl⟩ : ∃ q, N = q + 1 := ⟨N - 1, by omega⟩
   rw [show i = l.length by omega, h0, List.take_length]
  | succ d ih =>
   intro i N hi hN
   obtain ⟨N, rfl⟩ : ∃ q, N = q + 1 := ⟨N - 1, by omega⟩
   have hlt : i < l.length := by omega
   rw [h1 N _ i hlt (by simp; omega)]
   have := ih (i + 1) N (by omega) (by omega)
   rw [List.take_add_one, List.getElem?_eq_getElem hlt, List.map_append] at this
   exact this
 exact this l.length 0 N (by omega) hN
def lP (s : ByteArray) (i : Nat) : Bool := !decide ((j7 s i) < 97) && !decide (122 < (j7 s i))
def jx (s : ByteArray) : Bool := decide (∀ i, i < s.size → lP s i = true) && (decide (1 ≤ s.size) && decide (s.size ≤ 6))
theorem uZ (k : Nat) (s : ByteArray) (hs : s.size ≤ 1000000) (hk : 1000001 ≤ k) : cG.f k s = some (jx s) := by
 have := j9 s.size (lP s) false (cG.l0 k s) (fun N => by rw [cG.l0, if_neg (by omega)])
  (fun N i hi => by
   rw [cG.l0, if_pos (by omega), ae (by omega), ae (by omega), ae (by omega), ae (by omega), Int.toNat_natCast, wrS i (by omega)]
   unfold lP
   by_cases h1 : (j7 s i) < 97
   ·rw [if_pos h1]; simp [h1]
   ·rw [if_neg h1]
    by_cases h2 : 122 < (j7 s i)
    ·rw [if_pos h2]; simp [h2]
    ·rw [if_neg h2]; simp [h1, h2]) k (by omega)
 unfold cG.f jx
 rw [this]
 by_cases h : ∀ i, i < s.size → lP s i = true
 ·rw [if_pos h]
  simp only [Option.bind_some, dH, Option.some.injEq]
  rw [Bool.eq_iff_iff]
  simp only [Bool.and_eq_true, decide_eq_true_eq]
  constructor
  ·intro q; exact ⟨h, by omega, by omega⟩
  ·intro q; omega
 ·rw [if_neg h, decide_eq_false h]; rfl
def rOk (r : GRule) : Bool := jx r.Name && (decide (0 ≤ r.Pri ∧ r.Pri ≤ 9) && (decide (0 ≤ r.Mode ∧ r.Mode ≤ 4) && (jn r.Ex && (decide (0 ≤ r.Low ∧ r.Low ≤ r.High ∧ r.High ≤ 100) && (decide (0 ≤ r.Key ∧ r.Key ≤ 3) && (decide (-9 ≤ r.Add ∧ r.Add ≤ 9) && decide (-1 ≤ r.Raise ∧ r.Raise ≤ 4)))))))
structure nL (r : GRule) : Prop where
 name : jx r.Name = true
 pri : 0 ≤ r.Pri ∧ r.Pri ≤ 9
 mode : 0 ≤ r.Mode ∧ r.Mode ≤ 4
 ex : jn r.Ex = true
 low : 0 ≤ r.Low ∧ r.Low ≤ r.High ∧ r.High ≤ 100
 key : 0 ≤ r.Key ∧ r.Key ≤ 3
 add : -9 ≤ r.Add ∧ r.Add ≤ 9
 raise : -1 ≤ r.Raise ∧ r.Raise ≤ 4
theorem tb (r : GRule) : rOk r = true ↔ nL r := by
 unfold rOk
 simp only [Bool.and_eq_true, decide_eq_true_eq]
 constructor
 ·rintro ⟨a, b, c, d, e, f, g, h⟩; exact ⟨a, b, c, d, e, f, g, h⟩
 ·rintro ⟨a, b, c, d, e, f, g, h⟩; exact ⟨a, b, c, d, e, f, g, h⟩
/-- small enough to be looked at -/
def lE (r : GRule) : Prop := r.Name.size ≤ 1000000 ∧ exN r.Ex ≤ 1000000
theorem ol (k : Nat) (hk : 1000000000000 ≤ k) (r : GRule) (h : lE r) : gz.f k r = some (rOk r) := by
 unfold gz.f rOk
 rw [uZ k r.Name h.1 (by omega), pG, mv r.Ex (by have := h.2; omega) k (by have := h.2; omega)]
 simp only [dH, Option.bind_some]
 cases jx r.Name
 ·rfl
 simp only [if_true, Bool.true_and]
 by_cases h1 : 0 ≤ r.Pri ∧ r.Pri ≤ 9
 rotate_left
 ·rw [if_neg (by simpa using h1), decide_eq_false h1]; rfl
 rw [if_pos (by simpa using h1), decide_eq_true h1, Bool.true_and]
 by_cases h2 : 0 ≤ r.Mode ∧ r.Mode ≤ 4
 rotate_left
 ·rw [if_neg (by simpa using h2), decide_eq_false h2]; rfl
 rw [if_pos (by simpa using h2), decide_eq_true h2, Bool.true_and]
 cases jn r.Ex
 ·rfl
 simp only [if_true, Bool.true_and]
 by_cases h3 : 0 ≤ r.Low ∧ r.Low ≤ r.High
 rotate_left
 ·rw [if_neg (by simpa using h3), decide_eq_false (fun q => h3 ⟨q.1, q.2.1⟩)]; rfl
 rw [if_pos (by simpa using h3)]
 by_cases h4 : 100 < r.High
 ·rw [if_pos h4, decide_eq_false (fun q => by omega)]; rfl
 rw [if_neg h4, decide_eq_true (show 0 ≤ r.Low ∧ r.Low ≤ r.High ∧ r.High ≤ 100 by omega), Bool.true_and]
 by_cases h5 : 0 ≤ r.Key ∧ r.Key ≤ 3
 rotate_left
 ·rw [if_neg (by simpa using h5), decide_eq_false h5]; rfl
 rw [if_pos (by simpa using h5), decide_eq_true h5, Bool.true_and]
 by_cases h6 : -9 ≤ r.Add ∧ r.Add ≤ 9
 rotate_left
 ·rw [if_neg (by simpa using h6), decide_eq_false h6]; rfl
 rw [if_pos (by simpa using h6), decide_eq_true h6, Bool.true_and, Option.some.injEq, Bool.eq_iff_iff]
 simp
def jT (l : List GRule) (i : Nat) : Bool := match l[i]? with
 | some r => rOk r && (l.take i).all fun s => !rV s.Name r.Name
 | none => false
def d8 (l : List GRule) : Bool := decide (∀ i, i < l.length → jT l i = true) && decide (l.length ≤ 4)
theorem fy {l : List GRule} (h : d8 l = true) {r : GRule} (hr : r ∈ l) : nL r := by
 unfold d8 at h
 simp only [Bool.and_eq_true, decide_eq_true_eq] at h
 obtain ⟨i, hi, rfl⟩ := List.mem_iff_getElem.1 hr
 have := h.1 i hi
 unfold jT at this
 rw [List.getElem?_eq_getElem hi] at this
 simp only [Bool.and_eq_true] at this
 exact (tb _).1 this.1
theorem mL {l : List GRule} (h : d8 l = true) : l.length ≤ 4 := by
 unfold d8 at h
 simp only [Bool.and_eq_true, decide_eq_true_eq] at h
 exact h.2
theorem nL.small {r : GRule} (h : nL r) : lE r := by
 refine ⟨?_, by have := kk h.ex; omega⟩
 have := h.name
 unfold jx at this
 simp only [Bool.and_eq_true, decide_eq_true_eq] at this
 omega
theorem uN (k : Nat) (g1 : GRule → Option Bool) (p : GRule → Bool) (l : List GRule) (hl : l.length ≤ 1000000) (h : ∀ x ∈ l, g1 x = some (p x)) : ∀ (d n i : Nat), i + d = l.length → d < n →
  ∃ r, bf.l0 k g1 l n (i : Int) = some r ∧ ((∃ j : Int, r = .error j ∧ 0 ≤ j ∧ (l.drop i).any p = true) ∨ (r = .ok () ∧ (l.drop i).any p = false)) := by
 intro d
 induction d with
 | zero =>
  intro n i hi hn
  obtain ⟨n, rfl⟩ : ∃ m, n = m + 1 := ⟨n - 1, by omega⟩
  rw [bf.l0, if_neg (by omega), List.drop_eq_nil_of_le (by omega)]
  exact ⟨_, rfl, .inr ⟨rfl, rfl⟩⟩
 | succ d ih =>
  intro n i hi hn
  obtain ⟨n, rfl⟩ : ∃ m, n = m + 1 := ⟨n - 1, by omega⟩
  have hlt : i < l.length := by omega
  rw [bf.l0, if_pos (by omega), ae (by omega), Int.toNat_natCast, List.getElem?_eq_getElem hlt, List.drop_eq_getElem_cons hlt, List.any_cons]
  simp only [Option.bind_some]
  rw [h _ (List.getElem_mem hlt)]
  simp only [Option.bind_some]
  cases hp : p l[i]
  ·simp only [Bool.false_eq_true, if_false, Bool.false_or]
   rw [wrS i (by omega)]
   exact ih n (i + 1) (by omega) (by omega)
  ·exact ⟨_, rfl, .inl ⟨i, rfl, by omega, rfl⟩⟩
theorem yi (k : Nat) (hk : 2000000 ≤ k) (g1 : GRule → Option Bool) (p : GRule → Bool) (l : List GRule) (hl : l.length ≤ 1000000) (h : ∀ x ∈ l, g1 x = some (p x)) : cS.f g1 k l = some (l.any p) := by
 obtain ⟨r, e, h3⟩ := uN k g1 p l hl h l.length k 0 (by omega) (by omega)
 unfold cS.f bf.f
 rw [show (0 : Int) = ((0 : Nat) : Int) from rfl, e]
 simp only [List.drop_zero] at h3
 rcases h3 with ⟨j, rfl, hj, h4⟩ | ⟨rfl, h4⟩
 ·have : ¬ j < 0 := by omega
  simp [h4, this]
 ·simp [h4]
theorem Bj {α : Type} (p : α → Bool) (l : List α) : (l.all fun x => !p x) = !(l.any p) := by
 induction l with
 | nil => rfl
 | cons x l ih => rw [List.all_cons, List.any_cons, ih, Bool.not_or]
theorem m8 (k : Nat) (hk : 1000000000000 ≤ k) (l : List GRule) (hl : l.length ≤ 1000000) (h : ∀ r ∈ l, lE r) : ci.f k l = some (d8 l) := by
 have := j9 l.length (jT l) false (ci.l0 k l) (fun N => by rw [ci.l0, if_neg (by omega)])
  (fun N i hi => by
   rw [ci.l0, if_pos (by omega), ae (by omega), Int.toNat_natCast, List.getElem?_eq_getElem hi]
   simp only [Option.bind_some]
   rw [ol k hk _ (h _ (List.getElem_mem hi))]
   simp only [Option.bind_some]
   have hn : jT l i = (rOk l[i] && (l.take i).all fun s => !rV s.Name l[i].Name) := by unfold jT; rw [List.getElem?_eq_getElem hi]
   rw [hn]
   by_cases hb : rOk l[i] = true
   ·rw [if_pos hb, hb, Bool.true_and, ae (by omega), ae (by omega), ae (by omega), yi k (by omega) (fun y0 => fJ.f y0 l[i]) (fun s => rV s.Name l[i].Name) (l.take i) (by rw [List.length_take]; omega) (fun x _ => rfl)]
    simp only [Option.bind_some]
    rw [Bj]
    cases (l.take i).any fun s => rV s.Name l[i].Name
    ·simp only [Bool.false_eq_true, if_false, Bool.not_false, if_true]
     rw [wrS i (by omega)]
    ·rfl
   ·rw [if_neg hb]
    have : rOk l[i] = false := by simpa using hb
    rw [this]; rfl) k (by omega)
 unfold ci.f d8
 rw [this]
 by_cases h : ∀ i, i < l.length → jT l i = true
 ·rw [if_pos h, decide_eq_true h, Bool.true_and]
  simp only [Option.bind_some, Option.some.injEq]
  rw [Bool.eq_iff_iff]
  simp; omega
 ·rw [if_neg h, decide_eq_false h]; rfl
theorem sF (k : Nat) (g1 : GGraph → Option Bool) (l : List GGraph) (hl : l.length ≤ 1000000) (h : ∀ x ∈ l, g1 x = some false) : ∀ (d n i : Nat), i + d = l.length → d < n → a8.l0 k g1 l n (i : Int) = some (.ok ()) := by
 intro d
 induction d with
 | zero =>
  intro n i hi hn
  obtain ⟨n, rfl⟩ : ∃ m, n = m + 1 := ⟨n - 1, by omega⟩
  rw [a8.l0, if_neg (by omega)]
 | succ d ih =>
  intro n i hi hn
  obtain ⟨n, rfl⟩ : ∃ m, n = m + 1 := ⟨n - 1, by omega⟩
  have hlt : i < l.length := by omega
  rw [a8.l0, if_pos (by omega), ae (by omega), Int.toNat_natCast, List.getElem?_eq_getElem hlt]
  simp only [Option.bind_some]
  rw [h _ (List.getElem_mem hlt)]
  simp only [Option.bind_some, Bool.false_eq_true, if_false]
  rw [wrS i (by omega)]
  exact ih n (i + 1) (by omega) (by omega)
theorem vt (k : Nat) (hk : 2000000 ≤ k) (g1 : GGraph → Option Bool) (l : List GGraph) (hl : l.length ≤ 1000000) (h : ∀ x ∈ l, g1 x = some false) : cO.f g1 k l = some false := by
 have := sF k g1 l hl h l.length k 0 (by omega) (by omega)
 rw [show ((0 : Nat) : Int) = 0 from rfl] at this
 simp only [cO.f, a8.f, this, Option.bind_some]
 rfl
theorem tm (k : Nat) (g1 : GFire → Option Bool) (l : List GFire) (hl : l.length ≤ 1000000) (h : ∀ x ∈ l, g1 x = some false) : ∀ (d n i : Nat), i + d = l.length → d < n → bg.l0 k g1 l n (i : Int) = some (.ok ()) := by
 intro d
 induction d with
 | zero =>
  intro n i hi hn
  obtain ⟨n, rfl⟩ : ∃ m, n = m + 1 := ⟨n - 1, by omega⟩
  rw [bg.l0, if_neg (by omega)]
 | succ d ih =>
  intro n i hi hn
  obtain ⟨n, rfl⟩ : ∃ m, n = m + 1 := ⟨n - 1, by omega⟩
  have hlt : i < l.length := by omega
  rw [bg.l0, if_pos (by omega), ae (by omega), Int.toNat_natCast, List.getElem?_eq_getElem hlt]
  simp only [Option.bind_some]
  rw [h _ (List.getElem_mem hlt)]
  simp only [Option.bind_some, Bool.false_eq_true, if_false]
  rw [wrS i (by omega)]
  exact ih n (i + 1) (by omega) (by omega)
theorem wE (k : Nat) (hk : 2000000 ≤ k) (g1 : GFire → Option Bool) (l : List GFire) (hl : l.length ≤ 1000000) (h : ∀ x ∈ l, g1 x = some false) : cV.f g1 k l = some false := by
 have := tm k g1 l hl h l.length k 0 (by omega) (by omega)
 rw [show ((0 : Nat) : Int) = 0 from rfl] at this
 simp only [cV.f, bg.f, this, Option.bind_some]
 rfl
structure jD (e : GEng) : Prop where
 rules : d8 e.Rules = true
 len : e.Graphs.length = e.Rules.length
 evs : dQ e.Events = true
 graphs : ∀ g ∈ e.Graphs, jt (bv e.Events) e.Events.length g
 keys : e.Keys.length = 4 ∧ ∀ x ∈ e.Keys, 0 ≤ x ∧ x ≤ 1000
 fired : e.Fired.length ≤ 500000 + 2000 * e.Events.length ∧ ∀ f ∈ e.Fired, (0 ≤ f.Rule ∧ f.Rule < e.Rules.length) ∧ eK f.Occ = true ∧ eM e.Events.length f.Occ
theorem BN (k : Nat) (hk : 2000000000000 ≤ k) {e : GEng} (h : jD e) : ji.f k e = some true := by
 have hev := fO h.evs
 have hfew := mL h.rules
 have hlen := h.len
 unfold ji.f
 rw [m8 k (by omega) e.Rules (by omega) (fun r hr => (fy h.rules hr).small), h.rules]
 simp only [Option.bind_some, if_true]
 rw [if_pos (by rw [hlen]), evs_k k e.Events (by omega) (by omega), h.evs]
 simp only [Option.bind_some, if_true]
 rw [if_pos (by rw [h.keys.1]; rfl)]
 rw [vt k (by omega) (fun y0 => fA.f k y0 e) e.Graphs (by omega) (fun g hg => by
  simp only [fA.f, xJ k hk e (AW e.Events (by omega)) (h.graphs g hg)]
  rfl)]
 simp only [Option.bind_some, Bool.false_eq_true, if_false]
 rw [zt k (by omega) (fun y0 => fv.f y0) e.Keys (by rw [h.keys.1]; omega) (fun x hx => by
  have := h.keys.2 x hx
  simp only [fv.f, dH, Option.bind_some, Option.some.injEq, Bool.not_eq_false', Bool.and_eq_true, decide_eq_true_eq]
  exact this)]
 simp only [Option.bind_some, Bool.false_eq_true, if_false]
 rw [wE k (by omega) (fun y0 => fx.f k y0 e) e.Fired (by have := h.fired.1; omega) (fun f hf => by
  obtain ⟨h1, h2, h3⟩ := h.fired.2 f hf
  have hid : f.Occ.Ids.length ≤ 24 := dq ((fM f.Occ).1 h2).2.2.2.2
  obtain ⟨z, q1, _, q3⟩ := sy h3 (by omega)
  have e1 : ba.f f.Rule 0 (IntKind.wrap .i64 ((e.Rules.length : Int) - 1)) = some true := by
   rw [wr _ (by omega)]
   simp only [dH, Option.some.injEq, Bool.and_eq_true, decide_eq_true_eq]; omega
  simp only [fx.f, e1, Option.bind_some, if_true]
  rw [oC f.Occ (by omega) k (by omega), h2]
  simp only [Option.bind_some, if_true, q1, Option.some.injEq, Bool.not_eq_false', decide_eq_true_eq]
  exact q3)]
 rfl
theorem zq {a b : GOcc} (h : a.To < b.To) : bG a b = true := (w8 a b).2 (.inl h)
theorem pQ {l m : List GOcc} (hl : Asc l) (hm : Asc m) (h : ∀ x ∈ l, ∀ y ∈ m, x.To < y.To) : Asc (l ++ m) := List.pairwise_append.2 ⟨hl, hm, fun x hx y hy => zq (h x hx y hy)⟩
theorem sm : ∀ (m l : List GOcc), Asc (l ++ m) → bQ l m = l ++ m
 | [], l, _ => by simp [bQ]
 | o :: m, l, h => by
  have h1 : Asc ((l ++ [o]) ++ m) := by rw [List.append_assoc]; exact h
  have h2 := (List.pairwise_append.1 h1).1
  show bQ (bZ l o) m = _
  rw [uD (AM h2), sm m _ h1, List.append_assoc]; rfl
def ej (ns : List GNode) : Int := (ns.getLast?.map (·.Many)).getD 0
theorem sN {T : Int} {mode seen t : Int} {ev : Option Int} {es : List GEx} {ns : List GNode} (hR : Rep es ns) (h1 : 1 ≤ ns.length) : ej (aB mode seen t ev ns).1 = ej ns + ((fa (aB mode seen t ev ns).2).length : Nat) := by
 have pl := fP mode seen t ev ns
 have hi : ns.length - 1 < ns.length := by omega
 obtain ⟨p1, p2⟩ := kC (mode := mode) (seen := seen) (t := t) (ev := ev) hR (List.getElem?_eq_getElem hi)
 have k5 := (il (mode := mode) (seen := seen) (t := t) (ev := ev) (found := (aB mode seen t ev ns).2) (n := ns[ns.length - 1])).2.2.2.2
 unfold ej fa
 rw [List.getLast?_eq_getElem?, List.getLast?_eq_getElem?, List.getLast?_eq_getElem?, pl.1, pl.2, p1, p2, List.getElem?_eq_getElem hi]
 simp only [Option.map_some, Option.getD_some]
 show (aF mode seen t ev (aB mode seen t ev ns).2 ns[ns.length - 1]).1.Many + _ = _
 rw [k5]
theorem uz {mode seen before : Int} {es : List GEx} (hs : 0 ≤ seen ∧ seen ≤ 23) (T0 : Int) : ∀ (f : Nat) (ns : List GNode) (out : List GOcc) (T : Int), eN T es ns → T0 ≤ T → T < before → (before - T).toNat ≤ f → Asc out → (∀ o ∈ out, T0 < o.To ∧ o.To ≤ T) →
  (cC mode seen before f ns out).2.1 = false → Asc (cC mode seen before f ns out).2.2 ∧ (∀ o ∈ (cC mode seen before f ns out).2.2, T0 < o.To ∧ o.To < before) ∧ ej (cC mode seen before f ns out).1 + (out.length : Nat) = ej ns + ((cC mode seen before f ns out).2.2.length : Nat)
 | 0, ns, out, T, h, _, hT, hf, _, _, _ => by omega
 | f + 1, ns, out, T, h, h0, hT, hf, ha, ho, hno => by
  have nl := nN ns before
  unfold cC at hno ⊢
  by_cases hlt : cc ns before < before
  ·rw [if_pos hlt] at hno ⊢
   by_cases hfu : dE (aB mode seen (cc ns before) none ns).1 = true
   ·rw [if_pos hfu] at hno; cases hno
   ·rw [if_neg hfu] at hno ⊢
    have hT' : T < cc ns before := by
     rcases nI ns before with q | ⟨n, q1, o, q2, q3⟩
     ·omega
     ·rw [q3]; exact ((h.2.2 n q1).2.2.2.1 o q2).1
    have hfu' : dE (aB mode seen (cc ns before) none ns).1 = false := by simpa using hfu
    have hR := h.ready (t := cc ns before) (by omega)
    have pi := me (mode := mode) (ev := none) h (Int.le_of_lt hT') nl.2 hs hfu'
    obtain ⟨e, _, lf⟩ := lg (mode := mode) (ev := none) hR h.2.1.1 hs
    have rp := sN (T := T) (mode := mode) (seen := seen) (t := cc ns before) (ev := none) h.1 h.2.1.1
    obtain ⟨a, b, c⟩ := uz (mode := mode) hs T0 f _ (out ++ fa (aB mode seen (cc ns before) none ns).2) (cc ns before) pi (by omega) hlt (by omega)
     (pQ ha lf.1 (fun x hx y hy => by rw [lf.2.2.2 y hy]; have := (ho x hx).2; omega))
     (fun o hh => by rcases List.mem_append.1 hh with q | q; exact ⟨(ho o q).1, by have := (ho o q).2; omega⟩; rw [lf.2.2.2 o q]; omega) hno
    refine ⟨a, b, ?_⟩
    rw [List.length_append] at c
    omega
  ·rw [if_neg hlt] at hno ⊢
   exact ⟨ha, fun o hh => ⟨(ho o hh).1, by have := (ho o hh).2; omega⟩, rfl⟩
theorem zb {mode seen : Int} {es : List GEx} {ns ns' : List GNode} {e : GEv} {out : List GOcc} {T : Int} (h : eN T es ns) (hT : 0 ≤ T ∧ T < e.At ∧ e.At ≤ 1000) (hs : 0 ≤ seen ∧ seen ≤ 23) (hst : ge mode seen ns e = some (ns', out)) :
  eN e.At es ns' ∧ Ids out ∧ Asc out ∧ (∀ o ∈ out, T < o.To ∧ o.To ≤ e.At) ∧ ej ns' = ej ns + (out.length : Nat) ∧ 0 ≤ ej ns ∧ ej ns' ≤ 40 := by
 obtain ⟨i1, i2, _⟩ := v7 h hT hs hst
 unfold ge at hst
 split at hst
 ·cases hst
 split at hst
 ·cases hst
 rename_i h1 h2
 cases hst
 obtain ⟨T', a, b, c, d, f, g⟩ := oi (mode := mode) (before := e.At) hs 1001 ns [] T h hT.2.1 (by omega) (fun o hh => by simp at hh) (by simp) (by simpa using h1)
 obtain ⟨m1, m2, m3⟩ := uz (mode := mode) (before := e.At) hs T 1001 ns [] T h (Int.le_refl _) hT.2.1 (by omega) (by simp [Asc]) (fun o hh => by simp at hh) (by simpa using h1)
 have hR := c.ready (t := e.At) (by omega)
 obtain ⟨x, _, lf⟩ := lg (mode := mode) (ev := some e.Sym) hR c.2.1.1 hs
 have rp := sN (T := T) (mode := mode) (seen := seen) (t := e.At) (ev := some e.Sym) c.1 c.2.1.1
 refine ⟨i1, i2, pQ m1 lf.1 (fun x hx y hy => by rw [lf.2.2.2 y hy]; exact (m2 x hx).2), fun o hh => ?_, ?_, ?_, ?_⟩
 ·rcases List.mem_append.1 hh with q | q
  ·have := m2 o q; omega
  ·rw [lf.2.2.2 o q]; omega
 ·rw [rp, List.length_append]
  simp only [List.length_nil] at m3
  omega
 ·unfold ej
  cases hq : ns.getLast? with
  | none => simp
  | some m => have := (h.2.2 m (List.mem_of_getLast? hq)).2.1.1; simpa using this
 ·unfold ej
  cases hq : (aB mode seen e.At (some e.Sym) (cC mode seen e.At 1001 ns []).1).1.getLast? with
  | none => simp
  | some m => have := (i1.2.2 m (List.mem_of_getLast? hq)).2.1.2; simpa using this
theorem y4 : ∀ e : GEx, exN e ≤ 1000000 → ∀ k : Nat, 1000000000000 + exN e ≤ k → bu.f k e = some e := by
 refine lX fun e ih hn k hk => ?_
 rw [cA] at hn hk
 obtain ⟨k, rfl⟩ : ∃ m, k = m + 1 := ⟨k - 1, by omega⟩
 have hq := fh e.Kids
 have := jM e.Kids id (bu.l0 k (bu.f k) e) (fun N acc => by rw [bu.l0, if_neg (by omega)])
  (fun N acc i h ha => by
   have hm := ec (List.getElem_mem h)
   rw [bu.l0, if_pos (by omega), ae (by omega), Int.toNat_natCast, List.getElem?_eq_getElem h]
   simp only [Option.bind_some]
   rw [ih _ (List.getElem_mem h) (by omega) k (by omega)]
   simp only [Option.bind_some]
   rw [ae (by omega), wrS i (by omega)]; rfl) k (by omega)
 rw [bu.f, this, List.map_id]; cases e; rfl
theorem oW (k : Nat) (hk : 2000000000000 ≤ k) (l : List GRule) (hl : l.length ≤ 1000000) (h : ∀ r ∈ l, exN r.Ex ≤ 1000000) : bI.f k l = some l := by
 have := jM l id (bI.l0 k l) (fun N acc => by rw [bI.l0, if_neg (by omega)])
  (fun N acc i hi ha => by
   have hm := h _ (List.getElem_mem hi)
   rw [bI.l0, if_pos (by omega), ae (by omega), Int.toNat_natCast, List.getElem?_eq_getElem hi]
   simp only [Option.bind_some, gI.f]
   rw [y4 _ hm k (by omega)]
   simp only [Option.bind_some]
   rw [ae (by omega), wrS i (by omega)]
   generalize l[i] = z
   obtain ⟨a, b, c, ⟨d1, d2, d3, d4⟩, e, f, g, u, v⟩ := z
   rfl) k (by omega)
 unfold bI.f
 rw [this, List.map_id]; rfl
theorem oJ (k : Nat) (hk : 2000000000000 ≤ k) (l : List GFire) (hl : l.length ≤ 1000000) (h : ∀ f ∈ l, Few f.Occ) : bH.f k l = some l := by
 have := jM l id (bH.l0 k l) (fun N acc => by rw [bH.l0, if_neg (by omega)])
  (fun N acc i hi ha => by
   rw [bH.l0, if_pos (by omega), ae (by omega), Int.toNat_natCast, List.getElem?_eq_getElem hi]
   simp only [Option.bind_some]
   rw [pV _ (h _ (List.getElem_mem hi))]
   simp only [Option.bind_some]
   rw [ae (by omega), wrS i (by omega)]; rfl) k (by omega)
 unfold bH.f
 rw [this, List.map_id]; rfl
def Aq (n : GNode) : Prop := n.Kids.length ≤ 1000 ∧ (∀ l ∈ [n.Pair.Left, n.Pair.Right, n.Span.Left, n.Span.Mid, n.Due], l.length ≤ 1000 ∧ iV l)
theorem wZ (k : Nat) (hk : 1000000000000 ≤ k) (n : GNode) (h : Aq n) : eT.f k n = some n := by
 have c : ∀ l ∈ [n.Pair.Left, n.Pair.Right, n.Span.Left, n.Span.Mid, n.Due], bc.f k l = some l := fun l hl => qh k hk l (by have := (h.2 l hl).1; omega) (h.2 l hl).2
 have h1 := h.1
 unfold eT.f gG.f gJ.f
 rw [ae (by omega), c _ (by simp), c _ (by simp), c _ (by simp), c _ (by simp), c _ (by simp)]
 rfl
theorem vB (k : Nat) (hk : 1000000000000 ≤ k) (g : GGraph) (hl : g.Nodes.length ≤ 1000) (h : ∀ n ∈ g.Nodes, Aq n) : bK.f k g = some g := by
 have := jM g.Nodes id (bK.l0 k g) (fun N acc => by rw [bK.l0, if_neg (by omega)])
  (fun N acc i hi ha => by
   rw [bK.l0, if_pos (by omega), ae (by omega), Int.toNat_natCast, List.getElem?_eq_getElem hi]
   simp only [Option.bind_some]
   rw [wZ k hk _ (h _ (List.getElem_mem hi))]
   simp only [Option.bind_some]
   rw [ae (by omega), wrS i (by omega)]; rfl) k (by omega)
 unfold bK.f
 rw [this, List.map_id]; rfl
theorem jt.slim {now : Int} {seen : Nat} {g : GGraph} (h : jt now seen g) : g.Nodes.length ≤ 12 ∧ ∀ n ∈ g.Nodes, Aq n := by
 obtain ⟨es, hi⟩ := h.inv
 refine ⟨hi.2.1.2, fun n hn => ⟨by have := hi.1.kids3 n hn; omega, ?_⟩⟩
 obtain ⟨o1, o2, o3, o4, o5⟩ := rf hi hn (h.made n hn) h.late
 intro l hl
 simp only [List.mem_cons, List.not_mem_nil, or_false] at hl
 have one : ∀ {l}, da l = true → l.length ≤ 1000 ∧ iV l := fun q => ⟨by have := kZ q; omega, sj q⟩
 rcases hl with rfl | rfl | rfl | rfl | rfl
 ·exact one o1
 ·exact one o2
 ·exact one o3
 ·exact one o4
 ·exact one o5
theorem xE (l : List GEv) (hl : l.length ≤ 1000) : gl.f l = some l := by
 unfold gl.f; rw [ae (by omega)]
theorem oT (k : Nat) (hk : 2000000000000 ≤ k) {e : GEng} (h : jD e) : bF.f k e = some e := by
 have hev := fO h.evs
 have hfew := mL h.rules
 have hlen := h.len
 have hf := h.fired.1
 have hk4 := h.keys.1
 have := jM e.Graphs id (bF.l0 k e) (fun N acc => by rw [bF.l0, if_neg (by omega)])
  (fun N acc i hi ha => by
   have g := (h.graphs _ (List.getElem_mem hi)).slim
   rw [bF.l0, if_pos (by omega), ae (by omega), Int.toNat_natCast, List.getElem?_eq_getElem hi]
   simp only [Option.bind_some]
   rw [vB k (by omega) _ (by omega) g.2]
   simp only [Option.bind_some]
   rw [ae (by omega), wrS i (by omega)]; rfl) k (by omega)
 unfold bF.f
 rw [oW k hk e.Rules (by omega) (fun r hr => (fy h.rules hr).small.2), xE e.Events (by omega)]
 simp only [Option.bind_some]
 rw [ae (by omega), oJ k hk e.Fired (by omega) (fun f hf => by
  have := dq ((fM f.Occ).1 (h.fired.2 f hf).2.1).2.2.2.2
  show f.Occ.Ids.length ≤ 1000; omega)]
 simp only [Option.bind_some]
 rw [this, List.map_id]; rfl
/-- the graph of a rule, before anything has happened -/
def sJ (r : GRule) : GGraph := ⟨r.Mode, (ei r.Ex []).2, 0, 0, false⟩
def mq (l : List GRule) : GEng := ⟨l, l.map sJ, [], vi, []⟩
theorem AI (k : Nat) (hk : 2000000000000 ≤ k) {r : GRule} (h : nL r) : eE.f k r.Ex r.Mode = some (sJ r) := by
 rw [m9 k hk r.Ex r.Mode h.small.2, if_pos ⟨h.ex, h.mode⟩]; rfl
theorem BA (k : Nat) (hk : 2000000000000 ≤ k) (l : List GRule) (hl : l.length ≤ 1000000) (hs : ∀ r ∈ l, lE r) : cv.f k l = some (if d8 l = true then mq l else ⟨[], [], [], [], []⟩) := by
 unfold cv.f
 rw [m8 k (by omega) l hl hs]
 simp only [Option.bind_some]
 by_cases h : d8 l = true
 ·rw [if_pos h, if_pos h, oW k hk l hl (fun r hr => (hs r hr).2)]
  simp only [Option.bind_some]
  rw [ae (by omega), ae (by omega), ae (by omega)]
  have := jM l sJ (cv.l0 k l) (fun N acc => by rw [cv.l0, if_neg (by omega)])
   (fun N acc i hi ha => by
    rw [cv.l0, if_pos (by omega), ae (by omega), Int.toNat_natCast, List.getElem?_eq_getElem hi]
    simp only [Option.bind_some]
    rw [AI k hk (fy h (List.getElem_mem hi))]
    simp only [Option.bind_some]
    rw [ae (by omega), wrS i (by omega)]) k (by omega)
  rw [this]; rfl
 ·rw [if_neg h, if_neg h]
theorem zO {r : GRule} (h : nL r) : jt 0 0 (sJ r) := by
 have hf := kk h.ex
 obtain ⟨es, hG, _⟩ := ui (x := r.Ex) ⟨hf.2, hf.1⟩
 obtain ⟨es', nx, a1, a2, a3, a4, _⟩ := mV r.Ex ⟨hf.2, hf.1⟩ [] [] pR
 rw [List.nil_append] at a1
 refine ⟨⟨es, hG⟩, by omega, rfl, rfl, by omega, h.mode, rfl, fun n hn => ?_⟩
 have hn' : n ∈ nx := by rw [← a1]; exact hn
 obtain ⟨f1, f2, f3, f4⟩ := a4 n hn'
 unfold iR
 rw [f1, f2, f3]
 exact ⟨All.nil, All.nil, All.nil, All.nil, All.nil⟩
theorem Bd {l : List GRule} (h : d8 l = true) : jD (mq l) := by
 refine ⟨h, by simp [mq], rfl, fun g hg => ?_, ⟨rfl, fun x hx => ?_⟩, by simp [mq], fun f hf => by simp [mq] at hf⟩
 ·obtain ⟨r, hr, rfl⟩ := List.mem_map.1 hg
  exact zO (fy h hr)
 ·have : x = 0 := by simp [mq, vi] at hx; exact hx
  omega
def jv (o : GOcc) : Int := o.Ids.getLast?.getD 0
theorem yJ {s : Int} {o : GOcc} (h : eM s o) (hl : o.Ids.length ≤ 1000) : dg.f o = some (jv o) ∧ jv o ∈ o.Ids := by
 have h1 := List.length_pos_iff.2 h.2.2.1
 obtain ⟨m, hm⟩ : ∃ m, o.Ids.length = m + 1 := ⟨o.Ids.length - 1, by omega⟩
 unfold dg.f jv
 rw [List.getLast?_eq_getElem?, hm, wrP m (by omega), ae (by omega), Int.toNat_natCast, Nat.add_sub_cancel, List.getElem?_eq_getElem (by omega)]
 exact ⟨rfl, List.getElem_mem _⟩
def gH (e : GEng) (i : Nat) (o : GOcc) (q : Graiser) : Int × GEng × Graiser :=
 match e.Rules[i]?, e.Events[(jv o).toNat]? with
 | some r, some x => if r.Low ≤ x.Val ∧ x.Val ≤ r.High then
   (if 0 ≤ e.Keys.getD r.Key.toNat 0 + r.Add ∧ e.Keys.getD r.Key.toNat 0 + r.Add ≤ 1000 then
    (if r.Raise < 0 then (0, ⟨e.Rules, e.Graphs, e.Events, e.Keys.set r.Key.toNat (e.Keys.getD r.Key.toNat 0 + r.Add), e.Fired ++ [⟨(i : Int), o⟩]⟩, q)
     else if q.raised = 6 then (1, ⟨e.Rules, e.Graphs, e.Events, e.Keys.set r.Key.toNat (e.Keys.getD r.Key.toNat 0 + r.Add), e.Fired ++ [⟨(i : Int), o⟩]⟩, q)
     else (0, ⟨e.Rules, e.Graphs, e.Events, e.Keys.set r.Key.toNat (e.Keys.getD r.Key.toNat 0 + r.Add), e.Fired ++ [⟨(i : Int), o⟩]⟩, ⟨q.queue ++ [⟨r.Raise, 0, x.Val⟩], q.raised + 1⟩))
    else (3, e, q))
  else (0, e, q)
 | _, _ => (0, e, q)
def gf (i : Nat) : List GOcc → GEng → Graiser → Int × GEng × Graiser
 | [], e, q => (0, e, q)
 | o :: l, e, q => if (gH e i o q).1 = 0 then gf i l (gH e i o q).2.1 (gH e i o q).2.2 else gH e i o q
def nC (x : GEv) (i : Nat) (e : GEng) (q : Graiser) : Int × GEng × Graiser := match e.Graphs[i]? with
 | some g => (match ge g.Mode g.Seen g.Nodes x with
  | some r => gf i r.2 ⟨e.Rules, e.Graphs.set i ⟨g.Mode, r.1, g.Seen + 1, x.At, false⟩, e.Events, e.Keys, e.Fired⟩ q
  | none => (2, ⟨e.Rules, e.Graphs.set i ⟨g.Mode, [], g.Seen + 1, x.At, true⟩, e.Events, e.Keys, e.Fired⟩, q))
 | none => (0, e, q)
def eX (x : GEv) : List Int → GEng → Graiser → Int × GEng × Graiser
 | [], e, q => (0, e, q)
 | i :: l, e, q => if (nC x i.toNat e q).1 = 0 then eX x l (nC x i.toNat e q).2.1 (nC x i.toNat e q).2.2 else nC x i.toNat e q
def bk (e : GEng) (x : GEv) (q : Graiser) : Int × GEng × Graiser :=
 if e.Events.length = 24 ∨ 1000 < x.At then (2, e, q) else eX x (ft e.Rules) ⟨e.Rules, e.Graphs, e.Events ++ [x], e.Keys, e.Fired⟩ q
def dI : Nat → GEng → Graiser → Int → Int × GEng
 | 0, e, _, _ => (0, e)
 | f + 1, e, q, s => match q.queue with
  | [] => (0, e)
  | x :: r => if (bk e ⟨x.Sym, bv e.Events + s, x.Val⟩ ⟨r, q.raised⟩).1 = 0 then dI f (bk e ⟨x.Sym, bv e.Events + s, x.Val⟩ ⟨r, q.raised⟩).2.1 (bk e ⟨x.Sym, bv e.Events + s, x.Val⟩ ⟨r, q.raised⟩).2.2 1
   else ((bk e ⟨x.Sym, bv e.Events + s, x.Val⟩ ⟨r, q.raised⟩).1, (bk e ⟨x.Sym, bv e.Events + s, x.Val⟩ ⟨r, q.raised⟩).2.1)
def fp (e : GEng) (sym gap val : Int) : GEng × Int × List GFire :=
 if (dI 8 e ⟨[⟨sym, 0, val⟩], 0⟩ gap).1 = 0 then ((dI 8 e ⟨[⟨sym, 0, val⟩], 0⟩ gap).2, 0, (dI 8 e ⟨[⟨sym, 0, val⟩], 0⟩ gap).2.Fired.drop e.Fired.length)
 else (e, (dI 8 e ⟨[⟨sym, 0, val⟩], 0⟩ gap).1, [])
/-- what is kept while rules fire -/
structure Own (c : Nat) (e : GEng) : Prop where
 rules : d8 e.Rules = true
 evs : dQ e.Events = true
 keys : e.Keys.length = 4 ∧ ∀ x ∈ e.Keys, 0 ≤ x ∧ x ≤ 1000
 fired : e.Fired.length ≤ c ∧ ∀ f ∈ e.Fired, (0 ≤ f.Rule ∧ f.Rule < e.Rules.length) ∧ eK f.Occ = true ∧ eM e.Events.length f.Occ
structure QI (m : Int) (q : Graiser) : Prop where
 evs : ∀ e ∈ q.queue, 0 ≤ e.Sym ∧ e.Sym < 5 ∧ 0 ≤ e.Val ∧ e.Val ≤ 100
 raised : 0 ≤ q.raised ∧ q.raised ≤ 6
 sum : (q.queue.length : Int) + 6 ≤ m + q.raised
/-- what firing leaves as it was -/
structure iN (e f : GEng) : Prop where
 rules : f.Rules = e.Rules
 graphs : f.Graphs = e.Graphs
 evs : f.Events = e.Events
 fired : ∃ more, f.Fired = e.Fired ++ more
theorem iN.refl (e : GEng) : iN e e := ⟨rfl, rfl, rfl, [], by simp⟩
theorem iN.trans {a b c : GEng} (h : iN a b) (g : iN b c) : iN a c := by
 obtain ⟨m, hm⟩ := h.fired
 obtain ⟨n, hn⟩ := g.fired
 exact ⟨g.rules.trans h.rules, g.graphs.trans h.graphs, g.evs.trans h.evs, m ++ n, by rw [hn, hm, List.append_assoc]⟩
theorem uu {l : List GEv} (h : dQ l = true) {x : GEv} (hx : x ∈ l) : 0 ≤ x.Val ∧ x.Val ≤ 100 := by
 have := nQ h hx
 unfold jP at this
 simp only [Bool.and_eq_true, decide_eq_true_eq] at this
 omega
theorem AE {l : List Int} (h : l.length = 4 ∧ ∀ x ∈ l, 0 ≤ x ∧ x ≤ 1000) (i : Nat) {v : Int} (hv : 0 ≤ v ∧ v ≤ 1000) : (l.set i v).length = 4 ∧ ∀ x ∈ l.set i v, 0 ≤ x ∧ x ≤ 1000 := by
 refine ⟨by rw [List.length_set]; exact h.1, fun x hx => ?_⟩
 rcases List.mem_or_eq_of_mem_set hx with q | q
 ·exact h.2 x q
 ·rw [q]; exact hv
theorem BG {c : Nat} {m : Int} {e : GEng} {q : Graiser} (h : Own c e) (hc : c ≤ 900000) (hq : QI m q) (hm : m ≤ 100) {i : Nat} (hi : i < e.Rules.length) {o : GOcc} (ho : eK o = true) (hmd : eM e.Events.length o) :
  gh.f e (i : Int) o q = some (gH e i o q) ∧ Own (c + 1) (gH e i o q).2.1 ∧ iN e (gH e i o q).2.1 ∧ QI m (gH e i o q).2.2 := by
 have hids := ((fM o).1 ho).2.2.2.2
 have hil := dq hids
 obtain ⟨lk, lm⟩ := yJ hmd (by omega)
 have l0 := (hids.2 _ lm).1
 have l1 := hmd.2.2.2 _ lm
 have hlt : (jv o).toNat < e.Events.length := by omega
 have hr := fy h.rules (List.getElem_mem hi)
 have hev := uu h.evs (List.getElem_mem hlt)
 have hkl := h.keys.1
 have hkey := hr.key
 have hadd := hr.add
 have hraise := hr.raise
 have hfl := h.fired.1
 have hkn : (e.Rules[i]).Key.toNat < e.Keys.length := by omega
 have hk0 := h.keys.2 _ (List.getElem_mem hkn)
 have hg : e.Keys.getD (e.Rules[i]).Key.toNat 0 = e.Keys[(e.Rules[i]).Key.toNat] := by rw [List.getD_eq_getElem?_getD, List.getElem?_eq_getElem hkn]; rfl
 have hz : Own (c + 1) e := ⟨h.rules, h.evs, h.keys, by omega, h.fired.2⟩
 unfold gh.f fF.f gH
 rw [ae (by omega), Int.toNat_natCast, List.getElem?_eq_getElem hi, lk, List.getElem?_eq_getElem hlt]
 simp only [Option.bind_some]
 rw [ae (by omega), List.getElem?_eq_getElem hlt]
 simp only [Option.bind_some]
 rw [dH]
 simp only [Option.bind_some]
 by_cases h1 : (e.Rules[i]).Low ≤ (e.Events[(jv o).toNat]).Val ∧ (e.Events[(jv o).toNat]).Val ≤ (e.Rules[i]).High
 rotate_left
 ·rw [if_neg (by simpa using h1), if_neg h1]
  exact ⟨rfl, hz, iN.refl e, hq⟩
 rw [if_pos (by simpa using h1), if_pos h1, ae (by omega), ae (by omega), List.getElem?_eq_getElem hkn]
 simp only [Option.bind_some]
 rw [wr _ (by omega), dH, hg]
 simp only [Option.bind_some]
 by_cases h2 : 0 ≤ e.Keys[(e.Rules[i]).Key.toNat] + (e.Rules[i]).Add ∧ e.Keys[(e.Rules[i]).Key.toNat] + (e.Rules[i]).Add ≤ 1000
 rotate_left
 ·rw [if_neg (by simpa using h2), if_neg h2]
  exact ⟨rfl, hz, iN.refl e, hq⟩
 rw [if_pos (by simpa using h2), if_pos h2, ae (by omega), ae (by omega), ae (by omega), ae (by omega), ae (by omega)]
 have hown : Own (c + 1) ⟨e.Rules, e.Graphs, e.Events, e.Keys.set (e.Rules[i]).Key.toNat (e.Keys[(e.Rules[i]).Key.toNat] + (e.Rules[i]).Add), e.Fired ++ [⟨(i : Int), o⟩]⟩ := by
  refine ⟨h.rules, h.evs, AE h.keys _ h2, by rw [List.length_append, List.length_singleton]; omega, fun f hf => ?_⟩
  rcases List.mem_append.1 hf with p | p
  ·exact h.fired.2 f p
  ·rw [List.mem_singleton.1 p]; exact ⟨⟨by show (0 : Int) ≤ (i : Int); omega, by show (i : Int) < (e.Rules.length : Nat); omega⟩, ho, hmd⟩
 have hsame : iN e ⟨e.Rules, e.Graphs, e.Events, e.Keys.set (e.Rules[i]).Key.toNat (e.Keys[(e.Rules[i]).Key.toNat] + (e.Rules[i]).Add), e.Fired ++ [⟨(i : Int), o⟩]⟩ := ⟨rfl, rfl, rfl, _, rfl⟩
 by_cases h3 : (e.Rules[i]).Raise < 0
 ·rw [if_pos h3, if_pos h3]
  exact ⟨rfl, hown, hsame, hq⟩
 rw [if_neg h3, if_neg h3]
 by_cases h4 : q.raised = 6
 ·rw [if_pos h4, if_pos h4]
  exact ⟨rfl, hown, hsame, hq⟩
 rw [if_neg h4, if_neg h4]
 have hqr := hq.raised
 have hqs := hq.sum
 rw [ae (by omega), wr _ (by omega)]
 refine ⟨rfl, hown, hsame, fun x hx => ?_, by dsimp only; omega, by dsimp only; rw [List.length_append, List.length_singleton]; omega⟩
 rcases List.mem_append.1 hx with p | p
 ·exact hq.evs x p
 ·rw [List.mem_singleton.1 p]; dsimp only; omega
abbrev Flat := (List GRule) × (List GGraph) × (List GEv) × (List Int) × (List GFire) × (List GEv) × Int
def AX (e : GEng) (q : Graiser) : Flat := (e.Rules, e.Graphs, e.Events, e.Keys, e.Fired, q.queue, q.raised)
def exM (r : Int × GEng × Graiser) : Except (Int × GEng × Graiser) Flat := if r.1 = 0 then .ok (AX r.2.1 r.2.2) else .error r
theorem Bt (k : Nat) (i : Nat) (y : (List GOcc) × GGraph) (m : Int) (hm : m ≤ 100) (hy : y.1.length ≤ 1000) : ∀ (d j N : Nat) (e : GEng) (q : Graiser) (c : Nat), j + d = y.1.length → d < N → Own c e → c + d ≤ 900000 → QI m q → i < e.Rules.length → (∀ o ∈ y.1, eK o = true ∧ eM e.Events.length o) →
  aP.l3 k (i : Int) y N e.Rules e.Graphs e.Events e.Keys e.Fired q.queue q.raised (j : Int) = some (exM (gf i (y.1.drop j) e q)) ∧ Own (c + d) (gf i (y.1.drop j) e q).2.1 ∧ iN e (gf i (y.1.drop j) e q).2.1 ∧ QI m (gf i (y.1.drop j) e q).2.2 := by
 intro d
 induction d with
 | zero =>
  intro j N e q c hj hN ho hc hq hi hF
  obtain ⟨N, rfl⟩ : ∃ n, N = n + 1 := ⟨N - 1, by omega⟩
  rw [aP.l3, if_neg (by omega), List.drop_eq_nil_of_le (by omega)]
  exact ⟨rfl, ho, iN.refl e, hq⟩
 | succ d ih =>
  intro j N e q c hj hN ho hc hq hi hF
  obtain ⟨N, rfl⟩ : ∃ n, N = n + 1 := ⟨N - 1, by omega⟩
  have hlt : j < y.1.length := by omega
  have hf := hF _ (List.getElem_mem hlt)
  obtain ⟨f1, f2, f3, f4⟩ := BG ho (by omega) hq hm hi hf.1 hf.2
  rw [aP.l3, if_pos (by omega), ae (by omega), ae (by omega), Int.toNat_natCast, List.getElem?_eq_getElem hlt]
  simp only [Option.bind_some]
  rw [show (⟨e.Rules, e.Graphs, e.Events, e.Keys, e.Fired⟩ : GEng) = e from rfl, show (⟨q.queue, q.raised⟩ : Graiser) = q from rfl, f1]
  simp only [Option.bind_some]
  rw [List.drop_eq_getElem_cons hlt]
  unfold gf
  by_cases h0 : (gH e i y.1[j] q).1 = 0
  ·rw [if_pos h0, if_pos h0, wrS j (by omega)]
   obtain ⟨g1, g2, g3, g4⟩ := ih (j + 1) N (gH e i y.1[j] q).2.1 (gH e i y.1[j] q).2.2 (c + 1) (by omega) (by omega) f2 (by omega) f4 (by rw [f3.rules]; exact hi) (fun o hh => by rw [f3.evs]; exact hF o hh)
   exact ⟨g1, by rw [show c + (d + 1) = c + 1 + d by omega]; exact g2, f3.trans g3, g4⟩
  ·rw [if_neg h0, if_neg h0]
   refine ⟨?_, ⟨f2.rules, f2.evs, f2.keys, by have := f2.fired.1; omega, f2.fired.2⟩, f3, f4⟩
   unfold exM
   rw [if_neg h0]
theorem A8 {T : Int} {es : List GEx} {ns : List GNode} (h : eN T es ns) : ∀ n ∈ ns, 0 ≤ n.N := fun n hn => by
 obtain ⟨i, hi, rfl⟩ := List.mem_iff_getElem.1 hn
 obtain ⟨e, he, hx, hR⟩ := h.1.2 i ns[i] (List.getElem?_eq_getElem hi)
 have hh : eD e = true := by have := hx.1; rw [kn] at this; simp only [Bool.and_eq_true] at this; exact this.1
 unfold eD at hh
 simp only [Bool.and_eq_true, decide_eq_true_eq, Bool.or_eq_true] at hh
 have hN := hh.2
 rw [hR.2.2.1]
 split at hN
 ·simp only [Bool.and_eq_true, decide_eq_true_eq] at hN; omega
 ·simp only [decide_eq_true_eq] at hN; omega
/-- an event at a rule's graph -/
theorem sx (k : Nat) (hk : 1000000000000 ≤ k) {now : Int} {seen : Nat} {g : GGraph} (h : jt now seen g) (hs : seen ≤ 23) {x : GEv} (hx : now < x.At ∧ x.At ≤ 1000) :
  bz.f k g x = some (match ge g.Mode g.Seen g.Nodes x with | none => ([], ⟨g.Mode, [], g.Seen + 1, x.At, true⟩) | some r => (r.2, ⟨g.Mode, r.1, g.Seen + 1, x.At, false⟩)) ∧
  ∀ r, ge g.Mode g.Seen g.Nodes x = some r → jt x.At (seen + 1) ⟨g.Mode, r.1, g.Seen + 1, x.At, false⟩ ∧ r.2.length ≤ 40 ∧ (∀ o ∈ r.2, eK o = true ∧ eM ((seen + 1 : Nat) : Int) o) ∧ Asc r.2 ∧ (∀ o ∈ r.2, now < o.To ∧ o.To ≤ x.At) ∧ ej r.1 = ej g.Nodes + (r.2.length : Nat) ∧ 0 ≤ ej g.Nodes ∧ ej r.1 ≤ 40 := by
 obtain ⟨es, hi⟩ := h.inv
 have hl := h.late
 have hse := h.seen'
 have hT : 0 ≤ now ∧ now < x.At ∧ x.At ≤ 1000 := ⟨hl.1, hx.1, hx.2⟩
 have hS : 0 ≤ g.Seen ∧ g.Seen ≤ 23 := by omega
 refine ⟨xj k hk x g es now hi hT hS h.full, fun r hr => ?_⟩
 obtain ⟨r1, r2⟩ := r
 obtain ⟨m1, m2, m3, m4, m5, m6, m7⟩ := zb hi hT hS hr
 have hN := A8 hi
 obtain ⟨a1, a2, a3⟩ := Ap (xQ ((seen + 1 : Nat) : Int)) (mode := g.Mode) (seen := g.Seen) (e := x) (ns := g.Nodes) ⟨by dsimp only; omega, by dsimp only; omega, by simp, fun z hz => by rw [List.mem_singleton.1 hz]; omega⟩ (fun n hn o ho => yB (hN n hn) ho)
  (fun n hn => by
   obtain ⟨b1, b2, b3, b4, b5⟩ := h.made n hn
   have mn : ∀ {l}, All (eM seen) l → All (eM ((seen + 1 : Nat) : Int)) l := fun q o ho => (q o ho).mono (by omega)
   exact ⟨mn b1, mn b2, mn b3, mn b4, mn b5⟩) hr
 refine ⟨⟨⟨es, m1⟩, by omega, rfl, by dsimp only; omega, by omega, h.mode, rfl, a2⟩, by dsimp only at m5 m7 ⊢; omega, fun o ho => ⟨?_, a3 o ho⟩, m3, m4, m5, m6, m7⟩
 have md := a3 o ho
 have mt := m4 o ho
 exact (fM o).2 ⟨md.1, md.2.1, by omega, by have := List.length_pos_iff.2 md.2.2.1; omega, m2 o ho⟩
structure Mid (e0 : GEng) (x : GEv) (left : List Int) (e : GEng) : Prop where
 rules : e.Rules = e0.Rules
 evs : e.Events = e0.Events ++ [x]
 len : e.Graphs.length = e0.Rules.length
 old : ∀ i : Nat, (i : Int) ∈ left → e.Graphs[i]? = e0.Graphs[i]?
 new : ∀ i : Nat, (i : Int) ∉ left → ∀ g, e.Graphs[i]? = some g → jt x.At (e0.Events.length + 1) g
theorem Bl (k : Nat) (hk : 1000000000000 ≤ k) {e0 : GEng} (h0 : jD e0) {x : GEv} (hx : bv e0.Events < x.At ∧ x.At ≤ 1000) (h23 : e0.Events.length ≤ 23) (m : Int) (hm : m ≤ 100) (os : List Int) (hos : ∀ i ∈ os, ∃ j : Nat, j < e0.Rules.length ∧ i = j) (hnd : os.Nodup) (hol : os.length ≤ 4) :
  ∀ (d j N : Nat) (e : GEng) (q : Graiser) (c : Nat), j + d = os.length → d < N → Mid e0 x (os.drop j) e → Own c e → c + 40 * d ≤ 800000 → QI m q →
  aP.l2 k x os N e.Rules e.Graphs e.Events e.Keys e.Fired q.queue q.raised (j : Int) = some (exM (eX x (os.drop j) e q)) ∧
  ((eX x (os.drop j) e q).1 = 0 → Mid e0 x [] (eX x (os.drop j) e q).2.1 ∧ Own (c + 40 * d) (eX x (os.drop j) e q).2.1 ∧ QI m (eX x (os.drop j) e q).2.2 ∧ ∃ more, (eX x (os.drop j) e q).2.1.Fired = e.Fired ++ more) := by
 intro d
 induction d with
 | zero =>
  intro j N e q c hj hN hM ho hc hq
  obtain ⟨N, rfl⟩ : ∃ n, N = n + 1 := ⟨N - 1, by omega⟩
  rw [List.drop_eq_nil_of_le (by omega)] at hM ⊢
  rw [aP.l2, if_neg (by omega)]
  exact ⟨rfl, fun _ => ⟨hM, ho, hq, [], by simp [eX]⟩⟩
 | succ d ih =>
  intro j N e q c hj hN hM ho hc hq
  obtain ⟨N, rfl⟩ : ∃ n, N = n + 1 := ⟨N - 1, by omega⟩
  have hlt : j < os.length := by omega
  obtain ⟨i, hi, he⟩ := hos _ (List.getElem_mem hlt)
  have hdrop : os.drop j = (i : Int) :: os.drop (j + 1) := by rw [List.drop_eq_getElem_cons hlt, he]
  have hnot : (i : Int) ∉ os.drop (j + 1) := by
   have : (os.drop j).Nodup := hnd.sublist (List.drop_sublist j os)
   rw [hdrop] at this
   exact (List.nodup_cons.1 this).1
  rw [hdrop] at hM ⊢
  have hgl := hM.len
  have hig : i < e.Graphs.length := by omega
  have hig0 : i < e0.Graphs.length := by rw [h0.len]; exact hi
  have hge : e.Graphs[i]? = some e0.Graphs[i] := by rw [hM.old i (by simp), List.getElem?_eq_getElem hig0]
  obtain ⟨s1, s2⟩ := sx k hk (h0.graphs _ (List.getElem_mem hig0)) h23 hx
  rw [aP.l2, if_pos (by omega), ae (by omega), ae (by omega), Int.toNat_natCast, List.getElem?_eq_getElem hlt]
  simp only [Option.bind_some]
  rw [he, ae (by omega), ae (by omega), Int.toNat_natCast, hge]
  simp only [Option.bind_some]
  rw [s1]
  unfold eX nC
  rw [Int.toNat_natCast, hge]
  simp only []
  cases hst : ge e0.Graphs[i].Mode e0.Graphs[i].Seen e0.Graphs[i].Nodes x with
  | none =>
   simp only [Option.bind_some, if_true]
   rw [if_neg (show ¬ (2 : Int) = 0 by decide)]
   refine ⟨?_, fun q => by simp at q⟩
   unfold exM
   rw [if_neg (show ¬ (2 : Int) = 0 by decide)]
  | some r =>
   obtain ⟨t1, t2, t3, t4, t5, t6⟩ := s2 r hst
   simp only [Option.bind_some, Bool.false_eq_true, if_false]
   have hev : e.Events.length = e0.Events.length + 1 := by rw [hM.evs, List.length_append, List.length_singleton]
   obtain ⟨f1, f2, f3, f4⟩ := Bt k i (r.2, ⟨e0.Graphs[i].Mode, r.1, e0.Graphs[i].Seen + 1, x.At, false⟩) m hm (by dsimp only; omega) r.2.length 0 k ⟨e.Rules, e.Graphs.set i ⟨e0.Graphs[i].Mode, r.1, e0.Graphs[i].Seen + 1, x.At, false⟩, e.Events, e.Keys, e.Fired⟩ q c (by simp) (by omega) ⟨ho.rules, ho.evs, ho.keys, ho.fired⟩ (by omega) hq (by rw [hM.rules]; exact hi) (fun o hh => by
    have := t3 o hh
    refine ⟨this.1, ?_⟩
    rw [hev]; exact this.2)
   simp only [List.drop_zero] at f1 f2 f3 f4
   rw [show ((0 : Nat) : Int) = 0 from rfl] at f1
   rw [f1]
   unfold exM
   by_cases hz : (gf i r.2 ⟨e.Rules, e.Graphs.set i ⟨e0.Graphs[i].Mode, r.1, e0.Graphs[i].Seen + 1, x.At, false⟩, e.Events, e.Keys, e.Fired⟩ q).1 = 0
   ·rw [if_pos hz, if_pos hz]
    simp only [Option.bind_some, AX]
    rw [wrS j (by omega)]
    have hgr := f3.graphs
    have hmid : Mid e0 x (os.drop (j + 1)) (gf i r.2 ⟨e.Rules, e.Graphs.set i ⟨e0.Graphs[i].Mode, r.1, e0.Graphs[i].Seen + 1, x.At, false⟩, e.Events, e.Keys, e.Fired⟩ q).2.1 := by
     refine ⟨f3.rules.trans hM.rules, f3.evs.trans hM.evs, by rw [hgr, List.length_set]; exact hgl, fun a ha => ?_, fun a ha g hg => ?_⟩
     ·rw [hgr, List.getElem?_set_ne (by intro q; subst q; exact hnot ha)]
      exact hM.old a (by simp [ha])
     ·rw [hgr] at hg
      by_cases hai : a = i
      ·subst hai
       rw [List.getElem?_set_self hig] at hg
       cases hg
       exact t1
      ·rw [List.getElem?_set_ne (by omega)] at hg
       exact hM.new a (by simp only [List.mem_cons, not_or]; exact ⟨by omega, ha⟩) g hg
    obtain ⟨g1, g2⟩ := ih (j + 1) N _ _ (c + r.2.length) (by omega) (by omega) hmid f2 (by omega) f4
    refine ⟨g1, fun z => ?_⟩
    obtain ⟨p1, p2, p3, more, p4⟩ := g2 z
    obtain ⟨more', p5⟩ := f3.fired
    refine ⟨p1, ⟨p2.rules, p2.evs, p2.keys, by have := p2.fired.1; omega, p2.fired.2⟩, p3, more' ++ more, ?_⟩
    rw [p4, p5, List.append_assoc]
   ·rw [if_neg hz, if_neg hz, if_neg hz]
    exact ⟨rfl, fun q => absurd q hz⟩
theorem uA (k : Nat) (hk : 1000000000000 ≤ k) {e : GEng} (h : jD e) {x : GEv} (hx : bv e.Events < x.At ∧ x.At ≤ 1000000) (hs : 0 ≤ x.Sym ∧ x.Sym < 5 ∧ 0 ≤ x.Val ∧ x.Val ≤ 100) (m : Int) (hm : m ≤ 100) {q : Graiser} (hq : QI m q) :
  aP.f k e x q = some (bk e x q) ∧ ((bk e x q).1 = 0 → jD (bk e x q).2.1 ∧ QI m (bk e x q).2.2 ∧ (bk e x q).2.1.Rules = e.Rules ∧ (bk e x q).2.1.Events = e.Events ++ [x] ∧ ∃ more, (bk e x q).2.1.Fired = e.Fired ++ more) := by
 have hev := fO h.evs
 have hfew := mL h.rules
 have hlast : 0 ≤ bv e.Events := by
  unfold bv
  cases hl : e.Events.getLast? with
  | none => simp
  | some z =>
   have := nQ h.evs (List.mem_of_getLast? hl)
   unfold jP at this
   simp only [Bool.and_eq_true, decide_eq_true_eq] at this
   dsimp only; omega
 unfold aP.f bk
 by_cases h1 : e.Events.length = 24
 ·rw [if_pos (by omega), if_pos (.inl h1)]
  exact ⟨rfl, fun q => by simp at q⟩
 rw [if_neg (by omega)]
 by_cases h2 : 1000 < x.At
 ·rw [if_pos h2, if_pos (.inr h2)]
  exact ⟨rfl, fun q => by simp at q⟩
 rw [if_neg h2, if_neg (by omega), ae (by omega), Bu k (by omega) e.Rules hfew (fun r hr => (fy h.rules hr).pri)]
 simp only [Option.bind_some]
 have hev' : dQ (e.Events ++ [x]) = true := sS h.evs (by omega) (by
  unfold jP
  simp only [Bool.and_eq_true, decide_eq_true_eq]; omega) hx.1
 have hmid : Mid e x (ft e.Rules) ⟨e.Rules, e.Graphs, e.Events ++ [x], e.Keys, e.Fired⟩ := by
  refine ⟨rfl, rfl, h.len, fun i hi => rfl, fun i hi g hg => ?_⟩
  exfalso
  exact hi (un.2 ⟨i, by have := (List.getElem?_eq_some_iff.1 hg).1; rw [← h.len]; exact this, rfl⟩)
 have hown : Own (500000 + 2000 * e.Events.length) ⟨e.Rules, e.Graphs, e.Events ++ [x], e.Keys, e.Fired⟩ := by
  refine ⟨h.rules, hev', h.keys, h.fired.1, fun f hf => ?_⟩
  obtain ⟨a, b, c⟩ := h.fired.2 f hf
  refine ⟨a, b, c.mono ?_⟩
  dsimp only
  rw [List.length_append, List.length_singleton]; omega
 obtain ⟨r1, r2⟩ := Bl k hk h (x := x) ⟨hx.1, by omega⟩ (by omega) m hm (ft e.Rules) (fun i hi => un.1 hi) (wR _) (by rw [kq]; exact hfew) (ft e.Rules).length 0 k ⟨e.Rules, e.Graphs, e.Events ++ [x], e.Keys, e.Fired⟩ q _ (by omega) (by rw [kq]; omega) hmid hown (by rw [kq]; omega) hq
 simp only [List.drop_zero] at r1 r2
 rw [show ((0 : Nat) : Int) = 0 from rfl] at r1
 rw [r1]
 unfold exM
 generalize eX x (ft e.Rules) ⟨e.Rules, e.Graphs, e.Events ++ [x], e.Keys, e.Fired⟩ q = z at r2 ⊢
 by_cases hz : z.1 = 0
 ·rw [if_pos hz]
  obtain ⟨g1, g2, g3, g4⟩ := r2 hz
  refine ⟨?_, fun _ => ⟨⟨g2.rules, by rw [g1.len, g1.rules], g2.evs, fun g hg => ?_, g2.keys, ?_, g2.fired.2⟩, g3, g1.rules, g1.evs, g4⟩⟩
  ·obtain ⟨z1, z2, z3⟩ := z
   dsimp only at hz
   subst hz
   rfl
  ·obtain ⟨i, hi, rfl⟩ := List.mem_iff_getElem.1 hg
   have := g1.new i (by simp) _ (List.getElem?_eq_getElem hi)
   rw [g1.evs, j5, List.length_append, List.length_singleton]
   exact this
  ·have := g2.fired.1
   rw [kq] at this
   rw [g1.evs, List.length_append, List.length_singleton]; omega
 ·rw [if_neg hz]
  exact ⟨rfl, fun q => absurd q hz⟩
theorem uy {l : List GEv} (h : dQ l = true) : 0 ≤ bv l ∧ bv l ≤ 1000 := by
 unfold bv
 cases hl : l.getLast? with
 | none => simp
 | some z =>
  have := nQ h (List.mem_of_getLast? hl)
  unfold jP at this
  simp only [Bool.and_eq_true, decide_eq_true_eq] at this
  dsimp only; omega
abbrev Flat5 := (List GRule) × (List GGraph) × (List GEv) × (List Int) × (List GFire)
def exL (e0 : GEng) (r : Int × GEng) : Except (GEng × Int × List GFire) Flat5 := if r.1 = 0 then .ok (r.2.Rules, r.2.Graphs, r.2.Events, r.2.Keys, r.2.Fired) else .error (e0, r.1, [])
theorem zh (k : Nat) (hk : 2000000000000 ≤ k) {e0 : GEng} (h0 : jD e0) : ∀ (f N : Nat) (m : Int) (e : GEng) (q : Graiser) (s : Int), m < (f : Int) → m ≤ 100 → f ≤ N → jD e → QI m q → 1 ≤ s ∧ s ≤ 20 →
  ct.l0 k e0 N e.Rules e.Graphs e.Events e.Keys e.Fired q.queue q.raised s = some (exL e0 (dI f e q s)) ∧
  ((dI f e q s).1 = 0 → jD (dI f e q s).2 ∧ (dI f e q s).2.Rules = e.Rules ∧ (∃ more, (dI f e q s).2.Fired = e.Fired ++ more) ∧ ∃ evs, (dI f e q s).2.Events = e.Events ++ evs)
 | 0, N, m, e, q, s, hf, _, _, _, hq, _ => by have := hq.sum; have := hq.raised; omega
 | f + 1, N, m, e, q, s, hf, hm, hN, he, hq, hs => by
  obtain ⟨N, rfl⟩ : ∃ n, N = n + 1 := ⟨N - 1, by omega⟩
  have hev := fO he.evs
  have hla := uy he.evs
  have hqs := hq.sum
  have hqr := hq.raised
  rw [ct.l0]
  obtain ⟨qq, rz⟩ := q
  cases hqq : qq with
  | nil =>
   dsimp only
   rw [if_neg (by simp), show dI (f + 1) e ⟨[], rz⟩ s = (0, e) from by rw [dI]]
   exact ⟨rfl, fun _ => ⟨he, rfl, ⟨[], by simp⟩, [], by simp⟩⟩
  | cons x r =>
   subst hqq
   dsimp only at hqs hqr ⊢
   have hx := hq.evs x (by simp)
   rw [if_pos (by simp), ae (by decide), ae (by simp)]
   simp only [List.getElem?_cons_zero, Option.bind_some]
   rw [ae (by decide), ae (by simp only [List.length_cons]; omega), ae (Int.le_refl _), AW e.Events (by omega)]
   simp only [Option.bind_some]
   rw [wr _ (by omega)]
   have e1 : ((x :: r).drop 1).take ((((x :: r).length : Nat) : Int) - 1).toNat = r := by
    simp only [List.drop_succ_cons, List.drop_zero]
    rw [List.take_of_length_le]
    simp only [List.length_cons]; omega
   rw [e1, show (⟨e.Rules, e.Graphs, e.Events, e.Keys, e.Fired⟩ : GEng) = e from rfl]
   simp only [List.length_cons] at hqs
   have hq' : QI (m - 1) ⟨r, rz⟩ := ⟨fun z hz => hq.evs z (by simp [hz]), hqr, by dsimp only; omega⟩
   obtain ⟨p1, p2⟩ := uA k (by omega) he (x := ⟨x.Sym, bv e.Events + s, x.Val⟩) ⟨by dsimp only; omega, by dsimp only; omega⟩ hx (m - 1) (by omega) hq'
   rw [p1]
   simp only [Option.bind_some]
   have hL : dI (f + 1) e ⟨x :: r, rz⟩ s = if (bk e ⟨x.Sym, bv e.Events + s, x.Val⟩ ⟨r, rz⟩).1 = 0 then dI f (bk e ⟨x.Sym, bv e.Events + s, x.Val⟩ ⟨r, rz⟩).2.1 (bk e ⟨x.Sym, bv e.Events + s, x.Val⟩ ⟨r, rz⟩).2.2 1
     else ((bk e ⟨x.Sym, bv e.Events + s, x.Val⟩ ⟨r, rz⟩).1, (bk e ⟨x.Sym, bv e.Events + s, x.Val⟩ ⟨r, rz⟩).2.1) := by rw [dI]
   rw [hL]
   clear hL p1
   generalize bk e ⟨x.Sym, bv e.Events + s, x.Val⟩ ⟨r, rz⟩ = z at p2 ⊢
   by_cases hz : z.1 = 0
   ·rw [if_pos hz, if_pos hz]
    obtain ⟨g1, g2, g3, g4, more, g5⟩ := p2 hz
    obtain ⟨i1, i2⟩ := zh k hk h0 f N (m - 1) z.2.1 z.2.2 1 (by omega) (by omega) (by omega) g1 g2 (by omega)
    refine ⟨i1, fun w => ?_⟩
    obtain ⟨a, b, ⟨more', c⟩, evs, d⟩ := i2 w
    exact ⟨a, b.trans g3, ⟨more ++ more', by rw [c, g5, List.append_assoc]⟩, _, by rw [d, g4, List.append_assoc]⟩
   ·rw [if_neg hz, if_neg hz, oT k hk h0]
    unfold exL
    rw [if_neg hz]
    exact ⟨rfl, fun w => absurd w hz⟩
theorem Ci (k : Nat) (hk : 2000000000000 ≤ k) {e : GEng} (h : jD e) {sym gap val : Int} (hc : lr ⟨sym, gap, val⟩ = true) :
  ct.f k e sym gap val = some (fp e sym gap val) ∧ jD (fp e sym gap val).1 ∧ (fp e sym gap val).1.Rules = e.Rules ∧ (∃ more, (fp e sym gap val).1.Fired = e.Fired ++ more) ∧ ∃ evs, (fp e sym gap val).1.Events = e.Events ++ evs := by
 unfold lr at hc
 simp only [Bool.and_eq_true, decide_eq_true_eq] at hc
 have hq : QI 7 ⟨[⟨sym, 0, val⟩], 0⟩ := ⟨fun z hz => by rw [List.mem_singleton.1 hz]; dsimp only; omega, by dsimp only; omega, by simp⟩
 obtain ⟨l1, l2⟩ := zh k hk h 8 k 7 e ⟨[⟨sym, 0, val⟩], 0⟩ gap (by omega) (by omega) (by omega) h hq (by omega)
 unfold ct.f fp
 rw [oT k hk h]
 simp only [Option.bind_some]
 dsimp only at l1
 rw [l1]
 generalize dI 8 e ⟨[⟨sym, 0, val⟩], 0⟩ gap = z at l2 ⊢
 unfold exL
 by_cases hz : z.1 = 0
 ·rw [if_pos hz, if_pos hz]
  obtain ⟨a, b, ⟨more, c⟩, d⟩ := l2 hz
  simp only [Option.bind_some]
  rw [show (⟨z.2.Rules, z.2.Graphs, z.2.Events, z.2.Keys, z.2.Fired⟩ : GEng) = z.2 from rfl, oT k hk a]
  simp only [Option.bind_some]
  have hl : e.Fired.length ≤ z.2.Fired.length := by rw [c, List.length_append]; omega
  rw [ae (by omega), ae (by omega), ae (Int.le_refl _)]
  have e1 : (z.2.Fired.drop e.Fired.length).take (((z.2.Fired.length : Nat) : Int) - (e.Fired.length : Int)).toNat = z.2.Fired.drop e.Fired.length := List.take_of_length_le (by rw [List.length_drop]; omega)
  have hev := fO a.evs
  have hfl := a.fired.1
  rw [e1, oJ k hk _ (by rw [List.length_drop]; omega) (fun f hf => by
   have := dq ((fM f.Occ).1 (a.fired.2 f (List.mem_of_mem_drop hf)).2.1).2.2.2.2
   show f.Occ.Ids.length ≤ 1000; omega)]
  exact ⟨rfl, a, b, ⟨more, c⟩, d⟩
 ·rw [if_neg hz, if_neg hz]
  exact ⟨rfl, h, rfl, ⟨[], by simp⟩, [], by simp⟩
theorem yE (k : Nat) (hk : 2000000000000 ≤ k) {e : GEng} (h : jD e) {sym gap val : Int} (hc : lr ⟨sym, gap, val⟩ = true) :
  gV.f k e sym gap val = some (fp e sym gap val) ∧ jD (fp e sym gap val).1 ∧ (fp e sym gap val).1.Rules = e.Rules ∧ (∃ more, (fp e sym gap val).1.Fired = e.Fired ++ more) ∧ ∃ evs, (fp e sym gap val).1.Events = e.Events ++ evs := by
 obtain ⟨c1, c2⟩ := Ci k hk h hc
 refine ⟨?_, c2⟩
 unfold gV.f
 rw [BN k hk h]
 simp only [Option.bind_some, if_true]
 rw [sZ, hc]
 simp only [Option.bind_some, if_true]
 rw [c1]; rfl
def lu (o : GOcc) : GFire := ⟨0, o⟩
structure qF (r : GRule) : Prop where
 ok : nL r
 low : r.Low = 0
 high : r.High = 100
 add : r.Add = 1
 raise : r.Raise = -1
structure One (r : GRule) (e : GEng) (ns : List GNode) (out : List GOcc) : Prop where
 eng : jD e
 rules : e.Rules = [r]
 graphs : e.Graphs = [⟨r.Mode, ns, (e.Events.length : Int), bv e.Events, false⟩]
 run : ∀ rest, jC r.Mode (e.Events ++ rest) 0 (ei r.Ex []).2 [] = jC r.Mode rest (e.Events.length : Int) ns out
 fired : e.Fired = out.map lu
 up : Asc out ∧ ∀ o ∈ out, o.To ≤ bv e.Events
 key : e.Keys[r.Key.toNat]? = some (out.length : Int)
 root : ej ns = (out.length : Int) ∧ ej ns ≤ 40
theorem Aw {l : List Int} {i : Nat} {v : Int} (h : l[i]? = some v) : l.set i v = l := by
 obtain ⟨h1, h2⟩ := List.getElem?_eq_some_iff.1 h
 subst h2
 exact List.set_getElem_self h1
theorem sD {r : GRule} (hr : qF r) : ∀ (l : List GOcc) (e : GEng) (q : Graiser) (v : Int), e.Rules = [r] → (∀ o ∈ l, ∃ x, e.Events[(jv o).toNat]? = some x ∧ 0 ≤ x.Val ∧ x.Val ≤ 100) → e.Keys[r.Key.toNat]? = some v → 0 ≤ v → v + (l.length : Int) ≤ 1000 →
  gf 0 l e q = (0, ⟨e.Rules, e.Graphs, e.Events, e.Keys.set r.Key.toNat (v + (l.length : Int)), e.Fired ++ l.map lu⟩, q)
 | [], e, q, v, h1, h2, h3, h4, h5 => by
  unfold gf
  rw [show v + ((([] : List GOcc).length : Nat) : Int) = v from by simp, Aw h3]
  simp
 | o :: l, e, q, v, h1, h2, h3, h4, h5 => by
  obtain ⟨x, x1, x2⟩ := h2 o (by simp)
  simp only [List.length_cons] at h5
  have hg : e.Keys.getD r.Key.toNat 0 = v := by rw [List.getD_eq_getElem?_getD, h3]; rfl
  have hf : gH e 0 o q = (0, ⟨e.Rules, e.Graphs, e.Events, e.Keys.set r.Key.toNat (v + 1), e.Fired ++ [lu o]⟩, q) := by
   unfold gH
   rw [h1, x1]
   simp only [List.getElem?_cons_zero]
   rw [if_pos (by rw [hr.low, hr.high]; exact x2), hg, hr.add, if_pos (by omega), if_pos (by rw [hr.raise]; decide)]
   rfl
  have hlt := (List.getElem?_eq_some_iff.1 h3).1
  unfold gf
  rw [hf]
  simp only [if_true]
  rw [sD hr l ⟨e.Rules, e.Graphs, e.Events, e.Keys.set r.Key.toNat (v + 1), e.Fired ++ [lu o]⟩ q (v + 1) h1 (fun y hy => h2 y (by simp [hy])) (by show (e.Keys.set r.Key.toNat (v + 1))[r.Key.toNat]? = _; rw [List.getElem?_set_self hlt]) (by omega) (by omega)]
  simp only [List.set_set, List.length_cons, List.map_cons, List.append_assoc, List.cons_append, List.nil_append]
  rw [show v + 1 + (l.length : Int) = v + ((l.length + 1 : Nat) : Int) by omega]
theorem wK {r : GRule} (hr : qF r) {e : GEng} {ns : List GNode} {out : List GOcc} (h : One r e ns out) {x : GEv} (hx : bv e.Events < x.At ∧ x.At ≤ 1000) (hl : e.Events.length ≤ 23) (hs : 0 ≤ x.Sym ∧ x.Sym < 5 ∧ 0 ≤ x.Val ∧ x.Val ≤ 100) (q : Graiser) (hq : QI 7 q) :
  (bk e x q).1 = 2 ∨ ((bk e x q).1 = 0 ∧ (bk e x q).2.2 = q ∧ (bk e x q).2.1.Events = e.Events ++ [x] ∧ ∃ ns' out', One r (bk e x q).2.1 ns' out') := by
 obtain ⟨pk, p2⟩ := uA 1000000000000 (Nat.le_refl _) h.eng (x := x) ⟨hx.1, by omega⟩ hs 7 (by omega) hq
 have hev' : dQ (e.Events ++ [x]) = true := sS h.eng.evs (by omega) (by
  have := (uy h.eng.evs).1
  unfold jP
  simp only [Bool.and_eq_true, decide_eq_true_eq]; omega) hx.1
 have hgr := h.eng.graphs _ (by rw [h.graphs]; exact List.mem_singleton.2 rfl)
 obtain ⟨-, s2⟩ := sx 1000000000000 (Nat.le_refl _) hgr hl hx
 have ho : ft e.Rules = [0] := by rw [h.rules]; rfl
 have hP : bk e x q = eX x [0] ⟨e.Rules, e.Graphs, e.Events ++ [x], e.Keys, e.Fired⟩ q := by
  unfold bk
  rw [if_neg (by omega), ho]
 dsimp only at s2
 cases hst : ge r.Mode (e.Events.length : Int) ns x with
 | none =>
  left
  rw [hP]
  unfold eX nC
  rw [h.graphs]
  simp only [Int.toNat_zero, List.getElem?_cons_zero, hst]
  rw [if_neg (show ¬ (2 : Int) = 0 by decide)]
 | some p =>
  obtain ⟨ns', f⟩ := p
  obtain ⟨t1, t2, t3, t4, t5, t6, t7, t8⟩ := s2 _ hst
  dsimp only at t2 t3 t4 t5 t6 t8
  have hroot := h.root
  have hF : bk e x q = (0, ⟨e.Rules, [⟨r.Mode, ns', (e.Events.length : Int) + 1, x.At, false⟩], e.Events ++ [x], e.Keys.set r.Key.toNat ((out.length : Int) + (f.length : Int)), e.Fired ++ f.map lu⟩, q) := by
   rw [hP]
   unfold eX nC
   rw [h.graphs]
   simp only [Int.toNat_zero, List.getElem?_cons_zero, hst, List.set_cons_zero]
   rw [sD hr f ⟨e.Rules, [⟨r.Mode, ns', (e.Events.length : Int) + 1, x.At, false⟩], e.Events ++ [x], e.Keys, e.Fired⟩ q (out.length : Int) h.rules (fun o hh => by
    have md := (t3 o hh).2
    have hids := ((fM o).1 (t3 o hh).1).2.2.2.2
    obtain ⟨lk, lm⟩ := yJ md (by have := dq hids; omega)
    have l0 := (hids.2 _ lm).1
    have l1 := md.2.2.2 _ lm
    have hlt : (jv o).toNat < (e.Events ++ [x]).length := by rw [List.length_append, List.length_singleton]; omega
    refine ⟨_, List.getElem?_eq_getElem hlt, ?_⟩
    exact uu hev' (List.getElem_mem hlt)) h.key (by omega) (by omega)]
   simp only [if_true]
   rfl
  right
  rw [hF] at p2 ⊢
  obtain ⟨g1, g2, g3, g4, g5⟩ := p2 rfl
  refine ⟨rfl, rfl, rfl, ns', out ++ f, g1, h.rules, ?_, fun rest => ?_, ?_, ⟨pQ h.up.1 t4 (fun a ha b hb => by have := h.up.2 a ha; have := (t5 b hb).1; omega), fun o hh => ?_⟩, ?_, ?_⟩
  ·dsimp only
   rw [j5, List.length_append, List.length_singleton]; rfl
  ·dsimp only
   rw [List.append_assoc, List.singleton_append, h.run (x :: rest)]
   rw [show jC r.Mode (x :: rest) (e.Events.length : Int) ns out = jC r.Mode rest ((e.Events.length : Int) + 1) ns' (bQ out f) from by rw [jC, hst]]
   rw [sm f out (pQ h.up.1 t4 (fun a ha b hb => by have := h.up.2 a ha; have := (t5 b hb).1; omega)), List.length_append, List.length_singleton]; rfl
  ·dsimp only
   rw [h.fired, List.map_append]
  ·dsimp only
   rw [j5]
   rcases List.mem_append.1 hh with w | w
   ·have := h.up.2 o w; omega
   ·exact (t5 o w).2
  ·dsimp only
   have hlt := (List.getElem?_eq_some_iff.1 h.key).1
   rw [List.getElem?_set_self hlt, List.length_append]; rfl
  ·rw [List.length_append]
   omega
theorem z6 {r : GRule} (hr : qF r) {e : GEng} {ns : List GNode} {out : List GOcc} (h : One r e ns out) {sym gap : Int} (hs : 0 ≤ sym ∧ sym < 5) (hg : 1 ≤ gap ∧ gap ≤ 20) (hl : e.Events.length ≤ 23) (ha : bv e.Events + gap ≤ 1000) :
  (fp e sym gap 9).2.1 = 2 ∨ ((fp e sym gap 9).2.1 = 0 ∧ (fp e sym gap 9).1.Events = e.Events ++ [⟨sym, bv e.Events + gap, 9⟩] ∧ ∃ ns' out', One r (fp e sym gap 9).1 ns' out') := by
 have hq : QI 7 ⟨[], 0⟩ := ⟨fun z hz => by simp at hz, by dsimp only; omega, by simp⟩
 have hp := wK hr h (x := ⟨sym, bv e.Events + gap, 9⟩) ⟨by dsimp only; omega, ha⟩ hl ⟨hs.1, hs.2, by dsimp only; omega, by dsimp only; omega⟩ ⟨[], 0⟩ hq
 have hL : dI 8 e ⟨[⟨sym, 0, 9⟩], 0⟩ gap = if (bk e ⟨sym, bv e.Events + gap, 9⟩ ⟨[], 0⟩).1 = 0 then dI 7 (bk e ⟨sym, bv e.Events + gap, 9⟩ ⟨[], 0⟩).2.1 (bk e ⟨sym, bv e.Events + gap, 9⟩ ⟨[], 0⟩).2.2 1
   else ((bk e ⟨sym, bv e.Events + gap, 9⟩ ⟨[], 0⟩).1, (bk e ⟨sym, bv e.Events + gap, 9⟩ ⟨[], 0⟩).2.1) := by
  rw [dI]
 unfold fp
 rw [hL]
 generalize bk e ⟨sym, bv e.Events + gap, 9⟩ ⟨[], 0⟩ = z at hp ⊢
 rcases hp with h2 | ⟨h0, hq', hE, hO⟩
 ·left
  rw [if_neg (show ¬ z.1 = 0 by omega), if_neg (show ¬ z.1 = 0 by omega)]
  exact h2
 ·right
  rw [if_pos h0, hq']
  have hl7 : ∀ e' : GEng, dI 7 e' ⟨[], 0⟩ 1 = (0, e') := fun e' => by rw [dI]
  rw [hl7]
  exact ⟨rfl, hE, hO⟩
theorem As {r : GRule} (hr : qF r) : One r (mq [r]) (ei r.Ex []).2 [] := by
 have hok : d8 [r] = true := by
  unfold d8
  simp only [Bool.and_eq_true, decide_eq_true_eq]
  refine ⟨fun i hi => ?_, by simp⟩
  have : i = 0 := by simp at hi; exact hi
  subst this
  unfold jT
  simp only [List.getElem?_cons_zero, List.take_zero, List.all_nil, Bool.and_true]
  exact (tb r).2 hr.ok
 have hf := kk hr.ok.ex
 obtain ⟨es', nx, a1, a2, a3, a4, _⟩ := mV r.Ex ⟨hf.2, hf.1⟩ [] [] pR
 rw [List.nil_append] at a1
 have hk := hr.ok.key
 refine ⟨Bd hok, rfl, rfl, fun rest => rfl, rfl, ⟨by simp [Asc], fun o h => by simp at h⟩, ?_, ?_⟩
 ·show vi[r.Key.toNat]? = some 0
  unfold vi
  rw [List.getElem?_replicate, if_pos (by omega)]
 ·have : ej (ei r.Ex []).2 = 0 := by
   rw [a1]
   unfold ej
   cases hq : nx.getLast? with
   | none => rfl
   | some m =>
    have := (a4 m (List.mem_of_getLast? hq)).2.2.2
    simpa using this
  rw [this]; simp
theorem uS (k : Nat) (s : ByteArray) (hs : s.size ≤ 1000000) (hk : 1000001 ≤ k) : cH.f k s = some (jx s) := by
 have := j9 s.size (lP s) false (cH.l0 k s) (fun N => by rw [cH.l0, if_neg (by omega)])
  (fun N i hi => by
   rw [cH.l0, if_pos (by omega), ae (by omega), ae (by omega), ae (by omega), ae (by omega), Int.toNat_natCast, wrS i (by omega)]
   unfold lP
   by_cases h1 : (j7 s i) < 97
   ·rw [if_pos h1]; simp [h1]
   ·rw [if_neg h1]
    by_cases h2 : 122 < (j7 s i)
    ·rw [if_pos h2]; simp [h2]
    ·rw [if_neg h2]; simp [h1, h2]) k (by omega)
 unfold cH.f jx
 rw [this]
 by_cases h : ∀ i, i < s.size → lP s i = true
 ·rw [if_pos h]
  simp only [Option.bind_some]
  by_cases h1 : 0 < (s.size : Int)
  ·rw [if_pos h1, Option.some.injEq, Bool.eq_iff_iff]
   simp only [Bool.and_eq_true, decide_eq_true_eq, Bool.not_eq_true', decide_eq_false_iff_not]
   constructor
   ·intro q; exact ⟨h, by omega, by omega⟩
   ·intro q; omega
  ·rw [if_neg h1, Option.some.injEq, Bool.eq_iff_iff]
   simp only [Bool.and_eq_true, decide_eq_true_eq, Bool.false_eq_true, false_iff]
   intro q; omega
 ·rw [if_neg h, decide_eq_false h]; rfl
theorem u4 (k : Nat) (hk : 1000000000000 ≤ k) (r : GRule) (h : lE r) : gu.f k r = some (rOk r) := by
 unfold gu.f rOk
 rw [uS k r.Name h.1 (by omega), (yO r.Mode).2, qk r.Ex (by have := h.2; omega) k (by have := h.2; omega)]
 simp only [Option.bind_some]
 cases jx r.Name
 ·rfl
 simp only [if_true, Bool.true_and]
 by_cases h1 : r.Pri < 0
 ·rw [if_pos h1, decide_eq_false (fun q => by omega)]; rfl
 rw [if_neg h1]
 by_cases h1' : 9 < r.Pri
 ·rw [if_pos h1', decide_eq_false (fun q => by omega)]; rfl
 rw [if_neg h1', decide_eq_true (show 0 ≤ r.Pri ∧ r.Pri ≤ 9 by omega), Bool.true_and]
 by_cases h2 : 0 ≤ r.Mode ∧ r.Mode ≤ 4
 rotate_left
 ·rw [if_neg (by simpa using h2), decide_eq_false h2]; rfl
 rw [if_pos (by simpa using h2), decide_eq_true h2, Bool.true_and]
 cases jn r.Ex
 ·rfl
 simp only [if_true, Bool.true_and]
 by_cases h3 : r.Low < 0
 ·rw [if_pos h3, decide_eq_false (fun q => by omega)]; rfl
 rw [if_neg h3]
 by_cases h4 : r.High < r.Low
 ·rw [if_pos h4, decide_eq_false (fun q => by omega)]; rfl
 rw [if_neg h4]
 by_cases h4' : 100 < r.High
 ·rw [if_pos h4', decide_eq_false (fun q => by omega)]; rfl
 rw [if_neg h4', decide_eq_true (show 0 ≤ r.Low ∧ r.Low ≤ r.High ∧ r.High ≤ 100 by omega), Bool.true_and]
 by_cases h5 : r.Key < 0
 ·rw [if_pos h5, decide_eq_false (fun q => by omega)]; rfl
 rw [if_neg h5]
 by_cases h5' : r.Key < 4
 rotate_left
 ·rw [if_neg h5', decide_eq_false (fun q => by omega)]; rfl
 rw [if_pos h5', decide_eq_true (show 0 ≤ r.Key ∧ r.Key ≤ 3 by omega), Bool.true_and]
 by_cases h6 : r.Add < -9
 ·rw [if_pos h6, decide_eq_false (fun q => by omega)]; rfl
 rw [if_neg h6]
 by_cases h6' : 9 < r.Add
 ·rw [if_pos h6', decide_eq_false (fun q => by omega)]; rfl
 rw [if_neg h6', decide_eq_true (show -9 ≤ r.Add ∧ r.Add ≤ 9 by omega), Bool.true_and]
 by_cases h7 : r.Raise < -1
 ·rw [if_pos h7, decide_eq_false (fun q => by omega)]
 rw [if_neg h7, Option.some.injEq, Bool.eq_iff_iff]
 simp only [decide_eq_true_eq]; omega
theorem kR (x : GEx) : (⟨x.Kind, x.Sym, x.N, x.Kids⟩ : GEx) = x := by cases x; rfl
/-- a rule that is drawn: small, its name not of two letters -/
def jB (r : GRule) : Prop := lE r ∧ r.Name.size ≠ 2
theorem jB.of {r s : GRule} (h : jB r) (hn : s.Name = r.Name) (hx : s.Ex = r.Ex) : jB s := ⟨⟨by rw [hn]; exact h.1.1, by rw [hx]; exact h.1.2⟩, by rw [hn]; exact h.2⟩
theorem vG (k : Nat) (hk : 2000000000000 ≤ k) (r : Gl14Rd) (m : Int) (hr : cK r m) (hm : m ≤ 50000000) (name : ByteArray) : ∃ x r', gt.f k r name = some (x, r') ∧ cK r' (m + 300000) ∧ x.Name = name ∧ exN x.Ex ≤ 1000 := by
 obtain ⟨x, r1, e1, h1, h2⟩ := wg k hk r m hr (by omega)
 obtain ⟨v, r2, e2, -, -, -, h3⟩ := fE r1 2 (m + 200000) h1 (by omega) (by omega)
 have tail : ∀ (r : Gl14Rd) (m' : Int), cK r m' → m' ≤ m + 290000 → ∃ (low pri mode high key add raise : Int) (a b c d e f g : Gl14Rd), aG.f r [0, 0, 0, 1, 5] = some (low, a) ∧ aG.f a [0, 1, 5, 5, 9] = some (pri, b) ∧ aY.f b 5 = some (mode, c) ∧ aG.f c [100, 100, 5] = some (high, d) ∧ aY.f d 4 = some (key, e) ∧ aG.f e [1, 1, 2, 9, 0, (-1)] = some (add, f) ∧ aG.f f [(-1), (-1), (-1), (-1), 3, 4, 2] = some (raise, g) ∧ cK g (m + 300000) := fun r m' hr hm' => by
  obtain ⟨low, a, a1, -, a2⟩ := eU r [0, 0, 0, 1, 5] m' hr (by omega) (by simp)
  obtain ⟨pri, b, b1, -, b2⟩ := eU a [0, 1, 5, 5, 9] (m' + 1) a2 (by omega) (by simp)
  obtain ⟨mode, c, c1, -, -, -, c2⟩ := fE b 5 (m' + 1 + 1) b2 (by omega) (by omega)
  obtain ⟨high, d, d1, -, d2⟩ := eU c [100, 100, 5] (m' + 1 + 1 + 1) c2 (by omega) (by simp)
  obtain ⟨key, e, g1, -, -, -, g2⟩ := fE d 4 (m' + 1 + 1 + 1 + 1) d2 (by omega) (by omega)
  obtain ⟨add, f, f1, -, f2⟩ := eU e [1, 1, 2, 9, 0, (-1)] (m' + 1 + 1 + 1 + 1 + 1) g2 (by omega) (by simp)
  obtain ⟨raise, g, i1, -, i2⟩ := eU f [(-1), (-1), (-1), (-1), 3, 4, 2] (m' + 1 + 1 + 1 + 1 + 1 + 1) f2 (by omega) (by simp)
  exact ⟨low, pri, mode, high, key, add, raise, a, b, c, d, e, f, g, a1, b1, c1, d1, g1, f1, i1, i2.mono (by omega)⟩
 unfold gt.f
 rw [e1]
 simp only [Option.bind_some]
 rw [e2]
 simp only [Option.bind_some]
 by_cases hv : v = 0
 ·rw [if_pos hv]
  obtain ⟨y, r3, e3, q1, q2⟩ := wy 2 (by omega) k (by omega) r2 (m + 200000 + 1) h3 (by omega)
  rw [show ((2 : Nat) : Int) = 2 from rfl] at e3
  rw [e3]
  obtain ⟨low, pri, mode, high, key, add, raise, a, b, c, d, e, f, g, a1, b1, c1, d1, g1, f1, i1, i2⟩ := tail r3 _ q1 (by omega)
  simp only [Option.bind_some, a1, b1, c1, d1, g1, f1, i1]
  exact ⟨_, _, rfl, i2, rfl, by show exN (⟨y.Kind, y.Sym, y.N, y.Kids⟩ : GEx) ≤ 1000; rw [kR]; omega⟩
 ·rw [if_neg hv]
  obtain ⟨low, pri, mode, high, key, add, raise, a, b, c, d, e, f, g, a1, b1, c1, d1, g1, f1, i1, i2⟩ := tail r2 _ h3 (by omega)
  simp only [Option.bind_some, a1, b1, c1, d1, g1, f1, i1]
  exact ⟨_, _, rfl, i2, rfl, by show exN (⟨x.Kind, x.Sym, x.N, x.Kids⟩ : GEx) ≤ 1000; rw [kR]; omega⟩
theorem wh (k : Nat) (hk : 2000000000000 ≤ k) : ∀ (c n : Nat) (b : List Int) (p m : Int) (acc : List GRule), c < n → cK ⟨b, p⟩ m → m + 300000 * c ≤ 50000000 → acc.length + c ≤ 4 → (∀ r ∈ acc, jB r) →
  ∃ l b' p', cu.l0 k n b p acc (c : Int) = some (l, b', p') ∧ cK ⟨b', p'⟩ (m + 300000 * c) ∧ l.length ≤ 4 ∧ ∀ r ∈ l, jB r := by
 intro c
 induction c with
 | zero =>
  intro n b p m acc hn hr hm ha hd
  obtain ⟨n, rfl⟩ : ∃ m, n = m + 1 := ⟨n - 1, by omega⟩
  rw [cu.l0, if_neg (by omega)]
  exact ⟨_, _, _, rfl, by simpa using hr, by omega, hd⟩
 | succ c ih =>
  intro n b p m acc hn hr hm ha hd
  obtain ⟨n, rfl⟩ : ∃ m, n = m + 1 := ⟨n - 1, by omega⟩
  have hname : ∃ nm : ByteArray, [(⟨#[111, 110, 101]⟩ : ByteArray), (⟨#[116, 119, 111]⟩ : ByteArray), (⟨#[116, 104, 114, 101, 101]⟩ : ByteArray), (⟨#[102, 111, 117, 114]⟩ : ByteArray)][acc.length]? = some nm ∧ nm.size ≤ 5 ∧ nm.size ≠ 2 := by
   have h4 : acc.length = 0 ∨ acc.length = 1 ∨ acc.length = 2 ∨ acc.length = 3 := by omega
   rcases h4 with h | h | h | h <;> rw [h]
   ·exact ⟨_, rfl, by decide, by decide⟩
   ·exact ⟨_, rfl, by decide, by decide⟩
   ·exact ⟨_, rfl, by decide, by decide⟩
   ·exact ⟨_, rfl, by decide, by decide⟩
  obtain ⟨nm, n1, n2, n3⟩ := hname
  obtain ⟨x, r', e1, e2, e3, e4⟩ := vG k hk ⟨b, p⟩ m hr (by omega) nm
  rw [cu.l0, if_pos (by omega), ae (by omega), ae (by omega), Int.toNat_natCast, n1]
  simp only [Option.bind_some]
  rw [e1]
  simp only [Option.bind_some]
  rw [ae (by omega), wrP c (by omega)]
  obtain ⟨l, b', p', q1, q2, q3, q4⟩ := ih n r'.b r'.p (m + 300000) (acc ++ [x]) (by omega) e2 (by omega) (by rw [List.length_append, List.length_singleton]; omega) (fun r hr' => by
   rcases List.mem_append.1 hr' with h | h
   ·exact hd r h
   ·rw [List.mem_singleton.1 h]
    exact ⟨⟨by rw [e3]; omega, by omega⟩, by rw [e3]; exact n3⟩)
  exact ⟨l, b', p', q1, q2.mono (by omega), q3, q4⟩
theorem yS (k : Nat) (hk : 2000000000000 ≤ k) (r : Gl14Rd) (m : Int) (hr : cK r m) (hm : m ≤ 40000000) : ∃ l r', cu.f k r = some (l, r') ∧ cK r' (m + 2000000) ∧ l.length ≤ 4 ∧ ∀ r ∈ l, jB r := by
 obtain ⟨v, r1, e1, h1, h2, -, h4⟩ := fE r 5 m hr (by omega) (by omega)
 have h2 := h2 (by omega)
 obtain ⟨c, rfl⟩ : ∃ c : Nat, v = c := ⟨v.toNat, by omega⟩
 obtain ⟨l, b', p', q1, q2, q3, q4⟩ := wh k hk c k r1.b r1.p (m + 1) [] (by omega) h4 (by omega) (by simp; omega) (fun r h => by simp at h)
 unfold cu.f
 rw [e1]
 simp only [Option.bind_some]
 rw [q1]
 exact ⟨l, ⟨b', p'⟩, rfl, q2.mono (by omega), q3, q4⟩
theorem jg {l : List GRule} {i : Nat} {r : GRule} (h : ∀ r ∈ l, jB r) (hr : jB r) : ∀ s ∈ l.set i r, jB s := fun s hs => by
 rcases List.mem_or_eq_of_mem_set hs with q | q
 ·exact h s q
 ·rw [q]; exact hr
theorem Af (k : Nat) (hk : 2000000000000 ≤ k) (r : Gl14Rd) (m : Int) (hr : cK r m) (hm : m ≤ 30000000) : ∃ l r', iy.f k r = some (l, r') ∧ cK r' (m + 3000000) ∧ l.length ≤ 4 ∧ ∀ r ∈ l, jB r := by
 obtain ⟨l, r1, e1, h1, h2, h3⟩ := yS k hk r m hr (by omega)
 unfold iy.f
 rw [e1]
 simp only [Option.bind_some]
 by_cases h0 : ((l.length : Nat) : Int) = 0
 ·rw [if_pos h0]; exact ⟨_, _, rfl, h1.mono (by omega), by omega, h3⟩
 rw [if_neg h0]
 obtain ⟨v, r2, e2, p1, p2, -, p4⟩ := fE r1 (l.length : Nat) (m + 2000000) h1 (by omega) (by omega)
 have p2 := p2 (by omega)
 obtain ⟨i, rfl⟩ : ∃ i : Nat, v = i := ⟨v.toNat, by omega⟩
 have hi : i < l.length := by omega
 obtain ⟨w, r3, e3, -, -, -, q4⟩ := fE r2 60 (m + 2000000 + 1) p4 (by omega) (by omega)
 rw [e2]
 simp only [Option.bind_some]
 rw [e3]
 simp only [Option.bind_some]
 have num : ∀ t : List Int, 1 ≤ t.length ∧ t.length < 1000 → ∃ v r', aG.f r3 t = some (v, r') ∧ cK r' (m + 3000000) := fun t ht => by
  obtain ⟨v, r', e, -, h⟩ := eU r3 t (m + 2000000 + 1 + 1) q4 (by omega) ht
  exact ⟨v, r', e, h.mono (by omega)⟩
 have hD := h3 _ (List.getElem_mem hi)
 by_cases g0 : w = 0
 ·rw [if_pos g0]
  have hof : ∃ nm r', gi.f r3 [(⟨#[]⟩ : ByteArray), (⟨#[65]⟩ : ByteArray), (⟨#[116, 111, 111, 108, 111, 110, 103]⟩ : ByteArray), (⟨#[111, 110, 101]⟩ : ByteArray)] = some (nm, r') ∧ nm.size ≤ 7 ∧ nm.size ≠ 2 ∧ cK r' (m + 3000000) := by
   obtain ⟨u, r4, f1, f2, f3, -, f4⟩ := fE r3 4 (m + 2000000 + 1 + 1) q4 (by omega) (by omega)
   have f3 := f3 (by omega)
   unfold gi.f
   rw [show (([(⟨#[]⟩ : ByteArray), (⟨#[65]⟩ : ByteArray), (⟨#[116, 111, 111, 108, 111, 110, 103]⟩ : ByteArray), (⟨#[111, 110, 101]⟩ : ByteArray)].length : Nat) : Int) = 4 from rfl, f1]
   simp only [Option.bind_some]
   rw [ae (by omega)]
   have hu : u.toNat = 0 ∨ u.toNat = 1 ∨ u.toNat = 2 ∨ u.toNat = 3 := by omega
   have f4 := f4.mono (n := m + 3000000) (by omega)
   rcases hu with h | h | h | h <;> rw [h]
   ·exact ⟨_, _, rfl, by decide, by decide, f4⟩
   ·exact ⟨_, _, rfl, by decide, by decide, f4⟩
   ·exact ⟨_, _, rfl, by decide, by decide, f4⟩
   ·exact ⟨_, _, rfl, by decide, by decide, f4⟩
  obtain ⟨nm, r', e, s1, s2, hr'⟩ := hof
  rw [e]
  simp only [Option.bind_some]
  rw [ae (by omega), ae (by omega), Int.toNat_natCast, List.getElem?_eq_getElem hi]
  exact ⟨_, _, rfl, hr', by rw [List.length_set]; exact h2, jg h3 ⟨⟨by show nm.size ≤ _; omega, by show exN (⟨_, _, _, _⟩ : GEx) ≤ _; rw [kR]; exact hD.1.2⟩, s2⟩⟩
 rw [if_neg g0]
 by_cases g1 : w = 1
 ·obtain ⟨v, r', e, hr'⟩ := num [(-1), 10] (by simp)
  rw [if_pos g1, e]
  simp only [Option.bind_some]
  rw [ae (by omega), ae (by omega), Int.toNat_natCast, List.getElem?_eq_getElem hi]
  exact ⟨_, _, rfl, hr', by rw [List.length_set]; exact h2, jg h3 (hD.of rfl (kR _))⟩
 rw [if_neg g1]
 by_cases g2 : w = 2
 ·obtain ⟨v, r', e, hr'⟩ := num [(-1), 101] (by simp)
  rw [if_pos g2, e]
  simp only [Option.bind_some]
  rw [ae (by omega), ae (by omega), Int.toNat_natCast, List.getElem?_eq_getElem hi]
  exact ⟨_, _, rfl, hr', by rw [List.length_set]; exact h2, jg h3 (hD.of rfl (kR _))⟩
 rw [if_neg g2]
 by_cases g3 : w = 3
 ·rw [if_pos g3, ae (by omega), ae (by omega), Int.toNat_natCast, List.getElem?_eq_getElem hi]
  exact ⟨_, _, rfl, q4.mono (by omega), by rw [List.length_set]; exact h2, jg h3 (hD.of rfl (kR _))⟩
 rw [if_neg g3]
 by_cases g4 : w = 4
 ·obtain ⟨v, r', e, hr'⟩ := num [(-10), 10, (-9)] (by simp)
  rw [if_pos g4, e]
  simp only [Option.bind_some]
  rw [ae (by omega), ae (by omega), Int.toNat_natCast, List.getElem?_eq_getElem hi]
  exact ⟨_, _, rfl, hr', by rw [List.length_set]; exact h2, jg h3 (hD.of rfl (kR _))⟩
 rw [if_neg g4]
 by_cases g5 : w = 5
 ·obtain ⟨x, r', e, hr', hx⟩ := Aj k hk r3 (m + 2000000 + 1 + 1) q4 (by omega)
  rw [if_pos g5, e]
  simp only [Option.bind_some]
  rw [ae (by omega), ae (by omega), Int.toNat_natCast, List.getElem?_eq_getElem hi]
  exact ⟨_, _, rfl, hr'.mono (by omega), by rw [List.length_set]; exact h2, jg h3 ⟨⟨hD.1.1, by show exN (⟨x.Kind, x.Sym, x.N, x.Kids⟩ : GEx) ≤ _; rw [kR]; omega⟩, hD.2⟩⟩
 ·rw [if_neg g5]
  exact ⟨_, _, rfl, q4.mono (by omega), h2, h3⟩
theorem xZ (k : Nat) (hk : 2000000000000 ≤ k) (l : List Int) (hl : l.length ≤ 1048576) (hb : ∀ y ∈ l, 0 ≤ y ∧ y ≤ 255) : ∃ r, eR.f k l = some r ∧ jB r := by
 obtain ⟨r, e, h⟩ := yo l hl hb
 obtain ⟨t, r', e2, h1, h2, h3⟩ := Af k hk r 0 h (by omega)
 unfold eR.f
 rw [e]
 simp only [Option.bind_some]
 rw [e2]
 simp only [Option.bind_some]
 by_cases h0 : ((t.length : Nat) : Int) = 0
 ·rw [if_pos h0]
  obtain ⟨x, r3, q1, q2, q3, q4⟩ := vG k hk r' _ h1 (by omega) (⟨#[111, 110, 101]⟩ : ByteArray)
  rw [q1]
  exact ⟨x, rfl, ⟨by rw [q3]; decide, by omega⟩, by rw [q3]; decide⟩
 ·rw [if_neg h0]
  have hlt : 0 < t.length := by omega
  rw [ae (by decide), ae (by omega), List.getElem?_eq_getElem hlt]
  exact ⟨_, rfl, h3 _ (List.getElem_mem hlt)⟩
theorem vd (k : Nat) (l : List GOcc) (hl : l.length ≤ 40000000000) (hm : vm l 1000) (hk : 1000000000000 ≤ k) : ∀ (d n i : Nat), i + d = l.length → d < n →
  bp.l0 k (fun y0 y1 => dZ.f k y0 y1) l l n (i : Int) = some (.ok ()) := by
 intro d
 induction d with
 | zero =>
  intro n i hi hn
  obtain ⟨n, rfl⟩ : ∃ m, n = m + 1 := ⟨n - 1, by omega⟩
  rw [bp.l0, if_neg (by omega)]
 | succ d ih =>
  intro n i hi hn
  obtain ⟨n, rfl⟩ : ∃ m, n = m + 1 := ⟨n - 1, by omega⟩
  have hlt : i < l.length := by omega
  have hb := hm l[i] (List.getElem_mem hlt)
  rw [bp.l0, if_pos (by omega), ae (by omega), Int.toNat_natCast, List.getElem?_eq_getElem hlt]
  simp only [Option.bind_some]
  rw [ae (by omega)]
  simp only [dZ.f, jk l[i] l[i] (by omega) k (by omega), jZ, Option.bind_some, BEq.rfl, if_true]
  rw [wrS i (by omega)]
  exact ih n (i + 1) (by omega) (by omega)
theorem u6 (k : Nat) (l : List GOcc) (hl : l.length ≤ 40000000000) (hm : vm l 1000) (hk : 1000000000000 ≤ k) : ea.f k l l = some true := by
 unfold ea.f bp.f
 have := vd k l hl hm hk l.length k 0 (by omega) (by omega)
 rw [show ((0 : Nat) : Int) = 0 from rfl] at this
 rw [if_pos rfl, this]; rfl
theorem zf (k : Nat) (hk : 2000000000000 ≤ k) (p1 : List Int) (hp : ∀ y ∈ p1, 0 ≤ y ∧ y ≤ 255) (hl : p1.length ≤ 1048576) {r : GRule} (hr : qF r) : ∀ (d i N : Nat) (e : GEng) (ns : List GNode) (out : List GOcc), i + d = 10 → d < N → One r e ns out → e.Events.length ≤ i → bv e.Events ≤ 4 * (i : Int) →
  (∃ e' ns' out', aV.l0 k p1 N e.Rules e.Graphs e.Events e.Keys e.Fired (i : Int) = some (.ok (e'.Rules, e'.Graphs, e'.Events, e'.Keys, e'.Fired)) ∧ One r e' ns' out') ∨ aV.l0 k p1 N e.Rules e.Graphs e.Events e.Keys e.Fired (i : Int) = some (.error true) := by
 intro d
 induction d with
 | zero =>
  intro i N e ns out hi hN h h1 h2
  obtain ⟨N, rfl⟩ : ∃ m, N = m + 1 := ⟨N - 1, by omega⟩
  left
  refine ⟨e, ns, out, ?_, h⟩
  rw [aV.l0]
  by_cases c : (i : Int) < (p1.length : Int)
  ·rw [if_pos c, if_neg (by omega)]
  ·rw [if_neg c]
 | succ d ih =>
  intro i N e ns out hi hN h h1 h2
  obtain ⟨N, rfl⟩ : ∃ m, N = m + 1 := ⟨N - 1, by omega⟩
  rw [aV.l0]
  by_cases c : (i : Int) < (p1.length : Int)
  rotate_left
  ·rw [if_neg c]
   exact .inl ⟨e, ns, out, rfl, h⟩
  have hlt : i < p1.length := by omega
  have hb := hp _ (List.getElem_mem hlt)
  rw [if_pos c, if_pos (by omega), ae (by omega), Int.toNat_natCast, List.getElem?_eq_getElem hlt]
  simp only [Option.bind_some]
  rw [ae (by omega)]
  rw [wr _ (by omega), nr _ 5 (by omega) (by omega)]
  obtain ⟨q1, q2, q3⟩ := rF p1[i] 8 (by omega) (by omega)
  rw [q1, nr _ 4 (by omega) (by omega), wr _ (by omega)]
  have hc : lr ⟨p1[i] % 5, 1 + p1[i] / 8 % 4, 9⟩ = true := by
   unfold lr
   simp only [Bool.and_eq_true, decide_eq_true_eq]; omega
  obtain ⟨c1, c2, _⟩ := yE k hk h.eng hc
  rw [show (⟨e.Rules, e.Graphs, e.Events, e.Keys, e.Fired⟩ : GEng) = e from rfl, c1]
  simp only [Option.bind_some]
  rcases z6 hr h (sym := p1[i] % 5) (gap := 1 + p1[i] / 8 % 4) (by omega) (by omega) (by omega) (by omega) with w | ⟨w0, w1, ns', out', w2⟩
  ·right
   rw [w, if_neg (by decide)]; rfl
  ·rw [if_pos w0, wrS i (by omega)]
   have e1 := w1
   exact ih (i + 1) N _ ns' out' (by omega) (by omega) w2 (by rw [w1, List.length_append, List.length_singleton]; omega) (by rw [w1, j5]; dsimp only; omega)
theorem yN (k : Nat) (hk : 2000000000000 ≤ k) {r : GRule} {e : GEng} {ns : List GNode} {out : List GOcc} (hr : qF r) (h : One r e ns out) : bU.f k r.Ex r.Mode e.Events = some (out, true) := by
 have hev := fO h.eng.evs
 rw [sQ k hk r.Ex r.Mode e.Events hr.ok.small.2 (by omega)]
 unfold oP
 rw [if_pos ⟨hr.ok.ex, hr.ok.mode, h.eng.evs⟩]
 have := h.run []
 rw [List.append_nil] at this
 rw [this]; rfl
theorem Ac (k : Nat) (hk : 2000000000000 ≤ k) {r : GRule} {e : GEng} {ns : List GNode} {out : List GOcc} (h : One r e ns out) : aV.l1 k e.Fired (out, true) k 0 = some (.ok ()) := by
 have hfl := h.eng.fired
 have hlen : e.Fired.length = out.length := by rw [h.fired, List.length_map]
 have hev := fO h.eng.evs
 have := j9 out.length (fun _ => true) false (aV.l1 k e.Fired (out, true)) (fun N => by rw [aV.l1, if_neg (by dsimp only; omega)])
  (fun N i hi => by
   have hif : i < e.Fired.length := by omega
   have hf : e.Fired[i] = lu out[i] := by simp only [h.fired, List.getElem_map]
   have ho := (hfl.2 _ (List.getElem_mem hif)).2.1
   rw [hf] at ho
   have hids := dq ((fM _).1 ho).2.2.2.2
   rw [aV.l1, if_pos (by dsimp only; omega), wrS i (by omega), ae (by omega), ae (by omega), ae (by dsimp only; omega), ae (by omega), ae (by omega), Int.toNat_natCast, List.getElem?_eq_getElem hif]
   simp only [Option.bind_some]
   have e1 : (out.drop i).take (((i + 1 : Nat) : Int) - (i : Int)).toNat = [out[i]] := by
    rw [show (((i + 1 : Nat) : Int) - (i : Int)).toNat = 1 by omega, List.drop_eq_getElem_cons hi]; rfl
   rw [e1, hf]
   show ((ea.f k [out[i]] [out[i]]).bind _) = _
   rw [u6 k [out[i]] (by simp) (fun o h => by rw [List.mem_singleton.1 h]; show (lu out[i]).Occ.Ids.length ≤ 1000; omega) (by omega)]
   rfl) k (by omega)
 rw [this, if_pos (fun _ _ => rfl)]
theorem vh (p0 p1 : List Int) (h0 : ∀ y ∈ p0, 0 ≤ y ∧ y ≤ 255) (h1 : ∀ y ∈ p1, 0 ≤ y ∧ y ≤ 255) : ∃ k, aV.f k p0 p1 = some true := by
 obtain ⟨k, hk⟩ : ∃ k : Nat, k = 2000000000000 := ⟨_, rfl⟩
 refine ⟨k, ?_⟩
 unfold aV.f
 by_cases c0 : 1048576 < (p0.length : Int)
 ·rw [if_pos c0]
 rw [if_neg c0]
 by_cases c1 : 1048576 < (p1.length : Int)
 ·rw [if_pos c1]
 rw [if_neg c1]
 obtain ⟨x, e1, e2⟩ := xZ k (by omega) p0 (by omega) h0
 rw [e1]
 simp only [Option.bind_some]
 rw [kR]
 have hs : lE ⟨x.Name, x.Pri, x.Mode, x.Ex, 0, 100, x.Key, 1, (-1)⟩ := e2.1
 obtain ⟨r, hr⟩ : ∃ r : GRule, r = ⟨x.Name, x.Pri, x.Mode, x.Ex, 0, 100, x.Key, 1, (-1)⟩ := ⟨_, rfl⟩
 have r1 : x.Ex = r.Ex := by rw [hr]
 have r2 : x.Mode = r.Mode := by rw [hr]
 have r3 : x.Key = r.Key := by rw [hr]
 rw [← hr] at hs ⊢
 rw [u4 k (by omega) r hs, ol k (by omega) r hs]
 simp only [Option.bind_some]
 by_cases hok : rOk r = true
 rotate_left
 ·rw [if_neg hok]; simp
 rw [if_pos hok]
 have hR := (tb r).1 hok
 have hE : qF r := ⟨hR, by rw [hr], by rw [hr], by rw [hr], by rw [hr]⟩
 have ho := As hE
 rw [BA k (by omega) [r] (by simp) (fun z hz => by rw [List.mem_singleton.1 hz]; exact hs), if_pos (show d8 [r] = true from ho.eng.rules)]
 simp only [Option.bind_some]
 rcases zf k (by omega) p1 h1 (by omega) hE 10 0 k (mq [r]) _ _ (by omega) (by omega) ho (by simp [mq]) (by simp [mq, bv]) with ⟨e', ns', out', q1, q2⟩ | q1
 ·rw [show ((0 : Nat) : Int) = 0 from rfl] at q1
  rw [q1]
  simp only [Option.bind_some]
  rw [r1, r2, r3, yN k (by omega) hE q2]
  simp only [Option.bind_some, if_true]
  have hlen : e'.Fired.length = out'.length := by rw [q2.fired, List.length_map]
  have hk4 := q2.eng.keys.1
  have hkey := hR.key
  rw [if_pos (by omega), if_pos (by omega), ae (by omega), ae (by omega), q2.key]
  simp only [Option.bind_some, if_true]
  rw [Ac k (by omega) q2]
  rfl
 ·rw [show ((0 : Nat) : Int) = 0 from rfl] at q1
  rw [q1]; rfl
end Go.Proofs.YtlbnmldopjadoaaGreat
