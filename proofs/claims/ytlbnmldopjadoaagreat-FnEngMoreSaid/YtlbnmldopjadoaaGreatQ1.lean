/- Plain lemmas about the functions over data; second part. -/
import Derived.Test.YtlbnmldopjadoaaGreatQ0
namespace Go.Proofs.YtlbnmldopjadoaaGreat
open Go Go.Vm
set_option linter.unusedVariables false
set_option linter.unusedSimpArgs false
theorem xD (o : GOcc) (n : Int) (h : Few o) (h1 : -100000 ≤ o.To + n ∧ o.To + n ≤ 200000) : fo.f o n = some (jj n o) := by
 unfold fo.f
 rw [qc _ h]
 simp only [Option.bind_some]
 rw [wr _ (by omega)]
 rfl
def gG (n : GNode) (d : List GOcc) : GNode := ⟨n.Kind, n.Sym, n.N, n.Kids, n.Pair, n.Span, d, n.Many⟩
theorem lW (k : Nat) (hk : 1000000000000 ≤ k) (kid : List GOcc) (ns : List GNode) (i m : Nat) (n : GNode) (hi : i < ns.length) (hm : m + kid.length ≤ 80000000000) (hd : Ok m n.Due) (hid : Ids kid) (ht : ∀ o ∈ kid, -100000 ≤ o.To + n.N ∧ o.To + n.N ≤ 200000) :
  aj.l2 k kid (i : Int) k (ns.set i n) 0 = some (ns.set i (gG n (kid.foldl (fun s o => cd s (jj n.N o)) n.Due))) := by
 have := ic (fun s : List GOcc => ns.set i (gG n s)) kid (fun s o => (fo.f o n.N).bind fun x => dJ.f k s x) (fun N s j => aj.l2 k kid (i : Int) N (ns.set i (gG n s)) j) (fun s o => cd s (jj n.N o)) (fun j s => Ok (m + j) s)
  (fun N s => by rw [aj.l2, if_neg (by omega)])
  (fun N s j h => by
   rw [aj.l2, if_pos (by omega), ae (by omega), Int.toNat_natCast, List.getElem?_eq_getElem h]
   simp only [Option.bind_some, Option.bind_assoc, Int.toNat_natCast]
   rw [List.getElem?_set_self hi]
   simp only [Option.bind_some, List.set_set]
   rw [wrS j (by omega)]
   rfl)
  (fun j s h hI => by
   have ho := hid _ (List.getElem_mem h)
   have hf : Few kid[j] := by have := dP ho; omega
   have := hI.2.2
   refine ⟨?_, (hI.put (rC ho)).mono (by omega)⟩
   rw [xD _ _ hf (ht _ (List.getElem_mem h))]
   simp only [Option.bind_some]
   rw [iS k hk _ _ (by omega) hI.2.1.few hI.1])
  k n.Due (by omega) (by simpa using hd)
 exact this.1
theorem nB (k : Nat) (hk : 1000000000000 ≤ k) (kid : List GOcc) (ns : List GNode) (i m : Nat) (n : GNode) (hi : i < ns.length) (hm : m + kid.length ≤ 80000000000) (hd : Ok m n.Due) (hid : Ids kid) (ht : ∀ o ∈ kid, -100000 ≤ o.To + n.N ∧ o.To + n.N ≤ 200000) :
  ak.l2 k kid (i : Int) k (ns.set i n) 0 = some (ns.set i (gG n (kid.foldl (fun s o => cd s (jj n.N o)) n.Due))) := by
 have := ic (fun s : List GOcc => ns.set i (gG n s)) kid (fun s o => (fo.f o n.N).bind fun x => dJ.f k s x) (fun N s j => ak.l2 k kid (i : Int) N (ns.set i (gG n s)) j) (fun s o => cd s (jj n.N o)) (fun j s => Ok (m + j) s)
  (fun N s => by rw [ak.l2, if_neg (by omega)])
  (fun N s j h => by
   rw [ak.l2, if_pos (by omega), ae (by omega), Int.toNat_natCast, List.getElem?_eq_getElem h]
   simp only [Option.bind_some, Option.bind_assoc, Int.toNat_natCast]
   rw [List.getElem?_set_self hi]
   simp only [Option.bind_some, List.set_set]
   rw [wrS j (by omega)]
   rfl)
  (fun j s h hI => by
   have ho := hid _ (List.getElem_mem h)
   have hf : Few kid[j] := by have := dP ho; omega
   have := hI.2.2
   refine ⟨?_, (hI.put (rC ho)).mono (by omega)⟩
   rw [xD _ _ hf (ht _ (List.getElem_mem h))]
   simp only [Option.bind_some]
   rw [iS k hk _ _ (by omega) hI.2.1.few hI.1])
  k n.Due (by omega) (by simpa using hd)
 exact this.1
theorem BR (k : Nat) (hk : 1000000000000 ≤ k) (g : GGraph) (t : Int) (N i : Nat) (ns : List GNode) (full : Bool) (found : List (List GOcc)) (n : GNode) (e : GEx) (es : List GEx) (hi : i < g.Nodes.length) (hg : g.Nodes.length ≤ 1000) (hl : ns.length = g.Nodes.length) (hn : ns[i]? = some n)
  (hx : gd e) (hR : kO es i n e) (hS : ly t n) (hf : found.length = i) (hF : jq t es found) (hs : 0 ≤ g.Seen ∧ g.Seen ≤ 23) (ht : 0 ≤ t ∧ t ≤ 100000) :
  aj.l1 k g t (N + 1) ns full found (i : Int) = aj.l1 k g t N (ns.set i (ff (aF g.Mode g.Seen t none found n))) (full || decide (40 < (ff (aF g.Mode g.Seen t none found n)).Many)) (found ++ [(aF g.Mode g.Seen t none found n).2]) ((i + 1 : Nat) : Int) := by
 have hout := uf (mode := g.Mode) (seen := g.Seen) (ev := none) hx hR hS hf hF hs
 have h12 := hx.2
 have hsm := hout.small h12
 obtain ⟨S1, S2, S3, S4, S5, m0, m1, T1, T2, T3, T4⟩ := hS
 have W : ∀ (q : Nat), q ≤ 30420000000 → IntKind.wrap .i64 (n.Many + (q : Int)) = n.Many + (q : Int) := fun q hq => wr _ (by omega)
 have fin : ∀ (m : GNode) (out : List GOcc), aF g.Mode g.Seen t none found n = (m, out) → m.Many = n.Many → ∀ m' : GNode, m' = ff (m, out) →
   (if full = true then aj.l1 k g t N (ns.set i m') true (found ++ [out]) ((i + 1 : Nat) : Int) else aj.l1 k g t N (ns.set i m') (decide (40 < n.Many + (out.length : Int))) (found ++ [out]) ((i + 1 : Nat) : Int)) =
   aj.l1 k g t N (ns.set i (ff (aF g.Mode g.Seen t none found n))) (full || decide (40 < (ff (aF g.Mode g.Seen t none found n)).Many)) (found ++ [(aF g.Mode g.Seen t none found n).2]) ((i + 1 : Nat) : Int) := by
  intro m out h hm m' hm'
  rw [h, hm']
  have : (ff (m, out)).Many = n.Many + (out.length : Int) := by show m.Many + _ = _; rw [hm]
  rw [this]
  cases full
  ·rw [if_neg (by decide), Bool.false_or]
  ·rw [if_pos rfl, Bool.true_or]
 rw [aj.l1, if_pos (by omega), ae (by omega), ae (by omega), Int.toNat_natCast, hn]
 simp only [Option.bind_some]
 rw [wrS i (by omega)]
 rcases iE (hJ hx.1).1 with ⟨hk', hK⟩ | ⟨hk', hK⟩ | ⟨hk', hK⟩ | ⟨hk', hK⟩ | ⟨hk', hK⟩ | ⟨hk', hK⟩ | ⟨hk', hK⟩ <;> rw [← hR.1] at hk'
 ·rw [if_pos hk', ae (by omega)]
  have hfd : aF g.Mode g.Seen t none found n = (n, []) := by unfold aF; rw [if_pos hk', if_neg (by simp)]
  rw [show IntKind.wrap .i64 (n.Many + 0) = n.Many + (([] : List GOcc).length : Int) from W 0 (by omega)]
  exact fin n _ hfd rfl _ rfl
 ·have a := bz hR hf hF (j := 0) (x := e.Kids[0]'(by omega)) (by simp)
  have b := bz hR hf hF (j := 1) (x := e.Kids[1]'(by omega)) (by simp)
  have hN : exN (e.Kids[0]'(by omega)) + exN (e.Kids[1]'(by omega)) + 1 = exN e := by obtain ⟨x, y, hK'⟩ := gF hK; rw [gH hK']; simp only [hK', List.getElem_cons_zero, List.getElem_cons_succ]
  have h2 := a.two b (by omega)
  rw [cq] at h2
  obtain ⟨q0, a1, a2, a3, _⟩ := cz hR hf (j := 0) (by rw [hK]; decide)
  obtain ⟨q1, b1, b2, b3, _⟩ := cz hR hf (j := 1) (by rw [hK]; decide)
  rw [if_neg (by omega), if_pos hk']
  rw [ae (by omega), a2]
  simp only [Option.bind_some]
  rw [ae (by omega), ae (by omega), Int.toNat_natCast, a3]
  simp only [Option.bind_some]
  rw [ae (by omega), b2]
  simp only [Option.bind_some]
  rw [ae (by omega), ae (by omega), Int.toNat_natCast, b3]
  simp only [Option.bind_some]
  rw [cA k hk _ _ (by omega) a.2.1.few b.2.1.few a.1]
  simp only [Option.bind_some]
  rw [ae (by omega)]
  have hfd : aF g.Mode g.Seen t none found n = (n, cm (av found n 0) (av found n 1)) := by unfold aF; rw [if_neg (by omega), if_pos hk']
  rw [hfd] at hsm
  rw [W _ hsm]
  exact fin n _ hfd rfl _ rfl
 ·have a := bz hR hf hF (j := 0) (x := e.Kids[0]'(by omega)) (by simp)
  have b := bz hR hf hF (j := 1) (x := e.Kids[1]'(by omega)) (by simp)
  have hN : exN (e.Kids[0]'(by omega)) + exN (e.Kids[1]'(by omega)) + 1 = exN e := by obtain ⟨x, y, hK'⟩ := gF hK; rw [gH hK']; simp only [hK', List.getElem_cons_zero, List.getElem_cons_succ]
  have h2 := a.two b (by omega)
  rw [cq] at h2
  obtain ⟨q0, a1, a2, a3, _⟩ := cz hR hf (j := 0) (by rw [hK]; decide)
  obtain ⟨q1, b1, b2, b3, _⟩ := cz hR hf (j := 1) (by rw [hK]; decide)
  rw [if_neg (by omega), if_neg (by omega), if_pos hk']
  rw [ae (by omega), a2]
  simp only [Option.bind_some]
  rw [ae (by omega), ae (by omega), Int.toNat_natCast, a3]
  simp only [Option.bind_some]
  rw [ae (by omega), b2]
  simp only [Option.bind_some]
  rw [ae (by omega), ae (by omega), Int.toNat_natCast, b3]
  simp only [Option.bind_some]
  rw [xx k hk g.Mode n.Pair _ _ 40 40 (av found n 0).length (av found n 1).length S1 S2 a.2.1 b.2.1 (Nat.le_refl _) (Nat.le_refl _) (by rw [Nat.mul_add, Nat.mul_comm (av found n 1).length (av found n 0).length]; omega)]
  simp only [Option.bind_some]
  rw [ae (by omega)]
  have hfd : aF g.Mode g.Seen t none found n = (⟨n.Kind, n.Sym, n.N, n.Kids, ⟨(gN g.Mode n.Pair.Left n.Pair.Right (av found n 0) (av found n 1)).1, (gN g.Mode n.Pair.Left n.Pair.Right (av found n 0) (av found n 1)).2.1⟩, n.Span, n.Due, n.Many⟩, (gN g.Mode n.Pair.Left n.Pair.Right (av found n 0) (av found n 1)).2.2) := by unfold aF; rw [if_neg (by omega), if_neg (by omega), if_pos hk']
  rw [hfd] at hsm
  simp only [List.set_set]
  rw [W _ hsm]
  exact fin _ _ hfd rfl _ rfl
 ·have a := bz hR hf hF (j := 0) (x := e.Kids[0]'(by omega)) (by simp)
  have b := bz hR hf hF (j := 1) (x := e.Kids[1]'(by omega)) (by simp)
  have hN : exN (e.Kids[0]'(by omega)) + exN (e.Kids[1]'(by omega)) + 1 = exN e := by obtain ⟨x, y, hK'⟩ := gF hK; rw [gH hK']; simp only [hK', List.getElem_cons_zero, List.getElem_cons_succ]
  have h2 := a.two b (by omega)
  rw [cq] at h2
  obtain ⟨q0, a1, a2, a3, _⟩ := cz hR hf (j := 0) (by rw [hK]; decide)
  obtain ⟨q1, b1, b2, b3, _⟩ := cz hR hf (j := 1) (by rw [hK]; decide)
  rw [if_neg (by omega), if_neg (by omega), if_neg (by omega), if_pos hk']
  rw [ae (by omega), a2]
  simp only [Option.bind_some]
  rw [ae (by omega), ae (by omega), Int.toNat_natCast, a3]
  simp only [Option.bind_some]
  rw [ae (by omega), b2]
  simp only [Option.bind_some]
  rw [ae (by omega), ae (by omega), Int.toNat_natCast, b3]
  simp only [Option.bind_some]
  rw [(tm k hk g.Mode n.Pair _ _ 40 (av found n 1).length (by omega) (by omega) (by omega) S1 a.2.1 b.2.1 (by omega) (Nat.le_refl _)).1]
  simp only [Option.bind_some]
  rw [ae (by omega)]
  have hfd : aF g.Mode g.Seen t none found n = (⟨n.Kind, n.Sym, n.N, n.Kids, ⟨(kR g.Mode n.Pair.Left (av found n 0) (av found n 1)).1, n.Pair.Right⟩, n.Span, n.Due, n.Many⟩, (kR g.Mode n.Pair.Left (av found n 0) (av found n 1)).2) := by unfold aF; rw [if_neg (by omega), if_neg (by omega), if_neg (by omega), if_pos hk']
  rw [hfd] at hsm
  simp only [List.set_set]
  rw [W _ hsm]
  exact fin _ _ hfd rfl _ rfl
 ·have a := bz hR hf hF (j := 0) (x := e.Kids[0]'(by omega)) (by simp)
  have b := bz hR hf hF (j := 1) (x := e.Kids[1]'(by omega)) (by simp)
  have c := bz hR hf hF (j := 2) (x := e.Kids[2]'(by omega)) (by simp)
  have hN : exN (e.Kids[0]'(by omega)) + exN (e.Kids[1]'(by omega)) + exN (e.Kids[2]'(by omega)) + 1 = exN e := by obtain ⟨x, y, z, hK'⟩ := jn hK; rw [jo hK']; simp only [hK', List.getElem_cons_zero, List.getElem_cons_succ]
  have := eV (e.Kids[1]'(by omega))
  have := eV (e.Kids[2]'(by omega))
  have h2 := a.two c (by omega)
  have h3 := b.small (by omega)
  rw [cq] at h2
  obtain ⟨q0, a1, a2, a3, _⟩ := cz hR hf (j := 0) (by rw [hK]; decide)
  obtain ⟨q1, b1, b2, b3, _⟩ := cz hR hf (j := 1) (by rw [hK]; decide)
  obtain ⟨q2, c1, c2, c3, _⟩ := cz hR hf (j := 2) (by rw [hK]; decide)
  rw [if_neg (by omega), if_neg (by omega), if_neg (by omega), if_neg (by omega), if_pos hk']
  rw [ae (by omega), a2]
  simp only [Option.bind_some]
  rw [ae (by omega), ae (by omega), Int.toNat_natCast, a3]
  simp only [Option.bind_some]
  rw [ae (by omega), b2]
  simp only [Option.bind_some]
  rw [ae (by omega), ae (by omega), Int.toNat_natCast, b3]
  simp only [Option.bind_some]
  rw [ae (by omega), c2]
  simp only [Option.bind_some]
  rw [ae (by omega), ae (by omega), Int.toNat_natCast, c3]
  simp only [Option.bind_some]
  rw [(ub k hk g.Mode n.Span _ _ _ 40 (av found n 2).length (by omega) (by omega) (by omega) S3 S4 a.2.1 b.2.1 c.2.1 (by omega) (by omega) (Nat.le_refl _)).1]
  simp only [Option.bind_some]
  rw [ae (by omega)]
  have hfd : aF g.Mode g.Seen t none found n = (⟨n.Kind, n.Sym, n.N, n.Kids, n.Pair, ⟨(gI g.Mode n.Span.Left n.Span.Mid (av found n 0) (av found n 1) (av found n 2)).1, (gI g.Mode n.Span.Left n.Span.Mid (av found n 0) (av found n 1) (av found n 2)).2.1⟩, n.Due, n.Many⟩, (gI g.Mode n.Span.Left n.Span.Mid (av found n 0) (av found n 1) (av found n 2)).2.2) := by unfold aF; rw [if_neg (by omega), if_neg (by omega), if_neg (by omega), if_neg (by omega), if_pos hk']
  rw [hfd] at hsm
  simp only [List.set_set]
  rw [W _ hsm]
  exact fin _ _ hfd rfl _ rfl
 ·have a := bz hR hf hF (j := 0) (x := e.Kids[0]'(by omega)) (by simp)
  have b := bz hR hf hF (j := 1) (x := e.Kids[1]'(by omega)) (by simp)
  have c := bz hR hf hF (j := 2) (x := e.Kids[2]'(by omega)) (by simp)
  have hN : exN (e.Kids[0]'(by omega)) + exN (e.Kids[1]'(by omega)) + exN (e.Kids[2]'(by omega)) + 1 = exN e := by obtain ⟨x, y, z, hK'⟩ := jn hK; rw [jo hK']; simp only [hK', List.getElem_cons_zero, List.getElem_cons_succ]
  have := eV (e.Kids[1]'(by omega))
  have := eV (e.Kids[2]'(by omega))
  have h2 := a.two b (by omega)
  have h3 := c.small (by omega)
  rw [cq] at h2
  obtain ⟨q0, a1, a2, a3, _⟩ := cz hR hf (j := 0) (by rw [hK]; decide)
  obtain ⟨q1, b1, b2, b3, _⟩ := cz hR hf (j := 1) (by rw [hK]; decide)
  obtain ⟨q2, c1, c2, c3, _⟩ := cz hR hf (j := 2) (by rw [hK]; decide)
  rw [if_neg (by omega), if_neg (by omega), if_neg (by omega), if_neg (by omega), if_neg (by omega), if_pos hk']
  rw [ae (by omega), a2]
  simp only [Option.bind_some]
  rw [ae (by omega), ae (by omega), Int.toNat_natCast, a3]
  simp only [Option.bind_some]
  rw [ae (by omega), b2]
  simp only [Option.bind_some]
  rw [ae (by omega), ae (by omega), Int.toNat_natCast, b3]
  simp only [Option.bind_some]
  rw [ae (by omega), c2]
  simp only [Option.bind_some]
  rw [ae (by omega), ae (by omega), Int.toNat_natCast, c3]
  simp only [Option.bind_some]
  rw [(rE k hk g.Mode n.Span _ _ _ 40 (av found n 1).length (by omega) (by omega) (by omega) S3 S4 a.2.1 b.2.1 c.2.1 (by omega) (Nat.le_refl _) (by omega)).1]
  simp only [Option.bind_some]
  rw [ae (by omega)]
  have hfd : aF g.Mode g.Seen t none found n = (⟨n.Kind, n.Sym, n.N, n.Kids, n.Pair, ⟨(cM g.Mode n.Span.Left n.Span.Mid (av found n 0) (av found n 1) (av found n 2)).1, (cM g.Mode n.Span.Left n.Span.Mid (av found n 0) (av found n 1) (av found n 2)).2.1⟩, n.Due, n.Many⟩, (cM g.Mode n.Span.Left n.Span.Mid (av found n 0) (av found n 1) (av found n 2)).2.2) := by unfold aF; rw [if_neg (by omega), if_neg (by omega), if_neg (by omega), if_neg (by omega), if_neg (by omega), if_pos hk']
  rw [hfd] at hsm
  simp only [List.set_set]
  rw [W _ hsm]
  exact fin _ _ hfd rfl _ rfl
 ·have a := bz hR hf hF (j := 0) (x := e.Kids[0]'(by omega)) (by simp)
  have hN : exN (e.Kids[0]'(by omega)) + 1 = exN e := by obtain ⟨x, hK'⟩ := tW hK.1; rw [ur hK']; simp only [hK', List.getElem_cons_zero]
  have hsa := a.small (by omega)
  obtain ⟨q0, a1, a2, a3, _⟩ := cz hR hf (j := 0) (by rw [hK.1]; decide)
  have hd := S5.filter (fun o => !(o.To == t))
  have := S5.2.2
  rw [if_neg (by omega), if_neg (by omega), if_neg (by omega), if_neg (by omega), if_neg (by omega), if_neg (by omega), sx k hk _ _ (by omega)]
  simp only [Option.bind_some]
  have hth : aP.f (fun y0 => cW.f y0 t) k n.Due = some (n.Due.filter fun o => !(o.To == t)) := lD k hk _ _ _ (by omega) (fun x hx => rfl)
  rw [hth]
  simp only [Option.bind_some]
  rw [ae (by omega), a2]
  simp only [Option.bind_some]
  rw [ae (by omega), ae (by omega), Int.toNat_natCast, a3]
  simp only [Option.bind_some]
  have hl2 := lW k hk (av found n 0) ns i 40 (gG n (n.Due.filter fun o => !(o.To == t))) (by omega) (by omega) hd a.2.1 (fun o ho => by have := a.2.2.2 o ho; have h7 := hR.2.2.1; have hh := hK.2; show -100000 ≤ o.To + n.N ∧ o.To + n.N ≤ 200000; omega)
  simp only [gG] at hl2
  rw [hl2]
  simp only [Option.bind_some]
  rw [ae (by omega), List.getElem?_set_self (by omega)]
  simp only [Option.bind_some, List.set_set]
  have hfd : aF g.Mode g.Seen t none found n = (⟨n.Kind, n.Sym, n.N, n.Kids, n.Pair, n.Span, AW t n.N n.Due (av found n 0), n.Many⟩, atM n.Due t) := by unfold aF; rw [if_neg (by omega), if_neg (by omega), if_neg (by omega), if_neg (by omega), if_neg (by omega), if_neg (by omega)]
  rw [hfd] at hsm
  show (if full = true then aj.l1 k g t N (ns.set i ⟨n.Kind, n.Sym, n.N, n.Kids, n.Pair, n.Span, _, IntKind.wrap .i64 (n.Many + ((atM n.Due t).length : Int))⟩) true _ _ else aj.l1 k g t N (ns.set i ⟨n.Kind, n.Sym, n.N, n.Kids, n.Pair, n.Span, _, IntKind.wrap .i64 (n.Many + ((atM n.Due t).length : Int))⟩) (decide (40 < IntKind.wrap .i64 (n.Many + ((atM n.Due t).length : Int)))) _ _) = _
  rw [W _ hsm]
  exact fin _ _ hfd rfl _ rfl
theorem BH (k : Nat) (hk : 1000000000000 ≤ k) (g : GGraph) (t : Int) (x : GEv) (N i : Nat) (ns : List GNode) (full : Bool) (found : List (List GOcc)) (n : GNode) (e : GEx) (es : List GEx) (hi : i < g.Nodes.length) (hg : g.Nodes.length ≤ 1000) (hl : ns.length = g.Nodes.length) (hn : ns[i]? = some n)
  (hx : gd e) (hR : kO es i n e) (hS : ly t n) (hf : found.length = i) (hF : jq t es found) (hs : 0 ≤ g.Seen ∧ g.Seen ≤ 23) (ht : 0 ≤ t ∧ t ≤ 100000) :
  ak.l1 k g t x (N + 1) ns full found (i : Int) = ak.l1 k g t x N (ns.set i (ff (aF g.Mode g.Seen t (some x.Sym) found n))) (full || decide (40 < (ff (aF g.Mode g.Seen t (some x.Sym) found n)).Many)) (found ++ [(aF g.Mode g.Seen t (some x.Sym) found n).2]) ((i + 1 : Nat) : Int) := by
 have hout := uf (mode := g.Mode) (seen := g.Seen) (ev := (some x.Sym)) hx hR hS hf hF hs
 have h12 := hx.2
 have hsm := hout.small h12
 obtain ⟨S1, S2, S3, S4, S5, m0, m1, T1, T2, T3, T4⟩ := hS
 have W : ∀ (q : Nat), q ≤ 30420000000 → IntKind.wrap .i64 (n.Many + (q : Int)) = n.Many + (q : Int) := fun q hq => wr _ (by omega)
 have fin : ∀ (m : GNode) (out : List GOcc), aF g.Mode g.Seen t (some x.Sym) found n = (m, out) → m.Many = n.Many → ∀ m' : GNode, m' = ff (m, out) →
   (if full = true then ak.l1 k g t x N (ns.set i m') true (found ++ [out]) ((i + 1 : Nat) : Int) else ak.l1 k g t x N (ns.set i m') (decide (40 < n.Many + (out.length : Int))) (found ++ [out]) ((i + 1 : Nat) : Int)) =
   ak.l1 k g t x N (ns.set i (ff (aF g.Mode g.Seen t (some x.Sym) found n))) (full || decide (40 < (ff (aF g.Mode g.Seen t (some x.Sym) found n)).Many)) (found ++ [(aF g.Mode g.Seen t (some x.Sym) found n).2]) ((i + 1 : Nat) : Int) := by
  intro m out h hm m' hm'
  rw [h, hm']
  have : (ff (m, out)).Many = n.Many + (out.length : Int) := by show m.Many + _ = _; rw [hm]
  rw [this]
  cases full
  ·rw [if_neg (by decide), Bool.false_or]
  ·rw [if_pos rfl, Bool.true_or]
 rw [ak.l1, if_pos (by omega), ae (by omega), ae (by omega), Int.toNat_natCast, hn]
 simp only [Option.bind_some]
 rw [wrS i (by omega)]
 rcases iE (hJ hx.1).1 with ⟨hk', hK⟩ | ⟨hk', hK⟩ | ⟨hk', hK⟩ | ⟨hk', hK⟩ | ⟨hk', hK⟩ | ⟨hk', hK⟩ | ⟨hk', hK⟩ <;> rw [← hR.1] at hk'
 ·rw [if_pos hk']
  by_cases hsym : x.Sym = n.Sym
  ·rw [if_pos hsym, ae (by omega)]
   have hfd : aF g.Mode g.Seen t (some x.Sym) found n = (n, [⟨t, t, [g.Seen]⟩]) := by unfold aF; rw [if_pos hk', if_pos (by rw [hsym])]
   rw [show IntKind.wrap .i64 (n.Many + ((1 : Nat) : Int)) = n.Many + (([⟨t, t, [g.Seen]⟩] : List GOcc).length : Int) from W 1 (by omega)]
   exact fin n _ hfd rfl _ rfl
  ·rw [if_neg hsym, ae (by omega)]
   have hfd : aF g.Mode g.Seen t (some x.Sym) found n = (n, []) := by unfold aF; rw [if_pos hk', if_neg (by simpa using hsym)]
   rw [show IntKind.wrap .i64 (n.Many + 0) = n.Many + (([] : List GOcc).length : Int) from W 0 (by omega)]
   exact fin n _ hfd rfl _ rfl
 ·have a := bz hR hf hF (j := 0) (x := e.Kids[0]'(by omega)) (by simp)
  have b := bz hR hf hF (j := 1) (x := e.Kids[1]'(by omega)) (by simp)
  have hN : exN (e.Kids[0]'(by omega)) + exN (e.Kids[1]'(by omega)) + 1 = exN e := by obtain ⟨x, y, hK'⟩ := gF hK; rw [gH hK']; simp only [hK', List.getElem_cons_zero, List.getElem_cons_succ]
  have h2 := a.two b (by omega)
  rw [cq] at h2
  obtain ⟨q0, a1, a2, a3, _⟩ := cz hR hf (j := 0) (by rw [hK]; decide)
  obtain ⟨q1, b1, b2, b3, _⟩ := cz hR hf (j := 1) (by rw [hK]; decide)
  rw [if_neg (by omega), if_pos hk']
  rw [ae (by omega), a2]
  simp only [Option.bind_some]
  rw [ae (by omega), ae (by omega), Int.toNat_natCast, a3]
  simp only [Option.bind_some]
  rw [ae (by omega), b2]
  simp only [Option.bind_some]
  rw [ae (by omega), ae (by omega), Int.toNat_natCast, b3]
  simp only [Option.bind_some]
  rw [cA k hk _ _ (by omega) a.2.1.few b.2.1.few a.1]
  simp only [Option.bind_some]
  rw [ae (by omega)]
  have hfd : aF g.Mode g.Seen t (some x.Sym) found n = (n, cm (av found n 0) (av found n 1)) := by unfold aF; rw [if_neg (by omega), if_pos hk']
  rw [hfd] at hsm
  rw [W _ hsm]
  exact fin n _ hfd rfl _ rfl
 ·have a := bz hR hf hF (j := 0) (x := e.Kids[0]'(by omega)) (by simp)
  have b := bz hR hf hF (j := 1) (x := e.Kids[1]'(by omega)) (by simp)
  have hN : exN (e.Kids[0]'(by omega)) + exN (e.Kids[1]'(by omega)) + 1 = exN e := by obtain ⟨x, y, hK'⟩ := gF hK; rw [gH hK']; simp only [hK', List.getElem_cons_zero, List.getElem_cons_succ]
  have h2 := a.two b (by omega)
  rw [cq] at h2
  obtain ⟨q0, a1, a2, a3, _⟩ := cz hR hf (j := 0) (by rw [hK]; decide)
  obtain ⟨q1, b1, b2, b3, _⟩ := cz hR hf (j := 1) (by rw [hK]; decide)
  rw [if_neg (by omega), if_neg (by omega), if_pos hk']
  rw [ae (by omega), a2]
  simp only [Option.bind_some]
  rw [ae (by omega), ae (by omega), Int.toNat_natCast, a3]
  simp only [Option.bind_some]
  rw [ae (by omega), b2]
  simp only [Option.bind_some]
  rw [ae (by omega), ae (by omega), Int.toNat_natCast, b3]
  simp only [Option.bind_some]
  rw [xx k hk g.Mode n.Pair _ _ 40 40 (av found n 0).length (av found n 1).length S1 S2 a.2.1 b.2.1 (Nat.le_refl _) (Nat.le_refl _) (by rw [Nat.mul_add, Nat.mul_comm (av found n 1).length (av found n 0).length]; omega)]
  simp only [Option.bind_some]
  rw [ae (by omega)]
  have hfd : aF g.Mode g.Seen t (some x.Sym) found n = (⟨n.Kind, n.Sym, n.N, n.Kids, ⟨(gN g.Mode n.Pair.Left n.Pair.Right (av found n 0) (av found n 1)).1, (gN g.Mode n.Pair.Left n.Pair.Right (av found n 0) (av found n 1)).2.1⟩, n.Span, n.Due, n.Many⟩, (gN g.Mode n.Pair.Left n.Pair.Right (av found n 0) (av found n 1)).2.2) := by unfold aF; rw [if_neg (by omega), if_neg (by omega), if_pos hk']
  rw [hfd] at hsm
  simp only [List.set_set]
  rw [W _ hsm]
  exact fin _ _ hfd rfl _ rfl
 ·have a := bz hR hf hF (j := 0) (x := e.Kids[0]'(by omega)) (by simp)
  have b := bz hR hf hF (j := 1) (x := e.Kids[1]'(by omega)) (by simp)
  have hN : exN (e.Kids[0]'(by omega)) + exN (e.Kids[1]'(by omega)) + 1 = exN e := by obtain ⟨x, y, hK'⟩ := gF hK; rw [gH hK']; simp only [hK', List.getElem_cons_zero, List.getElem_cons_succ]
  have h2 := a.two b (by omega)
  rw [cq] at h2
  obtain ⟨q0, a1, a2, a3, _⟩ := cz hR hf (j := 0) (by rw [hK]; decide)
  obtain ⟨q1, b1, b2, b3, _⟩ := cz hR hf (j := 1) (by rw [hK]; decide)
  rw [if_neg (by omega), if_neg (by omega), if_neg (by omega), if_pos hk']
  rw [ae (by omega), a2]
  simp only [Option.bind_some]
  rw [ae (by omega), ae (by omega), Int.toNat_natCast, a3]
  simp only [Option.bind_some]
  rw [ae (by omega), b2]
  simp only [Option.bind_some]
  rw [ae (by omega), ae (by omega), Int.toNat_natCast, b3]
  simp only [Option.bind_some]
  rw [(tm k hk g.Mode n.Pair _ _ 40 (av found n 1).length (by omega) (by omega) (by omega) S1 a.2.1 b.2.1 (by omega) (Nat.le_refl _)).1]
  simp only [Option.bind_some]
  rw [ae (by omega)]
  have hfd : aF g.Mode g.Seen t (some x.Sym) found n = (⟨n.Kind, n.Sym, n.N, n.Kids, ⟨(kR g.Mode n.Pair.Left (av found n 0) (av found n 1)).1, n.Pair.Right⟩, n.Span, n.Due, n.Many⟩, (kR g.Mode n.Pair.Left (av found n 0) (av found n 1)).2) := by unfold aF; rw [if_neg (by omega), if_neg (by omega), if_neg (by omega), if_pos hk']
  rw [hfd] at hsm
  simp only [List.set_set]
  rw [W _ hsm]
  exact fin _ _ hfd rfl _ rfl
 ·have a := bz hR hf hF (j := 0) (x := e.Kids[0]'(by omega)) (by simp)
  have b := bz hR hf hF (j := 1) (x := e.Kids[1]'(by omega)) (by simp)
  have c := bz hR hf hF (j := 2) (x := e.Kids[2]'(by omega)) (by simp)
  have hN : exN (e.Kids[0]'(by omega)) + exN (e.Kids[1]'(by omega)) + exN (e.Kids[2]'(by omega)) + 1 = exN e := by obtain ⟨x, y, z, hK'⟩ := jn hK; rw [jo hK']; simp only [hK', List.getElem_cons_zero, List.getElem_cons_succ]
  have := eV (e.Kids[1]'(by omega))
  have := eV (e.Kids[2]'(by omega))
  have h2 := a.two c (by omega)
  have h3 := b.small (by omega)
  rw [cq] at h2
  obtain ⟨q0, a1, a2, a3, _⟩ := cz hR hf (j := 0) (by rw [hK]; decide)
  obtain ⟨q1, b1, b2, b3, _⟩ := cz hR hf (j := 1) (by rw [hK]; decide)
  obtain ⟨q2, c1, c2, c3, _⟩ := cz hR hf (j := 2) (by rw [hK]; decide)
  rw [if_neg (by omega), if_neg (by omega), if_neg (by omega), if_neg (by omega), if_pos hk']
  rw [ae (by omega), a2]
  simp only [Option.bind_some]
  rw [ae (by omega), ae (by omega), Int.toNat_natCast, a3]
  simp only [Option.bind_some]
  rw [ae (by omega), b2]
  simp only [Option.bind_some]
  rw [ae (by omega), ae (by omega), Int.toNat_natCast, b3]
  simp only [Option.bind_some]
  rw [ae (by omega), c2]
  simp only [Option.bind_some]
  rw [ae (by omega), ae (by omega), Int.toNat_natCast, c3]
  simp only [Option.bind_some]
  rw [(ub k hk g.Mode n.Span _ _ _ 40 (av found n 2).length (by omega) (by omega) (by omega) S3 S4 a.2.1 b.2.1 c.2.1 (by omega) (by omega) (Nat.le_refl _)).1]
  simp only [Option.bind_some]
  rw [ae (by omega)]
  have hfd : aF g.Mode g.Seen t (some x.Sym) found n = (⟨n.Kind, n.Sym, n.N, n.Kids, n.Pair, ⟨(gI g.Mode n.Span.Left n.Span.Mid (av found n 0) (av found n 1) (av found n 2)).1, (gI g.Mode n.Span.Left n.Span.Mid (av found n 0) (av found n 1) (av found n 2)).2.1⟩, n.Due, n.Many⟩, (gI g.Mode n.Span.Left n.Span.Mid (av found n 0) (av found n 1) (av found n 2)).2.2) := by unfold aF; rw [if_neg (by omega), if_neg (by omega), if_neg (by omega), if_neg (by omega), if_pos hk']
  rw [hfd] at hsm
  simp only [List.set_set]
  rw [W _ hsm]
  exact fin _ _ hfd rfl _ rfl
 ·have a := bz hR hf hF (j := 0) (x := e.Kids[0]'(by omega)) (by simp)
  have b := bz hR hf hF (j := 1) (x := e.Kids[1]'(by omega)) (by simp)
  have c := bz hR hf hF (j := 2) (x := e.Kids[2]'(by omega)) (by simp)
  have hN : exN (e.Kids[0]'(by omega)) + exN (e.Kids[1]'(by omega)) + exN (e.Kids[2]'(by omega)) + 1 = exN e := by obtain ⟨x, y, z, hK'⟩ := jn hK; rw [jo hK']; simp only [hK', List.getElem_cons_zero, List.getElem_cons_succ]
  have := eV (e.Kids[1]'(by omega))
  have := eV (e.Kids[2]'(by omega))
  have h2 := a.two b (by omega)
  have h3 := c.small (by omega)
  rw [cq] at h2
  obtain ⟨q0, a1, a2, a3, _⟩ := cz hR hf (j := 0) (by rw [hK]; decide)
  obtain ⟨q1, b1, b2, b3, _⟩ := cz hR hf (j := 1) (by rw [hK]; decide)
  obtain ⟨q2, c1, c2, c3, _⟩ := cz hR hf (j := 2) (by rw [hK]; decide)
  rw [if_neg (by omega), if_neg (by omega), if_neg (by omega), if_neg (by omega), if_neg (by omega), if_pos hk']
  rw [ae (by omega), a2]
  simp only [Option.bind_some]
  rw [ae (by omega), ae (by omega), Int.toNat_natCast, a3]
  simp only [Option.bind_some]
  rw [ae (by omega), b2]
  simp only [Option.bind_some]
  rw [ae (by omega), ae (by omega), Int.toNat_natCast, b3]
  simp only [Option.bind_some]
  rw [ae (by omega), c2]
  simp only [Option.bind_some]
  rw [ae (by omega), ae (by omega), Int.toNat_natCast, c3]
  simp only [Option.bind_some]
  rw [(rE k hk g.Mode n.Span _ _ _ 40 (av found n 1).length (by omega) (by omega) (by omega) S3 S4 a.2.1 b.2.1 c.2.1 (by omega) (Nat.le_refl _) (by omega)).1]
  simp only [Option.bind_some]
  rw [ae (by omega)]
  have hfd : aF g.Mode g.Seen t (some x.Sym) found n = (⟨n.Kind, n.Sym, n.N, n.Kids, n.Pair, ⟨(cM g.Mode n.Span.Left n.Span.Mid (av found n 0) (av found n 1) (av found n 2)).1, (cM g.Mode n.Span.Left n.Span.Mid (av found n 0) (av found n 1) (av found n 2)).2.1⟩, n.Due, n.Many⟩, (cM g.Mode n.Span.Left n.Span.Mid (av found n 0) (av found n 1) (av found n 2)).2.2) := by unfold aF; rw [if_neg (by omega), if_neg (by omega), if_neg (by omega), if_neg (by omega), if_neg (by omega), if_pos hk']
  rw [hfd] at hsm
  simp only [List.set_set]
  rw [W _ hsm]
  exact fin _ _ hfd rfl _ rfl
 ·have a := bz hR hf hF (j := 0) (x := e.Kids[0]'(by omega)) (by simp)
  have hN : exN (e.Kids[0]'(by omega)) + 1 = exN e := by obtain ⟨x, hK'⟩ := tW hK.1; rw [ur hK']; simp only [hK', List.getElem_cons_zero]
  have hsa := a.small (by omega)
  obtain ⟨q0, a1, a2, a3, _⟩ := cz hR hf (j := 0) (by rw [hK.1]; decide)
  have hd := S5.filter (fun o => !(o.To == t))
  have := S5.2.2
  rw [if_neg (by omega), if_neg (by omega), if_neg (by omega), if_neg (by omega), if_neg (by omega), if_neg (by omega), sx k hk _ _ (by omega)]
  simp only [Option.bind_some]
  have hth : aP.f (fun y0 => cW.f y0 t) k n.Due = some (n.Due.filter fun o => !(o.To == t)) := lD k hk _ _ _ (by omega) (fun x hx => rfl)
  rw [hth]
  simp only [Option.bind_some]
  rw [ae (by omega), a2]
  simp only [Option.bind_some]
  rw [ae (by omega), ae (by omega), Int.toNat_natCast, a3]
  simp only [Option.bind_some]
  have hl2 := nB k hk (av found n 0) ns i 40 (gG n (n.Due.filter fun o => !(o.To == t))) (by omega) (by omega) hd a.2.1 (fun o ho => by have := a.2.2.2 o ho; have h7 := hR.2.2.1; have hh := hK.2; show -100000 ≤ o.To + n.N ∧ o.To + n.N ≤ 200000; omega)
  simp only [gG] at hl2
  rw [hl2]
  simp only [Option.bind_some]
  rw [ae (by omega), List.getElem?_set_self (by omega)]
  simp only [Option.bind_some, List.set_set]
  have hfd : aF g.Mode g.Seen t (some x.Sym) found n = (⟨n.Kind, n.Sym, n.N, n.Kids, n.Pair, n.Span, AW t n.N n.Due (av found n 0), n.Many⟩, atM n.Due t) := by unfold aF; rw [if_neg (by omega), if_neg (by omega), if_neg (by omega), if_neg (by omega), if_neg (by omega), if_neg (by omega)]
  rw [hfd] at hsm
  show (if full = true then ak.l1 k g t x N (ns.set i ⟨n.Kind, n.Sym, n.N, n.Kids, n.Pair, n.Span, _, IntKind.wrap .i64 (n.Many + ((atM n.Due t).length : Int))⟩) true _ _ else ak.l1 k g t x N (ns.set i ⟨n.Kind, n.Sym, n.N, n.Kids, n.Pair, n.Span, _, IntKind.wrap .i64 (n.Many + ((atM n.Due t).length : Int))⟩) (decide (40 < IntKind.wrap .i64 (n.Many + ((atM n.Due t).length : Int)))) _ _) = _
  rw [W _ hsm]
  exact fin _ _ hfd rfl _ rfl
theorem zv {mode seen t : Int} {ev : Option Int} {f g : List (List GOcc)} {n : GNode} (h0 : n.Kind = 1 ∨ av f n 0 = av g n 0) (h1 : n.Kind = 1 ∨ n.Kind = 7 ∨ av f n 1 = av g n 1) (h2 : (n.Kind ≠ 5 ∧ n.Kind ≠ 6) ∨ av f n 2 = av g n 2)
  (hk : 1 ≤ n.Kind ∧ n.Kind ≤ 7) : aF mode seen t ev f n = aF mode seen t ev g n := by
 unfold aF
 by_cases k1 : n.Kind = 1
 ·rw [if_pos k1, if_pos k1]
 have e0 : av f n 0 = av g n 0 := h0.resolve_left k1
 rw [if_neg k1, if_neg k1, e0]
 by_cases k7 : n.Kind = 7
 ·rw [if_neg (by omega), if_neg (by omega), if_neg (by omega), if_neg (by omega), if_neg (by omega), if_neg (by omega), if_neg (by omega), if_neg (by omega), if_neg (by omega), if_neg (by omega)]
 have e1 : av f n 1 = av g n 1 := (h1.resolve_left k1).resolve_left k7
 rw [e1]
 by_cases k5 : n.Kind = 5 ∨ n.Kind = 6
 ·have e2 : av f n 2 = av g n 2 := h2.resolve_left (by omega)
  rw [e2]
 ·rw [if_neg (show ¬ n.Kind = 5 by omega), if_neg (show ¬ n.Kind = 5 by omega), if_neg (show ¬ n.Kind = 6 by omega), if_neg (show ¬ n.Kind = 6 by omega)]
theorem yo {e : GEx} (hx : gd e) {n : GNode} {es : List GEx} {i : Nat} (hR : kO es i n e) : 1 ≤ n.Kind ∧ n.Kind ≤ 7 ∧ (n.Kind = 1 ∨ 0 < e.Kids.length) ∧ (n.Kind = 1 ∨ n.Kind = 7 ∨ 1 < e.Kids.length) ∧ ((n.Kind ≠ 5 ∧ n.Kind ≠ 6) ∨ 2 < e.Kids.length) := by
 rcases iE (hJ hx.1).1 with ⟨hk, hl⟩ | ⟨hk, hl⟩ | ⟨hk, hl⟩ | ⟨hk, hl⟩ | ⟨hk, hl⟩ | ⟨hk, hl⟩ | ⟨hk, hl⟩ <;> rw [← hR.1] at hk <;> omega
theorem nG {es : List GEx} {i : Nat} {n : GNode} {e : GEx} {found : List (List GOcc)} (h : kO es i n e) (hi : i ≤ found.length) {j : Nat} (hj : j < e.Kids.length) : av (found.take i) n j = av found n j := by
 obtain ⟨q, h1, h2, h3⟩ := h.2.2.2.2 j hj
 unfold av
 have e0 : n.Kids.getD j 0 = (q : Int) := by rw [List.getD_eq_getElem?_getD, h2]; rfl
 rw [e0, Int.toNat_natCast]
 rw [List.getD_eq_getElem?_getD, List.getD_eq_getElem?_getD, List.getElem?_take_of_lt h1]
theorem zD {mode seen t : Int} {ev : Option Int} {es : List GEx} {i : Nat} {n : GNode} {e : GEx} {found : List (List GOcc)} (hx : gd e) (h : kO es i n e) (hi : i ≤ found.length) : aF mode seen t ev (found.take i) n = aF mode seen t ev found n := by
 obtain ⟨a, b, c, d, f⟩ := yo hx h
 exact zv (c.imp id fun q => nG h hi q) (d.imp id fun q => q.imp id fun q => nG h hi q) (f.imp id fun q => nG h hi q) ⟨a, b⟩
/-- the parts up to a place -/
def eD (mode seen t : Int) (ev : Option Int) (ns : List GNode) (i : Nat) : List GNode × List (List GOcc) := (ns.take i).foldl (my mode seen t ev) ([], [])
theorem kK {mode seen t : Int} {ev : Option Int} {ns : List GNode} {i : Nat} (h : i < ns.length) : eD mode seen t ev ns (i + 1) = my mode seen t ev (eD mode seen t ev ns i) ns[i] := by
 unfold eD
 rw [zr ns i h, List.foldl_append]; rfl
theorem oa (mode seen t : Int) (ev : Option Int) (ns : List GNode) : eD mode seen t ev ns ns.length = aC mode seen t ev ns := by
 unfold eD aC; rw [List.take_length]
theorem jl {mode seen t : Int} {ev : Option Int} {ns : List GNode} : ∀ {i : Nat}, i ≤ ns.length → (eD mode seen t ev ns i).1.length = i ∧ (eD mode seen t ev ns i).2.length = i
 | 0, _ => by simp [eD]
 | i + 1, h => by
  have := jl (mode := mode) (seen := seen) (t := t) (ev := ev) (ns := ns) (i := i) (by omega)
  rw [kK (by omega)]
  simp [my, this.1, this.2]
theorem uM {mode seen t : Int} {ev : Option Int} {ns : List GNode} (j : Nat) : ∀ (d : Nat), j + d ≤ ns.length → (eD mode seen t ev ns (j + d)).1.take j = (eD mode seen t ev ns j).1 ∧ (eD mode seen t ev ns (j + d)).2.take j = (eD mode seen t ev ns j).2
 | 0, h => by
  have := jl (mode := mode) (seen := seen) (t := t) (ev := ev) (ns := ns) (i := j) (by omega)
  exact ⟨List.take_of_length_le (by rw [Nat.add_zero]; omega), List.take_of_length_le (by rw [Nat.add_zero]; omega)⟩
 | d + 1, h => by
  have ih := uM (mode := mode) (seen := seen) (t := t) (ev := ev) (ns := ns) j d (by omega)
  have hl := jl (mode := mode) (seen := seen) (t := t) (ev := ev) (ns := ns) (i := j + d) (by omega)
  rw [show j + (d + 1) = j + d + 1 by omega, kK (by omega)]
  simp only [my]
  rw [List.take_append_of_le_length (by omega), List.take_append_of_le_length (by omega)]
  exact ih
theorem vL {mode seen t : Int} {ev : Option Int} {ns : List GNode} {j : Nat} (h : j ≤ ns.length) : (aC mode seen t ev ns).1.take j = (eD mode seen t ev ns j).1 ∧ (aC mode seen t ev ns).2.take j = (eD mode seen t ev ns j).2 := by
 have := uM (mode := mode) (seen := seen) (t := t) (ev := ev) (ns := ns) j (ns.length - j) (by omega)
 rw [show j + (ns.length - j) = ns.length by omega, oa] at this
 exact this
theorem fX (mode seen t : Int) (ev : Option Int) (ns : List GNode) : (aC mode seen t ev ns).1.length = ns.length ∧ (aC mode seen t ev ns).2.length = ns.length := by
 rw [← oa]; exact jl (Nat.le_refl _)
/-- every part, out of all that was found -/
theorem kJ {mode seen t : Int} {ev : Option Int} {es : List GEx} {ns : List GNode} (hR : Rep es ns) {i : Nat} {n : GNode} (hn : ns[i]? = some n) :
  (aC mode seen t ev ns).1[i]? = some (ff (aF mode seen t ev (aC mode seen t ev ns).2 n)) ∧ (aC mode seen t ev ns).2[i]? = some (aF mode seen t ev (aC mode seen t ev ns).2 n).2 := by
 have hlt : i < ns.length := (List.getElem?_eq_some_iff.1 hn).1
 have hni : ns[i] = n := (List.getElem?_eq_some_iff.1 hn).2
 obtain ⟨e, he, hx, hr⟩ := hR.2 i n hn
 have p1 := vL (mode := mode) (seen := seen) (t := t) (ev := ev) (ns := ns) (j := i + 1) (by omega)
 have p0 := vL (mode := mode) (seen := seen) (t := t) (ev := ev) (ns := ns) (j := i) (by omega)
 have hl := jl (mode := mode) (seen := seen) (t := t) (ev := ev) (ns := ns) (i := i) (by omega)
 have pl := fX mode seen t ev ns
 have hf : aF mode seen t ev (eD mode seen t ev ns i).2 n = aF mode seen t ev (aC mode seen t ev ns).2 n := by
  rw [← p0.2]; exact zD hx hr (by omega)
 rw [kK hlt] at p1
 simp only [my] at p1
 rw [hni, hf] at p1
 constructor
 ·have := congrArg (fun l => l[i]?) p1.1
  simp only [List.getElem?_take_of_lt (Nat.lt_succ_self i)] at this
  rw [this, List.getElem?_append_right (by omega), hl.1, Nat.sub_self]; rfl
 ·have := congrArg (fun l => l[i]?) p1.2
  simp only [List.getElem?_take_of_lt (Nat.lt_succ_self i)] at this
  rw [this, List.getElem?_append_right (by omega), hl.2, Nat.sub_self]; rfl
/-- what holds of all parts ahead of a point in time -/
def mA (t : Int) (es : List GEx) (ns : List GNode) : Prop := Rep es ns ∧ ns.length ≤ 12 ∧ ∀ n ∈ ns, ly t n
theorem nJ {mode seen t : Int} {ev : Option Int} {es : List GEx} {ns : List GNode} (hR : mA t es ns) (hs : 0 ≤ seen ∧ seen ≤ 23) : ∀ {i : Nat}, i ≤ ns.length → jq t es (eD mode seen t ev ns i).2
 | 0, _ => fun j l h => by simp [eD] at h
 | i + 1, h => by
  have ih := nJ (mode := mode) (ev := ev) hR hs (i := i) (by omega)
  have hl := jl (mode := mode) (seen := seen) (t := t) (ev := ev) (ns := ns) (i := i) (by omega)
  rw [kK (by omega)]
  obtain ⟨e, he, hx, hr⟩ := hR.1.2 i ns[i] (List.getElem?_eq_getElem (by omega))
  intro j l hj
  simp only [my] at hj
  rcases Nat.lt_or_ge j i with h1 | h1
  ·rw [List.getElem?_append_left (by omega)] at hj
   exact ih j l hj
  ·rw [List.getElem?_append_right (by omega)] at hj
   have : j = i := by
    have := (List.getElem?_eq_some_iff.1 hj).1
    simp at this; omega
   subst this
   rw [hl.2, Nat.sub_self, List.getElem?_cons_zero] at hj
   cases hj
   exact ⟨e, he, uf hx hr (hR.2.2 _ (List.getElem_mem _)) hl.2 ih hs⟩
theorem qt {mode seen t : Int} {ev : Option Int} {es : List GEx} {ns : List GNode} (hR : mA t es ns) (hs : 0 ≤ seen ∧ seen ≤ 23) : jq t es (aC mode seen t ev ns).2 := by
 rw [← oa]; exact nJ hR hs (Nat.le_refl _)
def ib (l : List GOcc) : Prop := Asc l ∧ Ids l
theorem ib.ok {l : List GOcc} (h : ib l) : Ok l.length l := ⟨h.1, h.2, Nat.le_refl _⟩
theorem Ok.tidy {m : Nat} {l : List GOcc} (h : Ok m l) : ib l := ⟨h.1, h.2.1⟩
theorem qX {mode : Int} {p : GOcc → GOcc → Bool} : ∀ (r : List GOcc) (s : List GOcc × List GOcc), (r.foldl (eu mode p) s).1.length ≤ s.1.length
 | [], _ => Nat.le_refl _
 | o :: r, s => by
  rw [List.foldl_cons]
  exact Nat.le_trans (qX r _) (List.length_filter_le _ _)
theorem o8 {mode : Int} {p : GOcc → GOcc → Bool} : ∀ (r : List GOcc) (s : List GOcc × List GOcc), ib s.1 → ib (r.foldl (eu mode p) s).1
 | [], _, h => h
 | o :: r, s, h => by
  rw [List.foldl_cons]
  exact o8 r _ (Ok.tidy ((h.ok).rem (gone := _)))
theorem ib.merge {l m : List GOcc} (h : ib l) (hm : ib m) : ib (cm l m) := ⟨fb h.1, hO h.2 hm.2⟩
theorem FO.tidy {t : Int} {s : Nat} {l : List GOcc} (h : FO t s l) : ib l := ⟨h.1, h.2.1⟩
theorem zL {n t : Int} (hn : 1 ≤ n ∧ n ≤ 20) : ∀ (kid acc : List GOcc), (∀ o ∈ kid, o.To = t) → (∀ o ∈ acc, t < o.To ∧ o.To ≤ t + 20) → ∀ o ∈ kid.foldl (fun s o => cd s (jj n o)) acc, t < o.To ∧ o.To ≤ t + 20
 | [], _, _, h => h
 | x :: kid, acc, hk, h => by
  rw [List.foldl_cons]
  refine zL hn kid _ (fun o ho => hk o (by simp [ho])) (fun o ho => ?_)
  rcases eF.1 ho with h1 | rfl
  ·exact h o h1
  ·have := hk x (by simp); show t < x.To + n ∧ x.To + n ≤ t + 20; omega
/-- how much a part's own lists may grow by its j-th operand -/
def kl (e : GEx) (found : List (List GOcc)) (n : GNode) (j : Nat) : Nat := if j < e.Kids.length then (av found n j).length else 0
def ya (t : Int) (n : GNode) : Prop := (ib n.Pair.Left ∧ ib n.Pair.Right ∧ ib n.Span.Left ∧ ib n.Span.Mid ∧ ib n.Due) ∧
 All (fun o => o.To ≤ t) n.Pair.Left ∧ All (fun o => o.To ≤ t) n.Pair.Right ∧ All (fun o => o.To ≤ t) n.Span.Left ∧ All (fun o => o.To ≤ t) n.Span.Mid
def Bs (e : GEx) (found : List (List GOcc)) (n r : GNode) : Prop := r.Pair.Left.length ≤ n.Pair.Left.length + kl e found n 0 ∧ r.Pair.Right.length ≤ n.Pair.Right.length + kl e found n 1 ∧
 r.Span.Left.length ≤ n.Span.Left.length + kl e found n 0 ∧ r.Span.Mid.length ≤ n.Span.Mid.length + (if n.Kind = 5 then kl e found n 1 else kl e found n 2) ∧ r.Due.length ≤ n.Due.length + kl e found n 0
def Ac (n r : GNode) : Prop := r.Kind = n.Kind ∧ r.Sym = n.Sym ∧ r.N = n.N ∧ r.Kids = n.Kids ∧ r.Many = n.Many
theorem iy {mode seen t : Int} {ev : Option Int} {found : List (List GOcc)} {n : GNode} : Ac n (aF mode seen t ev found n).1 := by
 unfold aF Ac
 repeat' split
 all_goals exact ⟨rfl, rfl, rfl, rfl, rfl⟩
theorem zh {t seen mode : Int} {ev : Option Int} {es : List GEx} {i : Nat} {n : GNode} {e : GEx} {found : List (List GOcc)} (hx : gd e) (hR : kO es i n e) (hS : ly t n) (hi : i ≤ found.length) (hF : jq t es (found.take i))
  (hd : ∀ o ∈ n.Due, t ≤ o.To ∧ o.To ≤ t + 20) :
  ya t (aF mode seen t ev found n).1 ∧ Bs e found n (aF mode seen t ev found n).1 ∧ ∀ o ∈ (aF mode seen t ev found n).1.Due, (t < o.To ∨ ((aF mode seen t ev found n).1.Due = n.Due ∧ n.Kind ≠ 7)) ∧ o.To ≤ t + 20 := by
 obtain ⟨S1, S2, S3, S4, S5, _, _, T1, T2, T3, T4⟩ := hS
 have h12 := hx.2
 have hl' : (found.take i).length = i := by rw [List.length_take]; omega
 have base : ya t n := ⟨⟨S1.tidy, S2.tidy, S3.tidy, S4.tidy, S5.tidy⟩, T1, T2, T3, T4⟩
 have gr : Bs e found n n := ⟨by omega, by omega, by omega, by omega, by omega⟩
 have du : n.Kind ≠ 7 → ∀ o ∈ n.Due, (t < o.To ∨ (n.Due = n.Due ∧ n.Kind ≠ 7)) ∧ o.To ≤ t + 20 := fun h7 o ho => ⟨.inr ⟨rfl, h7⟩, (hd o ho).2⟩
 have KF : ∀ j (h : j < e.Kids.length), FO t (exN e.Kids[j]) (av found n j) := fun j h => by
  have := bz hR hl' hF (j := j) (x := e.Kids[j]) (by simp)
  rwa [nG hR hi h] at this
 unfold aF
 rcases iE (hJ hx.1).1 with ⟨hk, hl⟩ | ⟨hk, hl⟩ | ⟨hk, hl⟩ | ⟨hk, hl⟩ | ⟨hk, hl⟩ | ⟨hk, hl⟩ | ⟨hk, hl⟩ <;> rw [← hR.1] at hk
 ·rw [if_pos hk]; exact ⟨base, gr, du (by omega)⟩
 ·rw [if_neg (by omega), if_pos hk]; exact ⟨base, gr, du (by omega)⟩
 ·have a := KF 0 (by omega)
  have b := KF 1 (by omega)
  have hN : exN (e.Kids[0]'(by omega)) + exN (e.Kids[1]'(by omega)) + 1 = exN e := by obtain ⟨x, y, hK'⟩ := gF hl; rw [gH hK']; simp only [hK', List.getElem_cons_zero, List.getElem_cons_succ]
  have A := xO (mode := mode) (S1.tidy.ok) (S2.tidy.ok) a.2.1 b.2.1 (Nat.le_refl _) (Nat.le_refl _)
  have B := Au (mode := mode) T1 T2 a.2.2.2 b.2.2.2
  have k0 : kl e found n 0 = (av found n 0).length := if_pos (by omega)
  have k1 : kl e found n 1 = (av found n 1).length := if_pos (by omega)
  rw [if_neg (by omega), if_neg (by omega), if_pos hk]
  refine ⟨⟨⟨A.1.tidy, A.2.1.tidy, S3.tidy, S4.tidy, S5.tidy⟩, B.1, B.2.1, T3, T4⟩, ⟨?_, ?_, gr.2.2.1, gr.2.2.2.1, gr.2.2.2.2⟩, du (by omega)⟩
  ·rw [k0]; exact A.1.2.2
  ·rw [k1]; exact A.2.1.2.2
 ·have a := KF 0 (by omega)
  have b := KF 1 (by omega)
  have k0 : kl e found n 0 = (av found n 0).length := if_pos (by omega)
  have B := nA (mode := mode) (p := before) (av found n 1) (n.Pair.Left, []) b.2.2.2 T1 (by simp)
  have C := o8 (mode := mode) (p := before) (av found n 1) (n.Pair.Left, []) S1.tidy
  rw [if_neg (by omega), if_neg (by omega), if_neg (by omega), if_pos hk]
  refine ⟨⟨⟨C.merge a.tidy, S2.tidy, S3.tidy, S4.tidy, S5.tidy⟩, lS B.1 (fun o ho => by rw [a.2.2.2 o ho]; omega), T2, T3, T4⟩, ⟨?_, gr.2.1, gr.2.2.1, gr.2.2.2.1, gr.2.2.2.2⟩, du (by omega)⟩
  rw [k0]
  exact Nat.le_trans (cv _ _) (Nat.add_le_add_right (qX _ _) _)
 ·have a := KF 0 (by omega)
  have b := KF 1 (by omega)
  have c := KF 2 (by omega)
  have k0 : kl e found n 0 = (av found n 0).length := if_pos (by omega)
  have k1 : kl e found n 1 = (av found n 1).length := if_pos (by omega)
  have B := nA (mode := mode) (p := eQ n.Span.Mid) (av found n 2) (n.Span.Left, []) c.2.2.2 T3 (by simp)
  have C := o8 (mode := mode) (p := eQ n.Span.Mid) (av found n 2) (n.Span.Left, []) S3.tidy
  rw [if_neg (by omega), if_neg (by omega), if_neg (by omega), if_neg (by omega), if_pos hk]
  refine ⟨⟨⟨S1.tidy, S2.tidy, C.merge a.tidy, S4.tidy.merge b.tidy, S5.tidy⟩, T1, T2, lS B.1 (fun o ho => by rw [a.2.2.2 o ho]; omega), lS T4 (fun o ho => by rw [b.2.2.2 o ho]; omega)⟩, ⟨gr.1, gr.2.1, ?_, ?_, gr.2.2.2.2⟩, du (by omega)⟩
  ·rw [k0]; exact Nat.le_trans (cv _ _) (Nat.add_le_add_right (qX _ _) _)
  ·rw [if_pos hk, k1]; exact cv _ _
 ·have a := KF 0 (by omega)
  have c := KF 2 (by omega)
  have k0 : kl e found n 0 = (av found n 0).length := if_pos (by omega)
  have k2 : kl e found n 2 = (av found n 2).length := if_pos (by omega)
  rw [if_neg (by omega), if_neg (by omega), if_neg (by omega), if_neg (by omega), if_neg (by omega), if_pos hk]
  refine ⟨⟨⟨S1.tidy, S2.tidy, S3.tidy.merge a.tidy, S4.tidy.merge c.tidy, S5.tidy⟩, T1, T2, lS T3 (fun o ho => by rw [a.2.2.2 o ho]; omega), lS T4 (fun o ho => by rw [c.2.2.2 o ho]; omega)⟩, ⟨gr.1, gr.2.1, ?_, ?_, gr.2.2.2.2⟩, du (by omega)⟩
  ·rw [k0]; exact cv _ _
  ·rw [if_neg (by omega), k2]; exact cv _ _
 ·have a := KF 0 (by omega)
  have k0 : kl e found n 0 = (av found n 0).length := if_pos (by omega)
  have hN := hR.2.2.1
  rw [if_neg (by omega), if_neg (by omega), if_neg (by omega), if_neg (by omega), if_neg (by omega), if_neg (by omega)]
  have D := zI (n := n.N) (av found n 0) _ n.Due.length ((S5.tidy.ok).filter (fun o => !(o.To == t))) a.2.1
  have E := zL (n := n.N) (t := t) (by omega) (av found n 0) (n.Due.filter fun o => !(o.To == t)) a.2.2.2 (fun o ho => by
   obtain ⟨h1, h2⟩ := List.mem_filter.1 ho
   have := hd o h1
   simp only [Bool.not_eq_true', beq_eq_false_iff_ne, ne_eq] at h2
   omega)
  refine ⟨⟨⟨S1.tidy, S2.tidy, S3.tidy, S4.tidy, D.tidy⟩, T1, T2, T3, T4⟩, ⟨gr.1, gr.2.1, gr.2.2.1, gr.2.2.2.1, ?_⟩, fun o ho => ⟨.inl (E o ho).1, (E o ho).2⟩⟩
  rw [k0]; exact D.2.2
def gS (ns : List GNode) (n : GNode) (j : Nat) : Int := ((ns[(n.Kids.getD j 0).toNat]?).map (·.Many)).getD 0
def BG (T : Int) (ns : List GNode) (n : GNode) : Prop := ya T n ∧ (0 ≤ n.Many ∧ n.Many ≤ 40) ∧ (n.Kind ≠ 7 → n.Due = []) ∧ (∀ o ∈ n.Due, T < o.To ∧ o.To ≤ T + 20) ∧
 ((n.Pair.Left.length : Int) ≤ gS ns n 0 ∧ (n.Pair.Right.length : Int) ≤ gS ns n 1 ∧ (n.Span.Left.length : Int) ≤ gS ns n 0 ∧ (n.Span.Mid.length : Int) ≤ (if n.Kind = 5 then gS ns n 1 else gS ns n 2) ∧ (n.Due.length : Int) ≤ gS ns n 0)
def fx (T : Int) (es : List GEx) (ns : List GNode) : Prop := Rep es ns ∧ (1 ≤ ns.length ∧ ns.length ≤ 12) ∧ ∀ n ∈ ns, BG T ns n
theorem jh {T : Int} {es : List GEx} {ns : List GNode} (h : fx T es ns) (n : GNode) (j : Nat) : 0 ≤ gS ns n j ∧ gS ns n j ≤ 40 := by
 unfold gS
 cases hq : ns[(n.Kids.getD j 0).toNat]? with
 | none => simp
 | some m =>
  have := (h.2.2 m (List.mem_of_getElem? hq)).2.1
  simpa using this
theorem All.weak {Q R : GOcc → Prop} {l : List GOcc} (h : All Q l) (f : ∀ o, Q o → R o) : All R l := fun o ho => f o (h o ho)
theorem fx.ready {T t : Int} {es : List GEx} {ns : List GNode} (h : fx T es ns) (ht : T ≤ t) : mA t es ns := by
 refine ⟨h.1, h.2.1.2, fun n hn => ?_⟩
 obtain ⟨⟨⟨g1, g2, g3, g4, g5⟩, t1, t2, t3, t4⟩, hm, _, _, l1, l2, l3, l4, l5⟩ := h.2.2 n hn
 have q0 := jh h n 0
 have q1 := jh h n 1
 have q2 := jh h n 2
 refine ⟨g1.ok.mono (by omega), g2.ok.mono (by omega), g3.ok.mono (by omega), g4.ok.mono (by split at l4 <;> omega), g5.ok.mono (by omega), hm.1, hm.2, ?_⟩
 exact ⟨t1.weak fun o ho => Int.le_trans ho ht, t2.weak fun o ho => Int.le_trans ho ht, t3.weak fun o ho => Int.le_trans ho ht, t4.weak fun o ho => Int.le_trans ho ht⟩
theorem vS {ns : List GNode} (h : dM ns = false) : ∀ n ∈ ns, n.Many ≤ 40 := fun n hn => by
 unfold dM at h
 rw [List.any_eq_false] at h
 have := h n hn
 simpa using this
theorem xU {mode seen t : Int} {ev : Option Int} {es : List GEx} {ns : List GNode} (hR : Rep es ns) {i : Nat} {n r : GNode} {e : GEx} (hn : ns[i]? = some n) (hr : kO es i n e) (hk : r.Kids = n.Kids) (j : Nat) :
  gS ns n j + (kl e (aC mode seen t ev ns).2 n j : Nat) ≤ gS (aC mode seen t ev ns).1 r j := by
 have hlt : i < ns.length := (List.getElem?_eq_some_iff.1 hn).1
 unfold gS
 rw [hk]
 cases hq : ns[(n.Kids.getD j 0).toNat]? with
 | some m =>
  obtain ⟨p1, p2⟩ := kJ (mode := mode) (seen := seen) (t := t) (ev := ev) hR hq
  rw [p1]
  simp only [Option.map_some, Option.getD_some]
  have km := (iy (mode := mode) (seen := seen) (t := t) (ev := ev) (found := (aC mode seen t ev ns).2) (n := m)).2.2.2.2
  show m.Many + _ ≤ (aF mode seen t ev _ m).1.Many + _
  rw [km]
  unfold kl
  split
  ·rename_i hj
   have : av (aC mode seen t ev ns).2 n j = (aF mode seen t ev (aC mode seen t ev ns).2 m).2 := by
    unfold av
    rw [List.getD_eq_getElem?_getD, p2]; rfl
   rw [this]; exact Int.le_refl _
  ·omega
 | none =>
  have pl := fX mode seen t ev ns
  have hge : ns.length ≤ (n.Kids.getD j 0).toNat := List.getElem?_eq_none_iff.1 hq
  rw [List.getElem?_eq_none (by omega)]
  simp only [Option.map_none, Option.getD_none]
  unfold kl
  split
  ·rename_i hj
   obtain ⟨q, h1, h2, _⟩ := hr.2.2.2.2 j hj
   have : n.Kids.getD j 0 = (q : Int) := by rw [List.getD_eq_getElem?_getD, h2]; rfl
   rw [this] at hge
   omega
  ·omega
/-- one more point in time, nothing due before it -/
theorem mr {T t : Int} {mode seen : Int} {ev : Option Int} {es : List GEx} {ns : List GNode} (h : fx T es ns) (ht : T ≤ t) (hd : ∀ n ∈ ns, ∀ o ∈ n.Due, t ≤ o.To) (hs : 0 ≤ seen ∧ seen ≤ 23) (hfull : dM (aC mode seen t ev ns).1 = false) :
  fx t es (aC mode seen t ev ns).1 := by
 have hR := h.ready ht
 have pl := fX mode seen t ev ns
 have pf := qt (mode := mode) (ev := ev) hR hs
 refine ⟨⟨by rw [pl.1]; exact h.1.1, fun i r hr => ?_⟩, by rw [pl.1]; exact h.2.1, fun r hr => ?_⟩
 ·have hi : i < ns.length := by have := (List.getElem?_eq_some_iff.1 hr).1; omega
  obtain ⟨e, he, hx, hn⟩ := h.1.2 i ns[i] (List.getElem?_eq_getElem hi)
  rw [(kJ h.1 (List.getElem?_eq_getElem hi)).1] at hr
  cases hr
  obtain ⟨k1, k2, k3, k4, _⟩ := iy (mode := mode) (seen := seen) (t := t) (ev := ev) (found := (aC mode seen t ev ns).2) (n := ns[i])
  refine ⟨e, he, hx, k1.trans hn.1, k2.trans hn.2.1, k3.trans hn.2.2.1, ?_, ?_⟩
  ·show ((aF mode seen t ev (aC mode seen t ev ns).2 ns[i]).1).Kids.length = _; rw [k4]; exact hn.2.2.2.1
  ·show ∀ j, j < e.Kids.length → ∃ q : Nat, q < i ∧ ((aF mode seen t ev (aC mode seen t ev ns).2 ns[i]).1).Kids[j]? = some (q : Int) ∧ es[q]? = e.Kids[j]?; rw [k4]; exact hn.2.2.2.2
 ·obtain ⟨i, hi, hri⟩ := List.mem_iff_getElem.1 hr
  have hi' : i < ns.length := by omega
  obtain ⟨e, he, hx, hn⟩ := h.1.2 i ns[i] (List.getElem?_eq_getElem hi')
  have hm : ns[i] ∈ ns := List.getElem_mem hi'
  have pg := (kJ (mode := mode) (seen := seen) (t := t) (ev := ev) h.1 (List.getElem?_eq_getElem hi')).1
  rw [List.getElem?_eq_getElem hi] at pg
  have pg := (Option.some.inj pg).symm.trans hri
  have hno := vS hfull r hr
  obtain ⟨hl, hmany, hdue, hdt, l1, l2, l3, l4, l5⟩ := h.2.2 _ hm
  obtain ⟨k1, k2, k3, k4, k5⟩ := iy (mode := mode) (seen := seen) (t := t) (ev := ev) (found := (aC mode seen t ev ns).2) (n := ns[i])
  obtain ⟨a, b, c⟩ := zh (mode := mode) (seen := seen) (ev := ev) (found := (aC mode seen t ev ns).2) hx hn (hR.2.2 _ hm) (by omega) (fun j l hj => pf j l (by rcases Nat.lt_or_ge j i with h1 | h1; rwa [List.getElem?_take_of_lt h1] at hj; rw [List.getElem?_take_eq_none h1] at hj; cases hj))
   (fun o ho => ⟨hd _ hm o ho, by have := (hdt o ho).2; omega⟩)
  have K := fun j => xU (mode := mode) (seen := seen) (t := t) (ev := ev) (r := r) h.1 (List.getElem?_eq_getElem hi') hn (by rw [← pg]; exact k4) j
  have K0 := K 0
  have K1 := K 1
  have K2 := K 2
  have hk : r.Kind = ns[i].Kind := by rw [← pg]; exact k1
  have hdu : ns[i].Kind ≠ 7 → (aF mode seen t ev (aC mode seen t ev ns).2 ns[i]).1.Due = [] := fun h7 => by
   cases hc : (aF mode seen t ev (aC mode seen t ev ns).2 ns[i]).1.Due with
   | nil => rfl
   | cons o l =>
    exfalso
    have e0 : ns[i].Due = [] := hdue h7
    have g5 := b.2.2.2.2
    obtain ⟨a2, b2, c2, d2, e2⟩ := yo hx hn
    have hcc : (aF mode seen t ev (aC mode seen t ev ns).2 ns[i]).1.Due = ns[i].Due := by
     unfold aF
     repeat' split
     all_goals first | rfl | omega
    rw [hcc, e0] at hc; cases hc
  refine ⟨?_, ⟨?_, hno⟩, ?_, ?_, ?_⟩
  ·rw [← pg]; exact a
  ·rw [← pg]; show 0 ≤ (aF mode seen t ev _ ns[i]).1.Many + _; rw [k5]; omega
  ·intro h7; rw [hk] at h7; rw [← pg]; exact hdu h7
  ·rw [← pg]
   intro o ho
   have := c o ho
   refine ⟨this.1.elim id fun q => ?_, this.2⟩
   have hz : o ∈ (aF mode seen t ev (aC mode seen t ev ns).2 ns[i]).1.Due := ho
   rw [hdu q.2] at hz; simp at hz
  ·have e1 : r.Pair = (aF mode seen t ev (aC mode seen t ev ns).2 ns[i]).1.Pair := by rw [← pg]; rfl
   have e2 : r.Span = (aF mode seen t ev (aC mode seen t ev ns).2 ns[i]).1.Span := by rw [← pg]; rfl
   have e3 : r.Due = (aF mode seen t ev (aC mode seen t ev ns).2 ns[i]).1.Due := by rw [← pg]; rfl
   obtain ⟨b1, b2, b3, b4, b5⟩ := b
   rw [e1, e2, e3, hk]
   refine ⟨by omega, by omega, by omega, ?_, by omega⟩
   split at l4
   ·rename_i h5; rw [if_pos h5] at b4 ⊢; omega
   ·rename_i h5; rw [if_neg h5] at b4 ⊢; omega
def gm (t : Int) (l : List GOcc) : Int := l.foldl (fun t o => if o.To < t then o.To else t) t
/-- the first time before another one at which something is due, or that one -/
def bZ (ns : List GNode) (before : Int) : Int := ns.foldl (fun t n => gm t n.Due) before
theorem vZ : ∀ (l : List GOcc) (t : Int), gm t l ≤ t ∧ ∀ o ∈ l, gm t l ≤ o.To
 | [], t => ⟨Int.le_refl _, fun o h => by simp at h⟩
 | x :: l, t => by
  have ih := vZ l (if x.To < t then x.To else t)
  show gm (if x.To < t then x.To else t) l ≤ t ∧ ∀ o ∈ x :: l, gm (if x.To < t then x.To else t) l ≤ o.To
  refine ⟨Int.le_trans ih.1 (by split <;> omega), fun o ho => ?_⟩
  rcases List.mem_cons.1 ho with rfl | ho
  ·exact Int.le_trans ih.1 (by split <;> omega)
  ·exact ih.2 o ho
theorem wc : ∀ (l : List GOcc) (t : Int), gm t l = t ∨ ∃ o ∈ l, gm t l = o.To
 | [], t => .inl rfl
 | x :: l, t => by
  show gm (if x.To < t then x.To else t) l = t ∨ ∃ o ∈ x :: l, gm (if x.To < t then x.To else t) l = o.To
  rcases wc l (if x.To < t then x.To else t) with h | ⟨o, h1, h2⟩
  ·split at h
   ·rename_i hx; rw [if_pos hx]; exact .inr ⟨x, by simp, h⟩
   ·rename_i hx; rw [if_neg hx]; exact .inl h
  ·exact .inr ⟨o, by simp [h1], h2⟩
theorem nQ : ∀ (ns : List GNode) (b : Int), bZ ns b ≤ b ∧ ∀ n ∈ ns, ∀ o ∈ n.Due, bZ ns b ≤ o.To
 | [], b => ⟨Int.le_refl _, fun n h => by simp at h⟩
 | x :: ns, b => by
  have ih := nQ ns (gm b x.Due)
  have m := vZ x.Due b
  refine ⟨Int.le_trans ih.1 m.1, fun n hn o ho => ?_⟩
  rcases List.mem_cons.1 hn with rfl | hn
  ·exact Int.le_trans ih.1 (m.2 o ho)
  ·exact ih.2 n hn o ho
theorem nL : ∀ (ns : List GNode) (b : Int), bZ ns b = b ∨ ∃ n ∈ ns, ∃ o ∈ n.Due, bZ ns b = o.To
 | [], b => .inl rfl
 | x :: ns, b => by
  show bZ ns (gm b x.Due) = b ∨ ∃ n ∈ x :: ns, ∃ o ∈ n.Due, bZ ns (gm b x.Due) = o.To
  rcases nL ns (gm b x.Due) with h | ⟨n, h1, o, h2, h3⟩
  ·rcases wc x.Due b with q | ⟨o, q1, q2⟩
   ·exact .inl (h.trans q)
   ·exact .inr ⟨x, by simp, o, q1, h.trans q2⟩
  ·exact .inr ⟨n, by simp [h1], o, h2, h3⟩
def fj (found : List (List GOcc)) : List GOcc := found.getLast?.getD []
def cE (mode seen before : Int) : Nat → List GNode → List GOcc → List GNode × Bool × List GOcc
 | 0, ns, out => (ns, false, out)
 | f + 1, ns, out => if bZ ns before < before then
   (if dM (aC mode seen (bZ ns before) none ns).1 = true then ((aC mode seen (bZ ns before) none ns).1, true, out ++ fj (aC mode seen (bZ ns before) none ns).2)
    else cE mode seen before f (aC mode seen (bZ ns before) none ns).1 (out ++ fj (aC mode seen (bZ ns before) none ns).2))
  else (ns, false, out)
/-- an event: nothing, if there is too much -/
def iI (mode seen : Int) (ns : List GNode) (e : GEv) : Option (List GNode × List GOcc) :=
 if (cE mode seen e.At 1001 ns []).2.1 = true then none
 else if dM (aC mode seen e.At (some e.Sym) (cE mode seen e.At 1001 ns []).1).1 = true then none
 else some ((aC mode seen e.At (some e.Sym) (cE mode seen e.At 1001 ns []).1).1, (cE mode seen e.At 1001 ns []).2.2 ++ fj (aC mode seen e.At (some e.Sym) (cE mode seen e.At 1001 ns []).1).2)
theorem wJ {found : List (List GOcc)} (h : 1 ≤ found.length) : found[found.length - 1]? = some (fj found) := by
 unfold fj
 rw [List.getLast?_eq_getElem?, List.getElem?_eq_getElem (by omega)]; rfl
theorem lw {t : Int} {mode seen : Int} {ev : Option Int} {es : List GEx} {ns : List GNode} (hR : mA t es ns) (h1 : 1 ≤ ns.length) (hs : 0 ≤ seen ∧ seen ≤ 23) : ∃ e, gd e ∧ FO t (exN e) (fj (aC mode seen t ev ns).2) := by
 have pl := fX mode seen t ev ns
 have hl := wJ (found := (aC mode seen t ev ns).2) (by omega)
 obtain ⟨e, he, hf⟩ := qt (mode := mode) (ev := ev) hR hs _ _ hl
 have hi : (aC mode seen t ev ns).2.length - 1 < ns.length := by omega
 obtain ⟨e', he', hx, _⟩ := hR.1.2 _ _ (List.getElem?_eq_getElem hi)
 rw [he] at he'; cases he'
 exact ⟨e, hx, hf⟩
theorem ru {t : Int} {mode seen : Int} {ev : Option Int} {es : List GEx} {ns : List GNode} (hR : mA t es ns) (h1 : 1 ≤ ns.length) (hs : 0 ≤ seen ∧ seen ≤ 23) (hf : dM (aC mode seen t ev ns).1 = false) : (fj (aC mode seen t ev ns).2).length ≤ 40 := by
 have pl := fX mode seen t ev ns
 have hl := wJ (found := (aC mode seen t ev ns).2) (by omega)
 have hi : ns.length - 1 < ns.length := by omega
 obtain ⟨p1, p2⟩ := kJ (mode := mode) (seen := seen) (t := t) (ev := ev) hR.1 (List.getElem?_eq_getElem hi)
 rw [pl.2, p2] at hl
 have hl := Option.some.inj hl
 have := vS hf _ (List.mem_of_getElem? p1)
 have h0 := (hR.2.2 _ (List.getElem_mem hi)).2.2.2.2.2.1
 have k5 := (iy (mode := mode) (seen := seen) (t := t) (ev := ev) (found := (aC mode seen t ev ns).2) (n := ns[ns.length - 1])).2.2.2.2
 rw [← hl]
 have this : (aF mode seen t ev (aC mode seen t ev ns).2 ns[ns.length - 1]).1.Many + ((aF mode seen t ev (aC mode seen t ev ns).2 ns[ns.length - 1]).2.length : Int) ≤ 40 := this
 rw [k5] at this
 omega
/-- all that is due before an event -/
theorem om {mode seen before : Int} {es : List GEx} (hs : 0 ≤ seen ∧ seen ≤ 23) : ∀ (f : Nat) (ns : List GNode) (out : List GOcc) (T : Int), fx T es ns → T < before → (before - T).toNat ≤ f → Ids out → out.length + 40 * f ≤ 1000000 →
  (cE mode seen before f ns out).2.1 = false → ∃ T', T ≤ T' ∧ T' < before ∧ fx T' es (cE mode seen before f ns out).1 ∧ (∀ n ∈ (cE mode seen before f ns out).1, ∀ o ∈ n.Due, before ≤ o.To) ∧ Ids (cE mode seen before f ns out).2.2 ∧ (cE mode seen before f ns out).2.2.length ≤ 1000000
 | 0, ns, out, T, h, hT, hf, _, _, _ => by omega
 | f + 1, ns, out, T, h, hT, hf, ho, hol, hno => by
  have nl := nQ ns before
  unfold cE at hno ⊢
  by_cases hlt : bZ ns before < before
  ·rw [if_pos hlt] at hno ⊢
   by_cases hfu : dM (aC mode seen (bZ ns before) none ns).1 = true
   ·rw [if_pos hfu] at hno; cases hno
   ·rw [if_neg hfu] at hno ⊢
    have hT' : T < bZ ns before := by
     rcases nL ns before with q | ⟨n, q1, o, q2, q3⟩
     ·omega
     ·rw [q3]; exact ((h.2.2 n q1).2.2.2.1 o q2).1
    have hfu' : dM (aC mode seen (bZ ns before) none ns).1 = false := by simpa using hfu
    have hR := h.ready (t := bZ ns before) (by omega)
    have pi := mr (mode := mode) (ev := none) h (Int.le_of_lt hT') nl.2 hs hfu'
    obtain ⟨e, _, lf⟩ := lw (mode := mode) (ev := none) hR h.2.1.1 hs
    have ll := ru (mode := mode) (ev := none) hR h.2.1.1 hs hfu'
    obtain ⟨T', a, b, c⟩ := om hs f _ (out ++ fj (aC mode seen (bZ ns before) none ns).2) (bZ ns before) pi hlt (by omega)
     (fun o hh => by rcases List.mem_append.1 hh with q | q; exact ho o q; exact lf.2.1 o q) (by rw [List.length_append]; omega) hno
    exact ⟨T', by omega, b, c⟩
  ·rw [if_neg hlt] at hno ⊢
   exact ⟨T, Int.le_refl _, hT, h, fun n hn o hh => by have := nl.2 n hn o hh; omega, ho, show out.length ≤ 1000000 by omega⟩
theorem AZ {mode seen : Int} {es : List GEx} {ns ns' : List GNode} {e : GEv} {out : List GOcc} {T : Int} (h : fx T es ns) (hT : 0 ≤ T ∧ T < e.At ∧ e.At ≤ 1000) (hs : 0 ≤ seen ∧ seen ≤ 23) (hst : iI mode seen ns e = some (ns', out)) :
  fx e.At es ns' ∧ Ids out ∧ out.length ≤ 1000040 := by
 unfold iI at hst
 split at hst
 ·cases hst
 split at hst
 ·cases hst
 rename_i h1 h2
 cases hst
 obtain ⟨T', a, b, c, d, f, g⟩ := om (mode := mode) (before := e.At) hs 1001 ns [] T h hT.2.1 (by omega) (fun o hh => by simp at hh) (by simp) (by simpa using h1)
 have h2' : dM (aC mode seen e.At (some e.Sym) (cE mode seen e.At 1001 ns []).1).1 = false := by simpa using h2
 have hR := c.ready (t := e.At) (by omega)
 obtain ⟨x, _, lf⟩ := lw (mode := mode) (ev := some e.Sym) hR c.2.1.1 hs
 have ll := ru (mode := mode) (ev := some e.Sym) hR c.2.1.1 hs h2'
 refine ⟨mr c (by omega) d hs h2', fun o hh => ?_, by rw [List.length_append]; omega⟩
 rcases List.mem_append.1 hh with q | q
 ·exact f o q
 ·exact lf.2.1 o q
theorem sI {mode seen t : Int} {ev : Option Int} {es : List GEx} {nodes : List GNode} (hR : mA t es nodes) (hs : 0 ≤ seen ∧ seen ≤ 23) (full0 : Bool) (L : Nat → List GNode → Bool → List (List GOcc) → Int → Option (List (List GOcc) × List GNode × Bool))
  (hend : ∀ N ns full found, L (N + 1) ns full found (nodes.length : Int) = some (found, ns, full))
  (hstep : ∀ (N i : Nat) (ns : List GNode) (full : Bool) (found : List (List GOcc)) (n : GNode) (e : GEx), i < nodes.length → ns.length = nodes.length → ns[i]? = some n → gd e → kO es i n e → ly t n → found.length = i → jq t es found →
   L (N + 1) ns full found (i : Int) = L N (ns.set i (ff (aF mode seen t ev found n))) (full || decide (40 < (ff (aF mode seen t ev found n)).Many)) (found ++ [(aF mode seen t ev found n).2]) ((i + 1 : Nat) : Int)) :
  ∀ (d N i : Nat), i + d = nodes.length → d < N → L N ((eD mode seen t ev nodes i).1 ++ nodes.drop i) (full0 || dM (eD mode seen t ev nodes i).1) (eD mode seen t ev nodes i).2 (i : Int) = some ((aC mode seen t ev nodes).2, (aC mode seen t ev nodes).1, full0 || dM (aC mode seen t ev nodes).1) := by
 intro d
 induction d with
 | zero =>
  intro N i hi hN
  obtain ⟨N, rfl⟩ : ∃ m, N = m + 1 := ⟨N - 1, by omega⟩
  have : i = nodes.length := by omega
  subst this
  rw [hend, oa, List.drop_length, List.append_nil]
 | succ d ih =>
  intro N i hi hN
  obtain ⟨N, rfl⟩ : ∃ m, N = m + 1 := ⟨N - 1, by omega⟩
  have hlt : i < nodes.length := by omega
  have hl := jl (mode := mode) (seen := seen) (t := t) (ev := ev) (ns := nodes) (i := i) (by omega)
  obtain ⟨e, he, hx, hr⟩ := hR.1.2 i nodes[i] (List.getElem?_eq_getElem hlt)
  have hn : ((eD mode seen t ev nodes i).1 ++ nodes.drop i)[i]? = some nodes[i] := by
   rw [List.getElem?_append_right (by omega), hl.1, Nat.sub_self, List.drop_eq_getElem_cons hlt]; rfl
  rw [hstep N i _ _ _ nodes[i] e hlt (by rw [List.length_append, List.length_drop, hl.1]; omega) hn hx hr (hR.2.2 _ (List.getElem_mem _)) hl.2 (nJ hR hs (by omega))]
  have := ih N (i + 1) (by omega) (by omega)
  rw [kK hlt] at this
  simp only [my] at this
  rw [← this, List.drop_eq_getElem_cons hlt, List.set_append_right _ _ (by omega), hl.1, Nat.sub_self, List.set_cons_zero, List.append_assoc, List.singleton_append]
  congr 1
  unfold dM
  rw [List.any_append, Bool.or_assoc]
  simp
theorem wC {found : List (List GOcc)} {m : Nat} (h : found.length = m) (h1 : 1 ≤ m) (h2 : m ≤ 1000) :
  (req ((0 : Int) ≤ (IntKind.wrap .i64 (((found.length : Nat) : Int) - 1))) (req ((IntKind.wrap .i64 (((found.length : Nat) : Int) - 1)) < (found.length : Nat)) (found[(IntKind.wrap .i64 (((found.length : Nat) : Int) - 1)).toNat]?))) = some (fj found) := by
 rw [wr _ (by omega), ae (by omega), ae (by omega)]
 unfold fj
 rw [List.getLast?_eq_getElem?, show (((found.length : Nat) : Int) - 1).toNat = found.length - 1 by omega, List.getElem?_eq_getElem (by omega)]
 rfl
theorem vT {α β : Type} {c : Prop} [Decidable c] {x : Option α} {f : α → Option β} : (req c x).bind f = req c (x.bind f) := by
 unfold req; split <;> rfl
theorem n2_eq (k : Nat) (hk : 1000000000000 ≤ k) (g : GGraph) (t : Int) (es : List GEx) (hR : mA t es g.Nodes) (h1 : 1 ≤ g.Nodes.length) (hs : 0 ≤ g.Seen ∧ g.Seen ≤ 23) (ht : 0 ≤ t ∧ t ≤ 100000) :
  aj.f k g t = some (fj (aC g.Mode g.Seen t none g.Nodes).2, ⟨g.Mode, (aC g.Mode g.Seen t none g.Nodes).1, g.Seen, g.Now, g.Full || dM (aC g.Mode g.Seen t none g.Nodes).1⟩) := by
 have h12 := hR.2.1
 have := sI (mode := g.Mode) (ev := none) hR hs g.Full (aj.l1 k g t) (fun N ns full found => by rw [aj.l1, if_neg (by omega)])
  (fun N i ns full found n e hi hl hn hx hr hS hf hF => BR k hk g t N i ns full found n e es hi (by omega) hl hn hx hr hS hf hF hs ht) g.Nodes.length k 0 (by omega) (by omega)
 simp only [eD, List.take_zero, List.foldl_nil, List.drop_zero, List.nil_append, dM, List.any_nil, Bool.or_false] at this
 unfold aj.f
 rw [show ((0 : Nat) : Int) = 0 from rfl] at this
 rw [this]
 simp only [Option.bind_some]
 have hl := fX g.Mode g.Seen t none g.Nodes
 have q := congrArg (Option.bind · fun x => some (x, (⟨g.Mode, (aC g.Mode g.Seen t none g.Nodes).1, g.Seen, g.Now, g.Full || dM (aC g.Mode g.Seen t none g.Nodes).1⟩ : GGraph))) (wC hl.2 h1 (by omega))
 simp only [vT, Option.bind_some] at q
 exact q
theorem ev_eq (k : Nat) (hk : 1000000000000 ≤ k) (g : GGraph) (t : Int) (x : GEv) (es : List GEx) (hR : mA t es g.Nodes) (h1 : 1 ≤ g.Nodes.length) (hs : 0 ≤ g.Seen ∧ g.Seen ≤ 23) (ht : 0 ≤ t ∧ t ≤ 100000) :
  ak.f k g t x = some (fj (aC g.Mode g.Seen t (some x.Sym) g.Nodes).2, ⟨g.Mode, (aC g.Mode g.Seen t (some x.Sym) g.Nodes).1, g.Seen, g.Now, g.Full || dM (aC g.Mode g.Seen t (some x.Sym) g.Nodes).1⟩, x) := by
 have h12 := hR.2.1
 have := sI (mode := g.Mode) (ev := some x.Sym) hR hs g.Full (ak.l1 k g t x) (fun N ns full found => by rw [ak.l1, if_neg (by omega)])
  (fun N i ns full found n e hi hl hn hx hr hS hf hF => BH k hk g t x N i ns full found n e es hi (by omega) hl hn hx hr hS hf hF hs ht) g.Nodes.length k 0 (by omega) (by omega)
 simp only [eD, List.take_zero, List.foldl_nil, List.drop_zero, List.nil_append, dM, List.any_nil, Bool.or_false] at this
 unfold ak.f
 rw [show ((0 : Nat) : Int) = 0 from rfl] at this
 rw [this]
 simp only [Option.bind_some]
 have hl := fX g.Mode g.Seen t (some x.Sym) g.Nodes
 have q := congrArg (Option.bind · fun y => some (y, (⟨g.Mode, (aC g.Mode g.Seen t (some x.Sym) g.Nodes).1, g.Seen, g.Now, g.Full || dM (aC g.Mode g.Seen t (some x.Sym) g.Nodes).1⟩ : GGraph), x)) (wC hl.2 h1 (by omega))
 simp only [vT, Option.bind_some] at q
 exact q
theorem CS (k : Nat) (hk : 1000000000000 ≤ k) (n : GNode) (t : Int) (hl : n.Due.length ≤ 1000) : aQ.l3 k n k t 0 = some (gm t n.Due) := by
 have := fa n.Due (fun s o => some (if o.To < s then o.To else s)) (aQ.l3 k n) (fun s o => if o.To < s then o.To else s) (fun _ _ => True)
  (fun N s => by rw [aQ.l3, if_neg (by omega)])
  (fun N s i h => by
   rw [aQ.l3, if_pos (by omega), ae (by omega), Int.toNat_natCast, List.getElem?_eq_getElem h]
   simp only [Option.bind_some]
   rw [wrS i (by omega)]
   split <;> rfl)
  (fun i s h _ => ⟨rfl, trivial⟩) k t (by omega) trivial
 exact this.1
theorem Cd (k : Nat) (hk : 1000000000000 ≤ k) (g : GGraph) (b : Int) (hg : g.Nodes.length ≤ 1000) (hd : ∀ n ∈ g.Nodes, n.Due.length ≤ 1000) : aQ.f k g b = some (bZ g.Nodes b, decide (bZ g.Nodes b < b), g) := by
 have := fa g.Nodes (fun s n => aQ.l3 k n k s 0) (aQ.l2 k g) (fun s n => gm s n.Due) (fun _ _ => True)
  (fun N s => by rw [aQ.l2, if_neg (by omega)])
  (fun N s i h => by
   rw [aQ.l2, if_pos (by omega), ae (by omega), ae (by omega), Int.toNat_natCast, List.getElem?_eq_getElem h]
   simp only [Option.bind_some]
   rw [wrS i (by omega)])
  (fun i s h _ => ⟨CS k hk _ s (hd _ (List.getElem_mem h)), trivial⟩) k b (by omega) trivial
 unfold aQ.f
 rw [this.1]; rfl
theorem fx.due {T : Int} {es : List GEx} {ns : List GNode} (h : fx T es ns) : ∀ n ∈ ns, n.Due.length ≤ 1000 := fun n hn => by
 have := (h.2.2 n hn).2.2.2.2.2.2.2.2
 have := jh h n 0
 omega
theorem xA (k : Nat) (hk : 1000000000000 ≤ k) (e : GEv) (mode seen now : Int) (es : List GEx) (hs : 0 ≤ seen ∧ seen ≤ 23) (he : e.At ≤ 1000) : ∀ (f N : Nat) (ns : List GNode) (out : List GOcc) (T : Int), fx T es ns → 0 ≤ T → T < e.At → (e.At - T).toNat ≤ f → f + 1 < N → out.length + 40 * f ≤ 1000000 →
  bG.l0 k e N mode ns seen now false out = some (mode, (cE mode seen e.At f ns out).1, seen, now, (cE mode seen e.At f ns out).2.1, (cE mode seen e.At f ns out).2.2)
 | 0, _, _, _, _, _, _, _, _, _, _ => by omega
 | f + 1, N, ns, out, T, h, hT0, hT, hf, hN, hol => by
  obtain ⟨N, rfl⟩ : ∃ m, N = m + 1 := ⟨N - 1, by omega⟩
  have nl := nQ ns e.At
  rw [bG.l0, if_neg (by decide), Cd k hk ⟨mode, ns, seen, now, false⟩ e.At (show ns.length ≤ 1000 by have := h.2.1.2; omega) h.due]
  simp only [Option.bind_some]
  unfold cE
  by_cases hlt : bZ ns e.At < e.At
  ·rw [if_pos hlt, if_pos (by simpa using hlt)]
   have hT' : T < bZ ns e.At := by
    rcases nL ns e.At with q | ⟨n, q1, o, q2, q3⟩
    ·omega
    ·rw [q3]; exact ((h.2.2 n q1).2.2.2.1 o q2).1
   have hR := h.ready (t := bZ ns e.At) (by omega)
   rw [n2_eq k hk ⟨mode, ns, seen, now, false⟩ (bZ ns e.At) es hR h.2.1.1 hs (by omega)]
   simp only [Option.bind_some, Bool.false_or]
   obtain ⟨x, hx, lf⟩ := lw (mode := mode) (ev := none) hR h.2.1.1 hs
   have ls := lf.small hx.2
   rw [ae (by omega)]
   by_cases hfu : dM (aC mode seen (bZ ns e.At) none ns).1 = true
   ·rw [if_pos hfu, hfu]
    obtain ⟨N, rfl⟩ : ∃ m, N = m + 1 := ⟨N - 1, by omega⟩
    rw [bG.l0, if_pos rfl]
   ·have hfu' : dM (aC mode seen (bZ ns e.At) none ns).1 = false := by simpa using hfu
    rw [if_neg hfu, hfu']
    have ll := ru (mode := mode) (ev := none) hR h.2.1.1 hs hfu'
    exact xA k hk e mode seen now es hs he f N _ _ (bZ ns e.At) (mr h (Int.le_of_lt hT') nl.2 hs hfu') (by omega) hlt (by omega) (by omega) (by rw [List.length_append]; omega)
  ·rw [if_neg hlt, if_neg (by simpa using hlt)]
theorem BF (k : Nat) (hk : 1000000000000 ≤ k) (e : GEv) (g : GGraph) (es : List GEx) (T : Int) (h : fx T es g.Nodes) (hT : 0 ≤ T ∧ T < e.At ∧ e.At ≤ 1000) (hs : 0 ≤ g.Seen ∧ g.Seen ≤ 23) (hf : g.Full = false) :
  bG.f k g e = some (match iI g.Mode g.Seen g.Nodes e with | none => ([], ⟨g.Mode, [], g.Seen + 1, e.At, true⟩) | some r => (r.2, ⟨g.Mode, r.1, g.Seen + 1, e.At, false⟩)) := by
 unfold bG.f
 rw [hf, xA k hk e g.Mode g.Seen g.Now es hs hT.2.2 1001 k g.Nodes [] T h hT.1 hT.2.1 (by omega) (by omega) (by simp)]
 simp only [Option.bind_some]
 unfold iI
 rw [wr (g.Seen + 1) (by omega)]
 by_cases h1 : (cE g.Mode g.Seen e.At 1001 g.Nodes []).2.1 = true
 ·rw [if_pos h1, if_pos h1]
 ·rw [if_neg h1, if_neg h1]
  obtain ⟨T', a, b, c, d, f, gg⟩ := om (mode := g.Mode) (before := e.At) hs 1001 g.Nodes [] T h hT.2.1 (by omega) (fun o hh => by simp at hh) (by simp) (by simpa using h1)
  have hR := c.ready (t := e.At) (by omega)
  rw [ev_eq k hk ⟨g.Mode, (cE g.Mode g.Seen e.At 1001 g.Nodes []).1, g.Seen, g.Now, false⟩ e.At e es hR c.2.1.1 hs (by omega)]
  simp only [Option.bind_some, Bool.false_or]
  obtain ⟨x, hx, lf⟩ := lw (mode := g.Mode) (ev := some e.Sym) hR c.2.1.1 hs
  have ls := lf.small hx.2
  rw [ae (by omega)]
  by_cases h2 : dM (aC g.Mode g.Seen e.At (some e.Sym) (cE g.Mode g.Seen e.At 1001 g.Nodes []).1).1 = true
  ·rw [if_pos h2, if_pos h2, wr (g.Seen + 1) (by omega)]
  ·rw [if_neg h2, if_neg h2, wr (g.Seen + 1) (by omega)]
def Fresh (n : GNode) : Prop := n.Pair = ⟨[], []⟩ ∧ n.Span = ⟨[], []⟩ ∧ n.Due = [] ∧ n.Many = 0
theorem zc (m n : GNode) : mq m n = true ↔ m.Kind = n.Kind ∧ m.Sym = n.Sym ∧ m.N = n.N ∧ m.Kids = n.Kids := by
 unfold mq; simp
theorem Cv {a b : GEx} (h1 : a.Kind = b.Kind) (h2 : a.Sym = b.Sym) (h3 : a.N = b.N) (h4 : a.Kids = b.Kids) : a = b := by
 cases a; cases b; simp only at h1 h2 h3 h4; rw [h1, h2, h3, h4]
theorem xH {α : Type} {l m : List α} {i : Nat} {x : α} (h : l[i]? = some x) : (l ++ m)[i]? = some x := by
 rw [List.getElem?_append_left (List.getElem?_eq_some_iff.1 h).1]; exact h
theorem gd.kid {e x : GEx} (h : gd e) (hx : x ∈ e.Kids) : gd x := by
 refine ⟨(hJ h.1).2 x hx, ?_⟩
 have := ek hx
 have := h.2
 rw [cD] at this
 omega
def AY (es : List GEx) (ns : List GNode) (k : Nat) (r : List GNode) (ok : List GEx → Prop) : Prop := ∃ es' nx, r = ns ++ nx ∧ Rep (es ++ es') (ns ++ nx) ∧ nx.length ≤ k ∧ (∀ n ∈ nx, Fresh n) ∧ ok (es ++ es')
theorem xz {xs : List GEx} (H : ∀ x ∈ xs, ∀ es ns, Rep es ns → AY es ns (exN x) (gK x ns).2 fun es => ∃ q : Nat, (gK x ns).1 = (q : Int) ∧ es[q]? = some x) :
  ∀ es ns, Rep es ns → AY es ns (bU xs) (dH xs ns).2 fun es => (dH xs ns).1.length = xs.length ∧ ∀ (j : Nat) (x : GEx), xs[j]? = some x → ∃ q : Nat, (dH xs ns).1[j]? = some (q : Int) ∧ es[q]? = some x := by
 induction xs with
 | nil =>
  intro es ns h
  rw [uT]
  exact ⟨[], [], by simp, by simpa using h, by simp, by simp, rfl, fun j x hj => by simp at hj⟩
 | cons x xs ih =>
  intro es ns h
  obtain ⟨e1, n1, a1, a2, a3, a4, q, a5, a6⟩ := H x (by simp) es ns h
  obtain ⟨e2, n2, b1, b2, b3, b4, b5, b6⟩ := ih (fun y hy => H y (by simp [hy])) _ _ a2
  rw [sL, cK]
  simp only
  rw [a1]
  refine ⟨e1 ++ e2, n1 ++ n2, by rw [b1, List.append_assoc], by rw [← List.append_assoc, ← List.append_assoc]; exact b2, by rw [List.length_append]; omega, fun n hn => (List.mem_append.1 hn).elim (a4 n) (b4 n), by simp [b5], fun j y hj => ?_⟩
  rw [← List.append_assoc]
  cases j with
  | zero =>
   simp only [List.getElem?_cons_zero, Option.some.injEq] at hj
   subst hj
   exact ⟨q, by rw [List.getElem?_cons_zero, a5], xH a6⟩
  | succ j =>
   rw [List.getElem?_cons_succ] at hj ⊢
   exact b6 j y hj
theorem pQ : ∀ x : GEx, gd x → ∀ es ns, Rep es ns → AY es ns (exN x) (gK x ns).2 fun es => ∃ q : Nat, (gK x ns).1 = (q : Int) ∧ es[q]? = some x := by
 refine mg fun x ih hx es ns h => ?_
 obtain ⟨e1, n1, a1, a2, a3, a4, a5, a6⟩ := xz (fun y hy => ih y hy (hx.kid hy)) es ns h
 rw [xu]
 unfold rQ
 rw [a1]
 cases hfi : (ns ++ n1).findIdx? fun m => mq m (nj x.Kind x.Sym x.N (dH x.Kids ns).1) with
 | some i =>
  simp only
  rw [List.findIdx?_eq_some_iff_getElem] at hfi
  obtain ⟨hi, hk, _⟩ := hfi
  obtain ⟨k1, k2, k3, k4⟩ := (zc _ _).1 hk
  obtain ⟨e, he, _, hr⟩ := a2.2 i _ (List.getElem?_eq_getElem hi)
  have : e = x := by
   refine Cv (hr.1.symm.trans k1) (hr.2.1.symm.trans k2) (hr.2.2.1.symm.trans k3) (List.ext_getElem? fun j => ?_)
   have hlen : e.Kids.length = x.Kids.length := by rw [← hr.2.2.2.1, k4]; exact a5
   rcases Nat.lt_or_ge j e.Kids.length with hj | hj
   ·obtain ⟨q, _, q2, q3⟩ := hr.2.2.2.2 j hj
    obtain ⟨q', p1, p2⟩ := a6 j x.Kids[j] (List.getElem?_eq_getElem (by omega))
    rw [k4] at q2
    have hq : some (q' : Int) = some (q : Int) := p1.symm.trans q2
    have : q' = q := Int.ofNat.inj (Option.some.inj hq)
    subst this
    rw [← q3, p2, List.getElem?_eq_getElem (by omega)]
   ·rw [List.getElem?_eq_none hj, List.getElem?_eq_none (by omega)]
  subst this
  exact ⟨e1, n1, rfl, a2, by rw [cD]; omega, a4, i, rfl, he⟩
 | none =>
  simp only
  refine ⟨e1 ++ [x], n1 ++ [nj x.Kind x.Sym x.N (dH x.Kids ns).1], by rw [List.append_assoc], ?_, by rw [cD, List.length_append, List.length_singleton]; omega, fun n hn => ?_, (ns ++ n1).length, rfl, ?_⟩
  ·rw [← List.append_assoc, ← List.append_assoc]
   refine ⟨by have := a2.1; simp only [List.length_append, List.length_singleton] at this ⊢; omega, fun i n hn => ?_⟩
   rcases Nat.lt_or_ge i (ns ++ n1).length with hlt | hge
   ·rw [List.getElem?_append_left hlt] at hn
    obtain ⟨e, he, hf, hr⟩ := a2.2 i n hn
    refine ⟨e, xH he, hf, hr.1, hr.2.1, hr.2.2.1, hr.2.2.2.1, fun j hj => ?_⟩
    obtain ⟨q, q1, q2, q3⟩ := hr.2.2.2.2 j hj
    refine ⟨q, q1, q2, ?_⟩
    rw [List.getElem?_append_left (by rw [a2.1]; omega)]; exact q3
   ·rw [List.getElem?_append_right hge] at hn
    have : i = (ns ++ n1).length := by
     have := (List.getElem?_eq_some_iff.1 hn).1
     simp only [List.length_singleton] at this; omega
    subst this
    rw [Nat.sub_self, List.getElem?_cons_zero] at hn
    cases hn
    refine ⟨x, ?_, hx, rfl, rfl, rfl, a5, fun j hj => ?_⟩
    ·rw [← a2.1, List.getElem?_append_right (Nat.le_refl _), Nat.sub_self]; rfl
    ·obtain ⟨q, p1, p2⟩ := a6 j x.Kids[j] (List.getElem?_eq_getElem hj)
     have hq : q < (es ++ e1).length := (List.getElem?_eq_some_iff.1 p2).1
     refine ⟨q, by rw [← a2.1]; exact hq, p1, ?_⟩
     rw [List.getElem?_append_left hq, p2, List.getElem?_eq_getElem hj]
  ·rcases List.mem_append.1 hn with q | q
   ·exact a4 n q
   ·rw [List.mem_singleton.1 q]; exact ⟨rfl, rfl, rfl, rfl⟩
  ·rw [← List.append_assoc, ← a2.1, List.getElem?_append_right (Nat.le_refl _), Nat.sub_self]; rfl
/-- the parts of an expression, before anything has happened -/
theorem ua : Rep [] [] := ⟨rfl, fun i n h => by simp at h⟩
theorem zn {x : GEx} (hx : gd x) : ∃ es, fx 0 es (gK x []).2 ∧ ∃ q : Nat, es[q]? = some x ∧ (gK x []).1 = q := by
 obtain ⟨es, nx, a1, a2, a3, a4, q, a5, a6⟩ := pQ x hx [] [] ua
 simp only [List.nil_append] at a1 a2 a6
 rw [a1]
 have hq := (List.getElem?_eq_some_iff.1 a6).1
 have := hx.2
 refine ⟨es, ⟨a2, ⟨by rw [← a2.1]; omega, by omega⟩, fun n hn => ?_⟩, q, a6, a5⟩
 obtain ⟨f1, f2, f3, f4⟩ := a4 n hn
 have g0 : ib [] := ⟨by simp [Asc], fun o h => by simp at h⟩
 have A0 : All (fun o => o.To ≤ (0 : Int)) [] := fun o h => by simp at h
 have mk : ∀ j, 0 ≤ gS nx n j := fun j => by
  unfold gS
  cases hq : nx[(n.Kids.getD j 0).toNat]? with
  | none => simp
  | some m => have := (a4 m (List.mem_of_getElem? hq)).2.2.2; simp [this]
 refine ⟨⟨by rw [f1, f2, f3]; exact ⟨g0, g0, g0, g0, g0⟩, by rw [f1, f2]; exact ⟨A0, A0, A0, A0⟩⟩, by rw [f4]; omega, fun _ => f3, by rw [f3]; simp, ?_⟩
 rw [f1, f2, f3]
 exact ⟨by simpa using mk 0, by simpa using mk 1, by simpa using mk 0, by split; exact (by simpa using mk 1); exact (by simpa using mk 2), by simpa using mk 0⟩
theorem y7 (k : Nat) (a b : List Int) (hab : a.length = b.length) (ha : a.length ≤ 1000) : ∀ (d n i : Nat), i + d = a.length → d < n → cx.l0 k a b n (i : Int) = some (if a.drop i == b.drop i then .ok () else .error false) := by
 intro d
 induction d with
 | zero =>
  intro n i hi hn
  obtain ⟨n, rfl⟩ : ∃ m, n = m + 1 := ⟨n - 1, by omega⟩
  rw [cx.l0, if_neg (by omega), List.drop_eq_nil_of_le (by omega), List.drop_eq_nil_of_le (by omega)]; rfl
 | succ d ih =>
  intro n i hi hn
  obtain ⟨n, rfl⟩ : ∃ m, n = m + 1 := ⟨n - 1, by omega⟩
  have hlt : i < a.length := by omega
  rw [cx.l0, if_pos (by omega), ae (by omega), Int.toNat_natCast, List.getElem?_eq_getElem hlt]
  simp only [Option.bind_some]
  rw [ae (by omega), List.getElem?_eq_getElem (by omega)]
  simp only [Option.bind_some]
  rw [wrS i (by omega), ih n (i + 1) (by omega) (by omega), List.drop_eq_getElem_cons hlt, List.drop_eq_getElem_cons (show i < b.length by omega), List.cons_beq_cons]
  by_cases h : a[i] = b[i]
  ·rw [if_pos h, h, beq_self_eq_true, Bool.true_and]
  ·rw [if_neg h, beq_false_of_ne h, Bool.false_and]; rfl
theorem BA (k : Nat) (hk : 1000000000000 ≤ k) (a b : List Int) (ha : a.length ≤ 1000) : cx.f k a b = some (a == b) := by
 unfold cx.f
 by_cases h : a.length = b.length
 ·rw [if_pos (by omega)]
  have := y7 k a b h ha a.length k 0 (by omega) (by omega)
  rw [show ((0 : Nat) : Int) = 0 from rfl, List.drop_zero, List.drop_zero] at this
  rw [this]
  cases hab : a == b <;> rfl
 ·rw [if_neg (by omega)]
  have : (a == b) = false := by rw [beq_eq_false_iff_ne]; intro e; exact h (by rw [e])
  rw [this]
theorem CX (k : Nat) (hk : 1000000000000 ≤ k) (m n : GNode) (hm : m.Kids.length ≤ 1000) : dr.f k m n = some (mq m n) := by
 unfold dr.f mq
 rw [BA k hk _ _ hm]
 simp only [Option.bind_some]
 by_cases h1 : m.Kind = n.Kind
 ·rw [if_pos h1, h1, beq_self_eq_true, Bool.true_and]
  by_cases h2 : m.Sym = n.Sym
  ·rw [if_pos h2, h2, beq_self_eq_true, Bool.true_and]
   by_cases h3 : m.N = n.N
   ·rw [if_pos h3, h3, beq_self_eq_true, Bool.true_and]
   ·rw [if_neg h3, beq_false_of_ne h3, Bool.false_and]
  ·rw [if_neg h2, beq_false_of_ne h2, Bool.false_and]
 ·rw [if_neg h1, beq_false_of_ne h1, Bool.false_and]
theorem xi (k : Nat) (g1 : GNode → Option Bool) (p : GNode → Bool) (l : List GNode) (hl : l.length ≤ 1000) (hp : ∀ x ∈ l, g1 x = some (p x)) : ∀ (d i n : Nat), i + d = l.length → d < n →
  aA.l0 k g1 l n (i : Int) = some (match (l.drop i).findIdx? p with | some j => .error (((i + j : Nat)) : Int) | none => .ok ()) := by
 intro d
 induction d with
 | zero =>
  intro i n hi hn
  obtain ⟨n, rfl⟩ : ∃ m, n = m + 1 := ⟨n - 1, by omega⟩
  rw [aA.l0, if_neg (by omega), List.drop_eq_nil_of_le (by omega)]; rfl
 | succ d ih =>
  intro i n hi hn
  obtain ⟨n, rfl⟩ : ∃ m, n = m + 1 := ⟨n - 1, by omega⟩
  have hlt : i < l.length := by omega
  rw [aA.l0, if_pos (by omega), ae (by omega), Int.toNat_natCast, List.getElem?_eq_getElem hlt]
  simp only [Option.bind_some]
  rw [hp _ (List.getElem_mem hlt)]
  simp only [Option.bind_some]
  rw [wrS i (by omega), ih (i + 1) n (by omega) (by omega), List.drop_eq_getElem_cons hlt, List.findIdx?_cons]
  by_cases h : p l[i] = true
  ·rw [if_pos h, if_pos h]; rfl
  ·rw [if_neg h, if_neg h]
   cases (l.drop (i + 1)).findIdx? p with
   | none => rfl
   | some j => simp only [Option.map_some]; congr 3; omega
theorem zT (k : Nat) (hk : 1000000000000 ≤ k) (g1 : GNode → Option Bool) (p : GNode → Bool) (l : List GNode) (hl : l.length ≤ 1000) (hp : ∀ x ∈ l, g1 x = some (p x)) :
  aA.f g1 k l = some (match l.findIdx? p with | some j => (j : Int) | none => -1) := by
 unfold aA.f
 have := xi k g1 p l hl hp l.length 0 k (by omega) (by omega)
 rw [show ((0 : Nat) : Int) = 0 from rfl, List.drop_zero] at this
 rw [this]
 cases l.findIdx? p with
 | none => rfl
 | some j => simp
def Kids3 (ns : List GNode) : Prop := ∀ n ∈ ns, n.Kids.length ≤ 3
theorem Rep.kids3 {es : List GEx} {ns : List GNode} (h : Rep es ns) : Kids3 ns := fun n hn => by
 obtain ⟨i, hi, rfl⟩ := List.mem_iff_getElem.1 hn
 obtain ⟨e, _, hx, hr⟩ := h.2 i _ (List.getElem?_eq_getElem hi)
 rw [hr.2.2.2.1]
 rcases iE (hJ hx.1).1 with ⟨_, hl⟩ | ⟨_, hl⟩ | ⟨_, hl⟩ | ⟨_, hl⟩ | ⟨_, hl⟩ | ⟨_, hl⟩ | ⟨_, hl⟩ <;> omega
/-- the program adds parts -/
theorem xe : ∀ x : GEx, gd x → ∀ (k : Nat), 1000000000000 + exN x ≤ k → ∀ (es : List GEx) (ns : List GNode) (m s n : Int) (f : Bool), Rep es ns → ns.length + exN x ≤ 100 →
  bn.f k ⟨m, ns, s, n, f⟩ x = some ((gK x ns).1, ⟨m, (gK x ns).2, s, n, f⟩) := by
 refine mg fun x ih hx k hk es ns m s n f h hl => ?_
 obtain ⟨k, rfl⟩ : ∃ q, k = q + 1 := ⟨k - 1, by omega⟩
 have hkl := fu x.Kids
 rw [cD] at hk hl
 have loop : ∀ (xs : List GEx) (i : Nat), xs = x.Kids.drop i → i ≤ x.Kids.length → ∀ (N : Nat) (es : List GEx) (ns : List GNode) (acc : List Int), xs.length < N → acc.length = i → Rep es ns → ns.length + bU xs ≤ 100 →
   bn.l0 k (bn.f k) x N m ns s n f acc (i : Int) = some (m, (dH xs ns).2, s, n, f, acc ++ (dH xs ns).1) := by
  intro xs
  induction xs with
  | nil =>
   intro i hi hle N es ns acc hN ha hR hb
   obtain ⟨N, rfl⟩ : ∃ q, N = q + 1 := ⟨N - 1, by simp at hN; omega⟩
   have : x.Kids.length ≤ i := by have := congrArg List.length hi; simp at this; omega
   rw [bn.l0, if_neg (by omega), uT, List.append_nil]
  | cons y ys ihl =>
   intro i hi hle N es ns acc hN ha hR hb
   obtain ⟨N, rfl⟩ : ∃ q, N = q + 1 := ⟨N - 1, by simp at hN; omega⟩
   have hlt : i < x.Kids.length := by have := congrArg List.length hi; simp at this; omega
   rw [List.drop_eq_getElem_cons hlt] at hi
   obtain ⟨rfl, rfl⟩ := List.cons.inj hi
   have hm := List.getElem_mem hlt
   have hfy := hx.kid hm
   have hny := ek hm
   rw [cK] at hb
   obtain ⟨e1, n1, a1, a2, a3, _⟩ := pQ _ hfy es ns hR
   rw [bn.l0, if_pos (by omega), ae (by omega), Int.toNat_natCast, List.getElem?_eq_getElem hlt]
   simp only [Option.bind_some]
   rw [ih _ hm hfy k (by omega) es ns m s n f hR (by omega)]
   simp only [Option.bind_some]
   rw [ae (by omega), wrS i (by omega), ihl (i + 1) rfl (by omega) N (es ++ e1) _ _ (by simp at hN ⊢; omega) (by simp; omega) (by rw [a1]; exact a2) (by rw [a1, List.length_append]; omega), sL]
   simp
 have l0 := loop x.Kids 0 rfl (by omega) k es ns [] (by omega) rfl h (by omega)
 rw [bn.f]
 simp only
 rw [show ((0 : Nat) : Int) = 0 from rfl] at l0
 rw [l0]
 simp only [Option.bind_some, List.nil_append]
 obtain ⟨e1, n1, a1, a2, a3, a4, a5, a6⟩ := xz (fun y hy => pQ y (hx.kid hy)) es ns h
 have k3 := a2.kids3
 rw [xu]
 unfold rQ
 have nl : (dH x.Kids ns).2.length ≤ 100 := by rw [a1, List.length_append]; omega
 rw [zT k (by omega) (fun y0 => dr.f k y0 ⟨x.Kind, x.Sym, x.N, (dH x.Kids ns).1, ⟨[], []⟩, ⟨[], []⟩, [], 0⟩) (fun q => mq q (nj x.Kind x.Sym x.N (dH x.Kids ns).1)) _ (by omega) (fun q hq => CX k (by omega) q _ (by rw [a1] at hq; have := k3 q hq; omega))]
 simp only [Option.bind_some]
 cases (dH x.Kids ns).2.findIdx? fun q => mq q (nj x.Kind x.Sym x.N (dH x.Kids ns).1) with
 | none =>
  simp only
  rw [if_pos (by decide), ae (by omega)]
  rfl
 | some j =>
  simp only
  rw [if_neg (by omega)]
theorem tj (mode : Int) : c7.f mode = some (decide (0 ≤ mode) && decide (mode ≤ 4)) := by
 unfold c7.f
 rw [dQ]; rfl
theorem yq {mode : Int} (h : 0 ≤ mode ∧ mode ≤ 4) : c7.f mode = some true := by
 rw [tj, decide_eq_true h.1, decide_eq_true h.2]; rfl
theorem tE (k : Nat) (hk : 2000000000000 ≤ k) (x : GEx) (mode : Int) (hx : exN x ≤ 1000000) :
  fO.f k x mode = some (if kS x = true ∧ (0 ≤ mode ∧ mode ≤ 4) then ⟨mode, (gK x []).2, 0, 0, false⟩ else ⟨0, [], 0, 0, false⟩) := by
 unfold fO.f
 rw [qs x (by omega) k (by omega)]
 simp only [Option.bind_some]
 by_cases h1 : kS x = true
 ·rw [if_pos h1]
  have hf := oV h1
  by_cases h2 : 0 ≤ mode ∧ mode ≤ 4
  ·rw [yq h2, if_pos ⟨h1, h2⟩]
   simp only [Option.bind_some, if_true]
   rw [xe x ⟨hf.2, hf.1⟩ k (by omega) [] [] mode 0 0 false ua (by simp; omega)]
   rfl
  ·rw [tj mode, if_neg (fun q => h2 q.2)]
   simp only [Option.bind_some]
   rw [if_neg (by simpa using h2)]
 ·rw [if_neg h1, if_neg (fun q => h1 q.1)]
/-- made of events seen so far -/
def eS (s : Int) (o : GOcc) : Prop := 1 ≤ o.From ∧ o.From ≤ o.To ∧ o.Ids ≠ [] ∧ ∀ x ∈ o.Ids, x < s
theorem eS.mono {s s' : Int} (h : s ≤ s') {o : GOcc} (ho : eS s o) : eS s' o := ⟨ho.1, ho.2.1, ho.2.2.1, fun x hx => by have := ho.2.2.2 x hx; omega⟩
theorem ym (s : Int) : fB (eS s) := fun a b ha hb => by
 obtain ⟨a1, a2, a3, a4⟩ := ha
 obtain ⟨b1, b2, b3, b4⟩ := hb
 refine ⟨?_, ?_, ?_, fun x hx => ?_⟩
 ·show 1 ≤ min a.From b.From; omega
 ·show min a.From b.From ≤ max a.To b.To; omega
 ·intro e
  obtain ⟨z, hz⟩ := List.exists_mem_of_ne_nil _ a3
  have : z ∈ eb a.Ids b.Ids := dZ.2 (.inl hz)
  rw [show eb a.Ids b.Ids = [] from e] at this
  simp at this
 ·rcases dZ.1 (show x ∈ eb a.Ids b.Ids from hx) with h | h
  ·exact a4 x h
  ·exact b4 x h
theorem y9 {s n : Int} (hn : 0 ≤ n) {o : GOcc} (h : eS s o) : eS s (jj n o) := ⟨h.1, by show o.From ≤ o.To + n; have := h.2.1; omega, h.2.2.1, h.2.2.2⟩
/-- all lists of a part -/
def je (Q : GOcc → Prop) (n : GNode) : Prop := All Q n.Pair.Left ∧ All Q n.Pair.Right ∧ All Q n.Span.Left ∧ All Q n.Span.Mid ∧ All Q n.Due
theorem BO {Q : GOcc → Prop} {found : List (List GOcc)} (h : ∀ l ∈ found, All Q l) (n : GNode) (j : Nat) : All Q (av found n j) := by
 unfold av
 rw [List.getD_eq_getElem?_getD]
 cases hf : found[(n.Kids.getD j 0).toNat]? with
 | none => exact All.nil
 | some l => exact h l (List.mem_of_getElem? hf)
theorem AD {Q : GOcc → Prop} (hj : fB Q) {mode seen t : Int} {ev : Option Int} {found : List (List GOcc)} {n : GNode} (hb : ev ≠ none → Q ⟨t, t, [seen]⟩) (hl : ∀ o, Q o → Q (jj n.N o))
  (hn : je Q n) (hf : ∀ l ∈ found, All Q l) : je Q (aF mode seen t ev found n).1 ∧ All Q (aF mode seen t ev found n).2 := by
 obtain ⟨h1, h2, h3, h4, h5⟩ := hn
 have k := BO hf n
 unfold aF
 split
 ·refine ⟨⟨h1, h2, h3, h4, h5⟩, ?_⟩
  split
  ·rename_i he
   intro x hx
   rw [List.mem_singleton.1 hx]
   exact hb (by rw [he]; simp)
  ·exact All.nil
 split
 ·exact ⟨⟨h1, h2, h3, h4, h5⟩, (k 0).merge (k 1)⟩
 split
 ·have := zu hj mode (n.Pair.Left, n.Pair.Right) _ _ h1 h2 (k 0) (k 1)
  exact ⟨⟨this.1, this.2.1, h3, h4, h5⟩, this.2.2⟩
 split
 ·have := zN hj mode (n.Pair.Left, n.Pair.Right) _ _ h1 h2 (k 0) (k 1)
  exact ⟨⟨this.1, h2, h3, h4, h5⟩, this.2.2⟩
 split
 ·have := Al hj mode (n.Span.Left, n.Span.Mid) _ _ _ h3 h4 (k 0) (k 1) (k 2)
  exact ⟨⟨h1, h2, this.1, this.2.1, h5⟩, this.2.2⟩
 split
 ·have := yz hj mode (n.Span.Left, n.Span.Mid) _ _ _ h3 h4 (k 0) (k 1) (k 2)
  exact ⟨⟨h1, h2, this.1, this.2.1, h5⟩, this.2.2⟩
 ·refine ⟨⟨h1, h2, h3, h4, ?_⟩, h5.filter _⟩
  have : ∀ (l acc : List GOcc), All Q l → All Q acc → All Q (l.foldl (fun s o => cd s (jj n.N o)) acc) := by
   intro l
   induction l with
   | nil => intro acc _ h; exact h
   | cons o l ih => intro acc ho ha; exact ih _ (fun x hx => ho x (by simp [hx])) (ha.put (hl o (ho o (by simp))))
  exact this _ _ (k 0) (h5.filter _)
theorem AQ {Q : GOcc → Prop} {r : GNode × List GOcc} (h : je Q r.1) : je Q (ff r) := h
theorem uU {Q : GOcc → Prop} (hj : fB Q) {mode seen t : Int} {ev : Option Int} {ns : List GNode} (hb : ev ≠ none → Q ⟨t, t, [seen]⟩) (hl : ∀ n ∈ ns, ∀ o, Q o → Q (jj n.N o)) (hn : ∀ n ∈ ns, je Q n) :
  (∀ n ∈ (aC mode seen t ev ns).1, je Q n) ∧ ∀ l ∈ (aC mode seen t ev ns).2, All Q l := by
 unfold aC
 refine ig (fun s : List GNode × List (List GOcc) => (∀ n ∈ s.1, je Q n) ∧ ∀ l ∈ s.2, All Q l) _ ns ([], []) (fun s n hm hs => ?_) ⟨fun n h => by simp at h, fun l h => by simp at h⟩
 have := AD hj (mode := mode) (seen := seen) (t := t) (ev := ev) (found := s.2) (n := n) hb (hl n hm) (hn n hm) hs.2
 refine ⟨fun x hx => ?_, fun l hx => ?_⟩
 ·rcases List.mem_append.1 hx with h | h
  ·exact hs.1 x h
  ·rw [List.mem_singleton.1 h]; exact AQ this.1
 ·rcases List.mem_append.1 hx with h | h
  ·exact hs.2 l h
  ·rw [List.mem_singleton.1 h]; exact this.2
def l9 (Q : GOcc → Prop) (ns : List GNode) : Prop := ∀ n ∈ ns, ∀ o, Q o → Q (jj n.N o)
theorem BS {mode seen t : Int} {ev : Option Int} {ns : List GNode} : ∀ x ∈ (aC mode seen t ev ns).1, ∃ n ∈ ns, x.N = n.N := by
 unfold aC
 refine ig (fun s : List GNode × List (List GOcc) => ∀ x ∈ s.1, ∃ n ∈ ns, x.N = n.N) _ ns ([], []) (fun s n hm hs x hx => ?_) (fun n h => by simp at h)
 rcases List.mem_append.1 hx with h | h
 ·exact hs x h
 ·rw [List.mem_singleton.1 h]
  exact ⟨n, hm, iy.2.2.1⟩
theorem l9.point {Q : GOcc → Prop} {mode seen t : Int} {ev : Option Int} {ns : List GNode} (h : l9 Q ns) : l9 Q (aC mode seen t ev ns).1 := fun x hx o ho => by
 obtain ⟨n, hn, e⟩ := BS x hx
 rw [e]; exact h n hn o ho
theorem rF {Q : GOcc → Prop} {found : List (List GOcc)} (h : ∀ l ∈ found, All Q l) : All Q (fj found) := by
 unfold fj
 cases hf : found.getLast? with
 | none => exact All.nil
 | some l => exact h l (List.mem_of_getLast? hf)
theorem All.app {Q : GOcc → Prop} {l m : List GOcc} (h : All Q l) (hm : All Q m) : All Q (l ++ m) := fun x hx => (List.mem_append.1 hx).elim (h x) (hm x)
theorem wI {Q : GOcc → Prop} (hj : fB Q) {mode seen before : Int} : ∀ (f : Nat) (ns : List GNode) (out : List GOcc), l9 Q ns → (∀ n ∈ ns, je Q n) → All Q out →
  l9 Q (cE mode seen before f ns out).1 ∧ (∀ n ∈ (cE mode seen before f ns out).1, je Q n) ∧ All Q (cE mode seen before f ns out).2.2
 | 0, ns, out, h1, h2, h3 => ⟨h1, h2, h3⟩
 | f + 1, ns, out, h1, h2, h3 => by
  unfold cE
  have hp := uU hj (mode := mode) (seen := seen) (t := bZ ns before) (ev := none) (fun h => absurd rfl h) h1 h2
  split
  ·split
   ·exact ⟨h1.point, hp.1, h3.app (rF hp.2)⟩
   ·exact wI hj f _ _ h1.point hp.1 (h3.app (rF hp.2))
  ·exact ⟨h1, h2, h3⟩
theorem AT {Q : GOcc → Prop} (hj : fB Q) {mode seen : Int} {ns ns' : List GNode} {e : GEv} {out : List GOcc} (hb : Q ⟨e.At, e.At, [seen]⟩) (h1 : l9 Q ns) (h2 : ∀ n ∈ ns, je Q n) (hst : iI mode seen ns e = some (ns', out)) :
  l9 Q ns' ∧ (∀ n ∈ ns', je Q n) ∧ All Q out := by
 have hd := wI hj (mode := mode) (seen := seen) (before := e.At) 1001 ns [] h1 h2 All.nil
 have hp := uU hj (mode := mode) (seen := seen) (t := e.At) (ev := some e.Sym) (fun _ => hb) hd.1 hd.2.1
 unfold iI at hst
 split at hst
 ·cases hst
 split at hst
 ·cases hst
 simp only [Option.some.injEq, Prod.mk.injEq] at hst
 obtain ⟨rfl, rfl⟩ := hst
 exact ⟨hd.1.point, hp.1, hd.2.2.app (rF hp.2)⟩
theorem zQ (k : Nat) (g1 : Int → Option Bool) (l : List Int) (hl : l.length ≤ 1000000) (h : ∀ x ∈ l, g1 x = some false) : ∀ (d n i : Nat), i + d = l.length → d < n → bi.l0 k g1 l n (i : Int) = some (.ok ()) := by
 intro d
 induction d with
 | zero =>
  intro n i hi hn
  obtain ⟨n, rfl⟩ : ∃ m, n = m + 1 := ⟨n - 1, by omega⟩
  rw [bi.l0, if_neg (by omega)]
 | succ d ih =>
  intro n i hi hn
  obtain ⟨n, rfl⟩ : ∃ m, n = m + 1 := ⟨n - 1, by omega⟩
  have hlt : i < l.length := by omega
  rw [bi.l0, if_pos (by omega), ae (by omega), Int.toNat_natCast, List.getElem?_eq_getElem hlt]
  simp only [Option.bind_some]
  rw [h _ (List.getElem_mem hlt)]
  simp only [Option.bind_some, Bool.false_eq_true, if_false]
  rw [wrS i (by omega)]
  exact ih n (i + 1) (by omega) (by omega)
theorem zY (k : Nat) (hk : 2000000 ≤ k) (g1 : Int → Option Bool) (l : List Int) (hl : l.length ≤ 1000000) (h : ∀ x ∈ l, g1 x = some false) : cp.f g1 k l = some false := by
 have := zQ k g1 l hl h l.length k 0 (by omega) (by omega)
 rw [show ((0 : Nat) : Int) = 0 from rfl] at this
 simp only [cp.f, bi.f, this, Option.bind_some]
 rfl
theorem vh (k : Nat) (g1 : GOcc → Option Bool) (l : List GOcc) (hl : l.length ≤ 1000000) (h : ∀ x ∈ l, g1 x = some false) : ∀ (d n i : Nat), i + d = l.length → d < n → aB.l0 k g1 l n (i : Int) = some (.ok ()) := by
 intro d
 induction d with
 | zero =>
  intro n i hi hn
  obtain ⟨n, rfl⟩ : ∃ m, n = m + 1 := ⟨n - 1, by omega⟩
  rw [aB.l0, if_neg (by omega)]
 | succ d ih =>
  intro n i hi hn
  obtain ⟨n, rfl⟩ : ∃ m, n = m + 1 := ⟨n - 1, by omega⟩
  have hlt : i < l.length := by omega
  rw [aB.l0, if_pos (by omega), ae (by omega), Int.toNat_natCast, List.getElem?_eq_getElem hlt]
  simp only [Option.bind_some]
  rw [h _ (List.getElem_mem hlt)]
  simp only [Option.bind_some, Bool.false_eq_true, if_false]
  rw [wrS i (by omega)]
  exact ih n (i + 1) (by omega) (by omega)
theorem te (k : Nat) (hk : 2000000 ≤ k) (g1 : GOcc → Option Bool) (l : List GOcc) (hl : l.length ≤ 1000000) (h : ∀ x ∈ l, g1 x = some false) : aR.f g1 k l = some false := by
 have := vh k g1 l hl h l.length k 0 (by omega) (by omega)
 rw [show ((0 : Nat) : Int) = 0 from rfl] at this
 simp only [aR.f, aB.f, this, Option.bind_some]
 rfl
theorem tL (k : Nat) (g1 : GNode → Option Bool) (l : List GNode) (hl : l.length ≤ 1000000) (h : ∀ x ∈ l, g1 x = some false) : ∀ (d n i : Nat), i + d = l.length → d < n → aA.l0 k g1 l n (i : Int) = some (.ok ()) := by
 intro d
 induction d with
 | zero =>
  intro n i hi hn
  obtain ⟨n, rfl⟩ : ∃ m, n = m + 1 := ⟨n - 1, by omega⟩
  rw [aA.l0, if_neg (by omega)]
 | succ d ih =>
  intro n i hi hn
  obtain ⟨n, rfl⟩ : ∃ m, n = m + 1 := ⟨n - 1, by omega⟩
  have hlt : i < l.length := by omega
  rw [aA.l0, if_pos (by omega), ae (by omega), Int.toNat_natCast, List.getElem?_eq_getElem hlt]
  simp only [Option.bind_some]
  rw [h _ (List.getElem_mem hlt)]
  simp only [Option.bind_some, Bool.false_eq_true, if_false]
  rw [wrS i (by omega)]
  exact ih n (i + 1) (by omega) (by omega)
theorem xr (k : Nat) (hk : 2000000 ≤ k) (g1 : GNode → Option Bool) (l : List GNode) (hl : l.length ≤ 1000000) (h : ∀ x ∈ l, g1 x = some false) : cZ.f g1 k l = some false := by
 have := tL k g1 l hl h l.length k 0 (by omega) (by omega)
 rw [show ((0 : Nat) : Int) = 0 from rfl] at this
 simp only [cZ.f, aA.f, this, Option.bind_some]
 rfl
theorem mW {s : Int} {l : List GOcc} {T : Int} (h : ib l) (hm : All (eS s) l) (ht : All (fun o => o.To ≤ T) l) (hT : T ≤ 1020) (hl : l.length ≤ 40) : di l = true :=
 zi (fun o ho => (gZ o).2 ⟨(hm o ho).1, (hm o ho).2.1, by have := ht o ho; omega, by have := List.length_pos_iff.2 (hm o ho).2.2.1; omega, h.2 o ho⟩) h.1 hl
theorem rB {s T : Int} {es : List GEx} {ns : List GNode} {n : GNode} (h : fx T es ns) (hn : n ∈ ns) (hm : je (eS s) n) (hT : 0 ≤ T ∧ T ≤ 1000) :
  di n.Pair.Left = true ∧ di n.Pair.Right = true ∧ di n.Span.Left = true ∧ di n.Span.Mid = true ∧ di n.Due = true := by
 obtain ⟨⟨⟨a1, a2, a3, a4, a5⟩, b1, b2, b3, b4⟩, _, _, c5, d1, d2, d3, d4, d5⟩ := h.2.2 n hn
 obtain ⟨m1, m2, m3, m4, m5⟩ := hm
 have k0 := jh h n 0
 have k1 := jh h n 1
 have k2 := jh h n 2
 refine ⟨mW a1 m1 b1 (by omega) (by omega), mW a2 m2 b2 (by omega) (by omega), mW a3 m3 b3 (by omega) (by omega), mW a4 m4 b4 (by omega) ?_, mW (T := T + 20) a5 m5 (fun o ho => (c5 o ho).2) (by omega) (by omega)⟩
 split at d4 <;> omega
theorem jr (k : Nat) (hk : 1000000000000 ≤ k) {l : List GOcc} (h : di l = true) : bw.f k l = some true := by
 rw [zC k hk l ⟨by have := lq h; omega, sD h⟩, h]
theorem zf (k : Nat) (hk : 2000000000000 ≤ k) {s T : Int} {es : List GEx} {ns : List GNode} (h : fx T es ns) (hT : 0 ≤ T ∧ T ≤ 1000) {i : Nat} {n : GNode} (hn : ns[i]? = some n) (hm : je (eS s) n) : hU.f k n (i : Int) T = some true := by
 have hmem := List.mem_of_getElem? hn
 obtain ⟨o1, o2, o3, o4, o5⟩ := rB h hmem hm hT
 obtain ⟨e, he, hx, hR⟩ := h.1.2 i n hn
 have ha := yo hx hR
 have hlen := h.2.1
 have hi : i < ns.length := (List.getElem?_eq_some_iff.1 hn).1
 have hh : eH e = true := by have := hx.1; rw [ku] at this; simp only [Bool.and_eq_true] at this; exact this.1
 unfold eH at hh
 simp only [Bool.and_eq_true, decide_eq_true_eq, Bool.or_eq_true] at hh
 obtain ⟨⟨⟨⟨hk1, hs1⟩, hs2⟩, hs3⟩, hN⟩ := hh
 obtain ⟨⟨_, _⟩, hM, hD, hD2, _⟩ := h.2.2 n hmem
 have hkids : ∀ x ∈ n.Kids, dX.f x (i : Int) = some false := fun x hx' => by
  obtain ⟨j, hj⟩ := List.mem_iff_getElem?.1 hx'
  have hjl : j < e.Kids.length := by rw [← hR.2.2.2.1]; exact (List.getElem?_eq_some_iff.1 hj).1
  obtain ⟨q, q1, q2, _⟩ := hR.2.2.2.2 j hjl
  rw [hj] at q2
  simp only [Option.some.injEq] at q2
  subst q2
  simp only [dX.f]
  rw [wr _ (by omega), dQ]
  simp only [Option.bind_some, Option.some.injEq, Bool.not_eq_false', Bool.and_eq_true, decide_eq_true_eq]
  omega
 have hdue : ∀ x ∈ n.Due, c9.f x T = some false := fun x hx' => by
  have := (hD2 x hx').1
  simp only [c9.f, Option.some.injEq, Bool.not_eq_false', decide_eq_true_eq]
  omega
 have k3 : n.Kids.length ≤ 3 := by
  have : kj e.Kind ≤ 3 := by
   unfold kj; repeat' split
   all_goals omega
  rw [hR.2.2.2.1]; omega
 have c1 := zY k (by omega) (fun y0 => dX.f y0 (i : Int)) n.Kids (by omega) hkids
 have c2 := te k (by omega) (fun y0 => c9.f y0 T) n.Due (by have := lq o5; omega) hdue
 have hpair : gz.f k n.Pair = some true := by
  unfold gz.f
  rw [jr k (by omega) o1]
  simp only [Option.bind_some, if_true]
  rw [jr k (by omega) o2]
  rfl
 have hspan : gE.f k n.Span = some true := by
  unfold gE.f
  rw [jr k (by omega) o3]
  simp only [Option.bind_some, if_true]
  rw [jr k (by omega) o4]
  rfl
 have hkind : fq.f n.Kind = some true := by
  simp only [fq.f, dQ, Option.bind_some, Option.some.injEq, Bool.and_eq_true, decide_eq_true_eq]
  omega
 have hsym : dl.f n.Sym = some true := by
  simp only [dl.f, dQ, Option.bind_some, Option.some.injEq, Bool.and_eq_true, decide_eq_true_eq]
  rw [hR.2.1]; omega
 have hmany : bc.f n.Many 0 40 = some true := by
  simp only [dQ, Option.some.injEq, Bool.and_eq_true, decide_eq_true_eq]; omega
 unfold hU.f
 rw [hkind]
 simp only [Option.bind_some, if_true]
 rw [wq n.Kind (by omega)]
 simp only [Option.bind_some]
 rw [if_pos (by rw [hR.2.2.2.1, hR.1]; omega), c1]
 simp only [Option.bind_some, Bool.false_eq_true, if_false]
 by_cases h7 : n.Kind = 7
 ·rw [if_pos h7]
  have hn7 : bc.f n.N 1 20 = some true := by
   rw [if_pos (by rw [← hR.1]; exact h7)] at hN
   simp only [Bool.and_eq_true, decide_eq_true_eq] at hN
   simp only [dQ, Option.some.injEq, Bool.and_eq_true, decide_eq_true_eq, hR.2.2.1]; omega
  rw [hn7]
  simp only [Option.bind_some, if_true]
  rw [hsym]
  simp only [Option.bind_some, if_true]
  rw [hmany]
  simp only [Option.bind_some, if_true]
  rw [hpair]
  simp only [Option.bind_some, if_true]
  rw [hspan]
  simp only [Option.bind_some, if_true]
  rw [jr k (by omega) o5]
  simp only [Option.bind_some, if_true]
  rw [c2]
  rfl
 ·rw [if_neg h7]
  have hn0 : n.N = 0 := by
   rw [if_neg (by rw [← hR.1]; exact h7)] at hN
   simp only [decide_eq_true_eq] at hN
   rw [hR.2.2.1]; exact hN
  rw [if_pos hn0, if_neg (by rw [hD h7]; simp)]
  rw [hsym]
  simp only [Option.bind_some, if_true]
  rw [hmany]
  simp only [Option.bind_some, if_true]
  rw [hpair]
  simp only [Option.bind_some, if_true]
  rw [hspan]
  simp only [Option.bind_some, if_true]
  rw [jr k (by omega) o5]
  simp only [Option.bind_some, if_true]
  rw [c2]
  rfl
/-- a graph of an expression that has seen these events -/
structure jF (now : Int) (seen : Nat) (g : GGraph) : Prop where
 inv : ∃ es, fx now es g.Nodes
 late : 0 ≤ now ∧ now ≤ 1000
 now' : g.Now = now
 seen' : g.Seen = seen
 few : seen ≤ 24
 mode : 0 ≤ g.Mode ∧ g.Mode ≤ 4
 full : g.Full = false
 made : ∀ n ∈ g.Nodes, je (eS seen) n
theorem zG (k : Nat) (hk : 2000000000000 ≤ k) {now : Int} {seen : Nat} {g : GGraph} (h : jF now seen g) : cC.f k g = some true := by
 obtain ⟨es, hi⟩ := h.inv
 have hlen := hi.2.1
 have L : ∀ (d n i : Nat), i + d = g.Nodes.length → d < n → cC.l0 k g n (i : Int) = some (.ok ()) := by
  intro d
  induction d with
  | zero =>
   intro n i hi' hn
   obtain ⟨n, rfl⟩ : ∃ m, n = m + 1 := ⟨n - 1, by omega⟩
   rw [cC.l0, if_neg (by omega)]
  | succ d ih =>
   intro n i hi' hn
   obtain ⟨n, rfl⟩ : ∃ m, n = m + 1 := ⟨n - 1, by omega⟩
   have hlt : i < g.Nodes.length := by omega
   rw [cC.l0, if_pos (by omega), ae (by omega), Int.toNat_natCast, List.getElem?_eq_getElem hlt]
   simp only [Option.bind_some]
   rw [h.now', zf k hk hi h.late (List.getElem?_eq_getElem hlt) (h.made _ (List.getElem_mem hlt))]
   simp only [Option.bind_some, if_true]
   rw [wrS i (by omega)]
   exact ih n (i + 1) (by omega) (by omega)
 have L0 := L g.Nodes.length k 0 (by omega) (by omega)
 rw [show ((0 : Nat) : Int) = 0 from rfl] at L0
 unfold cC.f
 rw [L0]
 simp only [Option.bind_some]
 have e1 : c7.f g.Mode = some true := by
  simp only [c7.f, dQ, Option.bind_some, Option.some.injEq, Bool.and_eq_true, decide_eq_true_eq]; exact h.mode
 have e2 : bc.f (g.Nodes.length : Int) 1 12 = some true := by
  simp only [dQ, Option.some.injEq, Bool.and_eq_true, decide_eq_true_eq]; omega
 have e3 : bc.f g.Seen 0 24 = some true := by
  have := h.seen'; have := h.few
  simp only [dQ, Option.some.injEq, Bool.and_eq_true, decide_eq_true_eq]; omega
 have e4 : bc.f g.Now 0 1000 = some true := by
  have := h.now'; have := h.late
  simp only [dQ, Option.some.injEq, Bool.and_eq_true, decide_eq_true_eq]; omega
 rw [e1]
 simp only [Option.bind_some, if_true]
 rw [e2]
 simp only [Option.bind_some, if_true]
 rw [e3]
 simp only [Option.bind_some, if_true]
 rw [e4]
 rfl
theorem sN {s : Nat} {o : GOcc} (h : eS s o) (hl : o.Ids.length ≤ 1000) : ∃ x, dp.f o = some x ∧ x ∈ o.Ids ∧ x < s := by
 have h1 := List.length_pos_iff.2 h.2.2.1
 obtain ⟨m, hm⟩ : ∃ m, o.Ids.length = m + 1 := ⟨o.Ids.length - 1, by omega⟩
 unfold dp.f
 rw [hm, wrP m (by omega), ae (by omega), Int.toNat_natCast, List.getElem?_eq_getElem (by omega)]
 exact ⟨_, rfl, List.getElem_mem _, h.2.2.2 _ (List.getElem_mem _)⟩
theorem BU (k : Nat) (hk : 2000000 ≤ k) (e : GEng) (ls : List (List GOcc)) (hl : ls.length ≤ 1000) (h : ∀ l ∈ ls, l.length ≤ 1000 ∧ All (eS e.Events.length) l ∧ Ids l) : bQ.f k e ls = some true := by
 have L : ∀ (d n i : Nat), i + d = ls.length → d < n → bQ.l0 k e ls n (i : Int) = some (.ok ()) := by
  intro d
  induction d with
  | zero =>
   intro n i hi' hn
   obtain ⟨n, rfl⟩ : ∃ m, n = m + 1 := ⟨n - 1, by omega⟩
   rw [bQ.l0, if_neg (by omega)]
  | succ d ih =>
   intro n i hi' hn
   obtain ⟨n, rfl⟩ : ∃ m, n = m + 1 := ⟨n - 1, by omega⟩
   have hlt : i < ls.length := by omega
   obtain ⟨h1, h2, h3⟩ := h _ (List.getElem_mem hlt)
   rw [bQ.l0, if_pos (by omega), ae (by omega), Int.toNat_natCast, List.getElem?_eq_getElem hlt]
   simp only [Option.bind_some]
   rw [te k hk (fun y0 => dY.f y0 e) ls[i] (by omega) (fun x hx => by
    obtain ⟨z, q1, _, q3⟩ := sN (h2 x hx) (by have := dP (h3 x hx); omega)
    simp only [dY.f, q1, Option.bind_some, Option.some.injEq, Bool.not_eq_false', decide_eq_true_eq]
    exact q3)]
   simp only [Option.bind_some, Bool.false_eq_true, if_false]
   rw [wrS i (by omega)]
   exact ih n (i + 1) (by omega) (by omega)
 have L0 := L ls.length k 0 (by omega) (by omega)
 rw [show ((0 : Nat) : Int) = 0 from rfl] at L0
 unfold bQ.f
 rw [L0]
 rfl
theorem ye (k : Nat) (hk : 2000000000000 ≤ k) (e : GEng) {now : Int} {g : GGraph} (hn : iv.f e.Events = some now) (h : jF now e.Events.length g) : eO.f k e g = some true := by
 obtain ⟨es, hi⟩ := h.inv
 have hlen := hi.2.1
 unfold eO.f
 rw [zG k hk h]
 simp only [Option.bind_some, if_true]
 rw [if_neg (by rw [h.full]; decide), if_pos h.seen', hn]
 simp only [Option.bind_some]
 rw [if_pos h.now', xr k (by omega) (fun y0 => dF.f k y0 e) g.Nodes (by omega) (fun n hn' => by
  obtain ⟨o1, o2, o3, o4, o5⟩ := rB hi hn' (h.made n hn') h.late
  obtain ⟨m1, m2, m3, m4, m5⟩ := h.made n hn'
  have each : ∀ l, di l = true → All (eS e.Events.length) l → l.length ≤ 1000 ∧ All (eS e.Events.length) l ∧ Ids l := fun l ho hm => ⟨by have := lq ho; omega, hm, zV ho⟩
  simp only [dF.f]
  rw [BU k (by omega) e _ (by simp) (fun l hl => by
   simp only [List.mem_cons, List.not_mem_nil, or_false] at hl
   rcases hl with rfl | rfl | rfl | rfl | rfl
   ·exact each _ o1 m1
   ·exact each _ o2 m2
   ·exact each _ o3 m3
   ·exact each _ o4 m4
   ·exact each _ o5 m5)]
  rfl)]
 rfl
def nH (rs : List GRule) (x : Int) : Int := ((rs[x.toNat]?).map (·.Pri)).getD 0
/-- into a list that is kept backwards -/
def inR (p : Int → Int) : List Int → Int → List Int
 | [], x => [x]
 | y :: l, x => if p y < p x then y :: inR p l x else x :: y :: l
def iK (p : Int → Int) (n : Nat) : List Int := (List.range n).foldl (fun s (i : Nat) => inR p s (i : Int)) []
def dU (rs : List GRule) : List Int := (iK (nH rs) rs.length).reverse
theorem ko (p : Int → Int) (n : Nat) : iK p (n + 1) = inR p (iK p n) (n : Int) := by
 unfold iK
 rw [List.range_succ, List.foldl_append]; rfl
theorem vD (p : Int → Int) (x : Int) : ∀ l : List Int, (inR p l x).Perm (x :: l)
 | [] => List.Perm.refl _
 | y :: l => by
  unfold inR
  split
  ·exact ((vD p x l).cons y).trans (List.Perm.swap x y l)
  ·exact List.Perm.refl _
theorem kt (p : Int → Int) : ∀ n : Nat, (iK p n).Perm ((List.range n).map fun i : Nat => (i : Int))
 | 0 => List.Perm.refl _
 | n + 1 => by
  rw [ko, List.range_succ, List.map_append]
  exact (vD p n _).trans (((kt p n).cons (n : Int)).trans (by rw [List.map_cons, List.map_nil]; exact (List.perm_append_singleton _ _).symm))
theorem nX (rs : List GRule) : (dU rs).Perm ((List.range rs.length).map fun i : Nat => (i : Int)) := (List.reverse_perm _).trans (kt _ _)
theorem ky (rs : List GRule) : (dU rs).length = rs.length := by rw [(nX rs).length_eq]; simp
theorem o6 {rs : List GRule} {x : Int} : x ∈ dU rs ↔ ∃ i : Nat, i < rs.length ∧ x = i := by
 rw [(nX rs).mem_iff, List.mem_map]
 constructor
 ·rintro ⟨i, h, rfl⟩; exact ⟨i, List.mem_range.1 h, rfl⟩
 ·rintro ⟨i, h, rfl⟩; exact ⟨i, List.mem_range.2 h, rfl⟩
theorem xd (rs : List GRule) : (dU rs).Nodup := by
 rw [(nX rs).nodup_iff]
 exact (List.pairwise_map.2 ((List.nodup_range (n := rs.length)).imp fun h e => h (Int.ofNat.inj e)))
theorem rf {p : Int → Int} {n : Nat} {x : Int} : x ∈ iK p n ↔ ∃ i : Nat, i < n ∧ x = i := by
 rw [(kt p n).mem_iff, List.mem_map]
 constructor
 ·rintro ⟨i, h, rfl⟩; exact ⟨i, List.mem_range.1 h, rfl⟩
 ·rintro ⟨i, h, rfl⟩; exact ⟨i, List.mem_range.2 h, rfl⟩
theorem uA {p q : Int → Int} {x : Int} (hx : p x = q x) : ∀ {l : List Int}, (∀ y ∈ l, p y = q y) → inR p l x = inR q l x
 | [], _ => rfl
 | y :: l, h => by
  unfold inR
  rw [hx, h y (by simp), uA hx (fun z hz => h z (by simp [hz]))]
theorem sR {p q : Int → Int} : ∀ {n : Nat}, (∀ i : Nat, i < n → p i = q i) → iK p n = iK q n
 | 0, _ => rfl
 | n + 1, h => by
  rw [ko, ko, sR (n := n) (fun i hi => h i (by omega))]
  exact uA (h n (by omega)) (fun y hy => by obtain ⟨i, hi, rfl⟩ := rf.1 hy; exact h i (by omega))
theorem AK {p : Int → Int} {x : Int} {l : List Int} (h : ∀ y ∈ l, p x ≤ p y) : inR p l x = x :: l := by
 cases l with
 | nil => rfl
 | cons y l =>
  unfold inR
  rw [if_neg (by have := h y (by simp); omega)]
theorem yF (rs : List GRule) (r : GRule) (h : ∀ s ∈ rs, r.Pri ≤ s.Pri) : dU (rs ++ [r]) = dU rs ++ [(rs.length : Int)] := by
 unfold dU
 rw [List.length_append, List.length_singleton, ko]
 have hc : ∀ i : Nat, i < rs.length → nH (rs ++ [r]) i = nH rs i := fun i hi => by
  unfold nH; rw [Int.toNat_natCast, List.getElem?_append_left hi]
 rw [sR hc, AK (fun y hy => ?_), List.reverse_cons]
 obtain ⟨i, hi, rfl⟩ := rf.1 hy
 rw [hc i hi]
 unfold nH
 rw [Int.toNat_natCast, Int.toNat_natCast, List.getElem?_append_right (Nat.le_refl _), Nat.sub_self, List.getElem?_eq_getElem hi]
 simp only [List.getElem?_cons_zero, Option.map_some, Option.getD_some]
 exact h _ (List.getElem_mem hi)
theorem Bv {α : Type} (A : List α) (y x z : α) (r : List α) : (A ++ y :: x :: r).set (A.length + 1) z = A ++ y :: z :: r := by
 rw [List.set_append_right _ _ (by omega), Nat.add_sub_cancel_left]; rfl
theorem CO {α : Type} (A : List α) (y z : α) (r : List α) : (A ++ y :: r).set A.length z = A ++ z :: r := by
 rw [List.set_append_right _ _ (by omega), Nat.sub_self]; rfl
theorem BQ {α : Type} (A : List α) (y x : α) (r : List α) : (A ++ y :: x :: r)[A.length + 1]? = some x := by
 rw [List.getElem?_append_right (by omega), Nat.add_sub_cancel_left]; rfl
theorem wH {α : Type} (A : List α) (y : α) (r : List α) : (A ++ y :: r)[A.length]? = some y := by
 rw [List.getElem?_append_right (by omega), Nat.sub_self]; rfl
theorem uJ (k : Nat) (p : Int → Int) (V : Int → Prop) (g : Int → Int → Option Int) (hg : ∀ a b, V a → V b → g a b = some (p b - p a)) (x : Int) (hx : V x) : ∀ (A r : List Int) (N : Nat), (∀ y ∈ A, V y) → A.length + r.length ≤ 1000 → A.length < N →
  aq.l3 k g 0 N (A.reverse ++ x :: r) (A.length : Int) = some ((inR p A x).reverse ++ r)
 | [], r, N, _, _, hN => by
  obtain ⟨N, rfl⟩ : ∃ m, N = m + 1 := ⟨N - 1, by omega⟩
  rw [aq.l3, if_neg (by simp)]
  rfl
 | y :: A, r, N, hA, hl, hN => by
  obtain ⟨N, rfl⟩ : ∃ m, N = m + 1 := ⟨N - 1, by omega⟩
  have hl' := hl
  simp only [List.length_cons] at hl'
  have e0 : (y :: A).reverse ++ x :: r = A.reverse ++ y :: x :: r := by simp
  have eL : (A.reverse ++ y :: x :: r).length = A.length + r.length + 2 := by simp; omega
  have g1 : (A.reverse ++ y :: x :: r)[A.length + 1]? = some x := by have := BQ A.reverse y x r; rwa [List.length_reverse] at this
  have g2 : (A.reverse ++ y :: x :: r)[A.length]? = some y := by have := wH A.reverse y (x :: r); rwa [List.length_reverse] at this
  have s1 : (A.reverse ++ y :: x :: r).set (A.length + 1) y = A.reverse ++ y :: y :: r := by have := Bv A.reverse y x y r; rwa [List.length_reverse] at this
  have s2 : (A.reverse ++ y :: y :: r).set A.length x = A.reverse ++ x :: y :: r := by have := CO A.reverse y x (y :: r); rwa [List.length_reverse] at this
  have g3 : (A.reverse ++ y :: y :: r)[A.length]? = some y := by have := wH A.reverse y (y :: r); rwa [List.length_reverse] at this
  rw [e0, show (((y :: A).length : Nat) : Int) = ((A.length + 1 : Nat) : Int) from rfl]
  rw [aq.l3, if_pos (by omega), wrP A.length (by omega), ae (by omega), ae (by rw [eL]; omega), Int.toNat_natCast, Int.toNat_natCast, g1]
  simp only [Option.bind_some]
  rw [ae (by omega), ae (by rw [eL]; omega), g2]
  simp only [Option.bind_some]
  rw [hg x y hx (hA y (by simp))]
  simp only [Option.bind_some]
  unfold inR
  by_cases h : p y < p x
  ·rw [if_pos (by omega), if_pos h]
   rw [ae (by omega), ae (by rw [eL]; omega), ae (by omega), ae (by rw [eL]; omega), ae (by omega), ae (by rw [eL]; omega), ae (by omega), ae (by rw [eL]; omega), s1, g3]
   simp only [Option.bind_some]
   rw [s2, uJ k p V g hg x hx A (y :: r) N (fun z hz => hA z (by simp [hz])) (by simp only [List.length_cons]; omega) (by simp only [List.length_cons] at hN; omega)]
   simp
  ·rw [if_neg (by omega), if_neg h]
   simp
theorem An (k : Nat) (hk : 2000 ≤ k) (p : Int → Int) (V : Int → Prop) (g : Int → Int → Option Int) (hg : ∀ a b, V a → V b → g a b = some (p b - p a)) (n : Nat) (hn : n ≤ 500) (hV : ∀ i : Nat, i < n → V i) : ∀ (d i N : Nat), i + d = n → 1 ≤ i → d < N →
  aq.l2 k g 0 (n : Int) N ((iK p i).reverse ++ (List.range' i d).map fun j : Nat => (j : Int)) (i : Int) = some (iK p n).reverse := by
 intro d
 induction d with
 | zero =>
  intro i N hi h1 hN
  obtain ⟨N, rfl⟩ : ∃ m, N = m + 1 := ⟨N - 1, by omega⟩
  have : i = n := by omega
  subst this
  rw [aq.l2, if_neg (by omega)]
  simp
 | succ d ih =>
  intro i N hi h1 hN
  obtain ⟨N, rfl⟩ : ∃ m, N = m + 1 := ⟨N - 1, by omega⟩
  rw [aq.l2, if_pos (by omega), List.range'_succ, List.map_cons]
  have hlen : (iK p i).length = i := by rw [(kt p i).length_eq]; simp
  have := uJ k p V g hg (i : Int) (hV i (by omega)) (iK p i) ((List.range' (i + 1) d).map fun j : Nat => (j : Int)) k (fun y hy => by obtain ⟨j, hj, rfl⟩ := rf.1 hy; exact hV j (by omega)) (by rw [hlen]; simp; omega) (by omega)
  rw [hlen] at this
  rw [this]
  simp only [Option.bind_some]
  rw [wrS i (by omega), ← ko]
  exact ih (i + 1) N (by omega) (by omega) (by omega)
theorem B6 (k : Nat) (hk : 2000 ≤ k) (p : Int → Int) (V : Int → Prop) (g : Int → Int → Option Int) (hg : ∀ a b, V a → V b → g a b = some (p b - p a)) (n : Nat) (hn : n ≤ 500) (hV : ∀ i : Nat, i < n → V i) :
  aq.f g k ((List.range' 0 n).map fun j : Nat => (j : Int)) 0 (n : Int) = some (iK p n).reverse := by
 unfold aq.f
 rw [show IntKind.wrap .i64 ((0 : Int) + 1) = 1 from wr _ (by omega)]
 cases n with
 | zero =>
  obtain ⟨m, rfl⟩ : ∃ m, k = m + 1 := ⟨k - 1, by omega⟩
  rw [aq.l2, if_neg (by omega)]; rfl
 | succ n =>
  rw [List.range'_succ, List.map_cons]
  have := An k hk p V g hg (n + 1) hn hV n 1 k (by omega) (by omega) (by omega)
  rw [show (iK p 1).reverse = [((0 : Nat) : Int)] from rfl] at this
  rw [show ((1 : Nat) : Int) = 1 from rfl] at this
  have e : ((0 : Nat) : Int) :: List.map (fun j : Nat => (j : Int)) (List.range' (0 + 1) n) = [((0 : Nat) : Int)] ++ List.map (fun j : Nat => (j : Int)) (List.range' 1 n) := rfl
  rw [e, this]; rfl
theorem zZ (k : Nat) (hk : 2000 ≤ k) (p : Int → Int) (V : Int → Prop) (g : Int → Int → Option Int) (hg : ∀ a b, V a → V b → g a b = some (p b - p a)) (n : Nat) (hn : n ≤ 19) (hV : ∀ i : Nat, i < n → V i) :
  dA.f g k ((List.range' 0 n).map fun j : Nat => (j : Int)) = some (iK p n).reverse := by
 have hlen : (iK p n).reverse.length = n := by rw [List.length_reverse, (kt p n).length_eq]; simp
 have hl2 : ((List.range' 0 n).map fun j : Nat => (j : Int)).length = n := by simp
 obtain ⟨m, rfl⟩ : ∃ m, k = m + 1 := ⟨k - 1, by omega⟩
 have ie := B6 (m + 1) hk p V g hg n (by omega) hV
 unfold dA.f aH.f
 rw [aH.l0, hl2, if_pos (by omega)]
 simp only [Option.bind_some]
 rw [ie]
 simp only [Option.bind_some]
 rw [aH.l3, if_neg (by omega), ae (by rw [hlen, hl2])]
 simp only [Option.bind_some]
 rw [ae (by rw [hlen])]
theorem BX (k : Nat) (hk : 2000 ≤ k) (rs : List GRule) (hl : rs.length ≤ 4) (hp : ∀ r ∈ rs, 0 ≤ r.Pri ∧ r.Pri ≤ 9) : c8.f k rs = some (dU rs) := by
 have L : ∀ (d i N : Nat), i + d = rs.length → d < N → c8.l0 k rs N ((List.range' 0 i).map fun j : Nat => (j : Int)) (i : Int) = some ((List.range' 0 rs.length).map fun j : Nat => (j : Int)) := by
  intro d
  induction d with
  | zero =>
   intro i N hi hN
   obtain ⟨N, rfl⟩ : ∃ m, N = m + 1 := ⟨N - 1, by omega⟩
   rw [c8.l0, if_neg (by omega), show i = rs.length by omega]
  | succ d ih =>
   intro i N hi hN
   obtain ⟨N, rfl⟩ : ∃ m, N = m + 1 := ⟨N - 1, by omega⟩
   rw [c8.l0, if_pos (by omega), ae (by simp; omega), wrS i (by omega)]
   have := ih (i + 1) N (by omega) (by omega)
   rw [List.range'_concat, List.map_append] at this
   simpa using this
 have L0 := L rs.length 0 k (by omega) (by omega)
 unfold c8.f
 rw [show (List.map (fun j : Nat => (j : Int)) (List.range' 0 0)) = [] from rfl, show ((0 : Nat) : Int) = 0 from rfl] at L0
 rw [L0]
 simp only [Option.bind_some]
 have hlen : (dU rs).length = rs.length := ky rs
 rw [zZ k hk (nH rs) (fun x => ∃ i : Nat, i < rs.length ∧ x = i) _ (fun a b ⟨i, hi, ha⟩ ⟨j, hj, hb⟩ => by
  subst ha; subst hb
  unfold gX.f nH
  have h1 := hp _ (List.getElem_mem hi)
  have h2 := hp _ (List.getElem_mem hj)
  rw [ae (by omega), Int.toNat_natCast, Int.toNat_natCast, List.getElem?_eq_getElem hj]
  simp only [Option.bind_some]
  rw [ae (by omega), List.getElem?_eq_getElem hi]
  simp only [Option.bind_some, Option.map_some, Option.getD_some]
  rw [wr _ (by omega)]) rs.length (by omega) (fun i hi => ⟨i, hi, rfl⟩)]
 simp only [Option.bind_some]
 rw [ae (by show (dU rs).length = _; rw [hlen]; simp)]
 rfl
/-- a loop that ends where something does not hold -/
theorem yM {β : Type} (m : Nat) (p : Nat → Bool) (b : β) (L : Nat → Int → Option (Except β Unit)) (h0 : ∀ N, L (N + 1) (m : Int) = some (.ok ()))
  (h1 : ∀ N i, i < m → L (N + 1) (i : Int) = if p i = true then L N ((i + 1 : Nat) : Int) else some (.error b)) : ∀ (d i N : Nat), i + d = m → d < N → L N (i : Int) = some (if (List.range' i d).all p = true then .ok () else .error b) := by
 intro d
 induction d with
 | zero =>
  intro i N hi hN
  obtain ⟨N, rfl⟩ : ∃ q, N = q + 1 := ⟨N - 1, by omega⟩
  rw [show i = m by omega, h0]; rfl
 | succ d ih =>
  intro i N hi hN
  obtain ⟨N, rfl⟩ : ∃ q, N = q + 1 := ⟨N - 1, by omega⟩
  rw [h1 N i (by omega), List.range'_succ, List.all_cons]
  by_cases hp : p i = true
  ·rw [if_pos hp, ih (i + 1) N (by omega) (by omega), hp, Bool.true_and]
  ·rw [if_neg hp]
   have : p i = false := by simpa using hp
   rw [this, Bool.false_and]; rfl
theorem iQ {β : Type} (m : Nat) (p : Nat → Bool) (b : β) (L : Nat → Int → Option (Except β Unit)) (h0 : ∀ N, L (N + 1) (m : Int) = some (.ok ()))
  (h1 : ∀ N i, i < m → L (N + 1) (i : Int) = if p i = true then L N ((i + 1 : Nat) : Int) else some (.error b)) (N : Nat) (hN : m < N) : L N 0 = some (if ∀ i, i < m → p i = true then .ok () else .error b) := by
 have := yM m p b L h0 h1 m 0 N (by omega) hN
 rw [show ((0 : Nat) : Int) = 0 from rfl] at this
 rw [this]
 congr 1
 by_cases h : ∀ i, i < m → p i = true
 ·rw [if_pos h, if_pos]
  rw [List.all_eq_true]
  intro x hx
  rw [List.mem_range'] at hx
  obtain ⟨j, h1, h2⟩ := hx
  exact h x (by omega)
 ·rw [if_neg h, if_neg]
  intro q
  rw [List.all_eq_true] at q
  exact h fun i hi => q i (List.mem_range'.2 ⟨i, hi, by omega⟩)
/-- a loop that makes one of each -/
theorem jV {α β : Type} (l : List α) (f : α → β) (L : Nat → List β → Int → Option (List β)) (h0 : ∀ N acc, L (N + 1) acc (l.length : Int) = some acc)
  (h1 : ∀ N acc i (h : i < l.length), acc.length = i → L (N + 1) acc (i : Int) = L N (acc ++ [f l[i]]) ((i + 1 : Nat) : Int)) (N : Nat) (hN : l.length < N) : L N [] 0 = some (l.map f) := by
 have : ∀ (d i N : Nat), i + d = l.length → d < N → L N ((l.take i).map f) (i : Int) = some (l.map f) := by
  intro d
  induction d with
  | zero =>
   intro i N hi hN
   obtain ⟨N, rfl⟩ : ∃ q, N = q + 1 := ⟨N - 1, by omega⟩
   rw [show i = l.length by omega, h0, List.take_length]
  | succ d ih =>
   intro i N hi hN
   obtain ⟨N, rfl⟩ : ∃ q, N = q + 1 := ⟨N - 1, by omega⟩
   have hlt : i < l.length := by omega
   rw [h1 N _ i hlt (by simp; omega)]
   have := ih (i + 1) N (by omega) (by omega)
   rw [List.take_add_one, List.getElem?_eq_getElem hlt, List.map_append] at this
   exact this
 exact this l.length 0 N (by omega) hN
def lY (s : ByteArray) (i : Nat) : Bool := !decide ((kg s i) < 97) && !decide (122 < (kg s i))
def ik (s : ByteArray) : Bool := decide (∀ i, i < s.size → lY s i = true) && (decide (1 ≤ s.size) && decide (s.size ≤ 6))
theorem vl (k : Nat) (s : ByteArray) (hs : s.size ≤ 1000000) (hk : 1000001 ≤ k) : cI.f k s = some (ik s) := by
 have := iQ s.size (lY s) false (cI.l0 k s) (fun N => by rw [cI.l0, if_neg (by omega)])
  (fun N i hi => by
   rw [cI.l0, if_pos (by omega), ae (by omega), ae (by omega), ae (by omega), ae (by omega), Int.toNat_natCast, wrS i (by omega)]
   unfold lY
   by_cases h1 : (kg s i) < 97
   ·rw [if_pos h1]; simp [h1]
   ·rw [if_neg h1]
    by_cases h2 : 122 < (kg s i)
    ·rw [if_pos h2]; simp [h2]
    ·rw [if_neg h2]; simp [h1, h2]) k (by omega)
 unfold cI.f ik
 rw [this]
 by_cases h : ∀ i, i < s.size → lY s i = true
 ·rw [if_pos h]
  simp only [Option.bind_some, dQ, Option.some.injEq]
  rw [Bool.eq_iff_iff]
  simp only [Bool.and_eq_true, decide_eq_true_eq]
  constructor
  ·intro q; exact ⟨h, by omega, by omega⟩
  ·intro q; omega
 ·rw [if_neg h, decide_eq_false h]; rfl
def rOk (r : GRule) : Bool := ik r.Name && (decide (0 ≤ r.Pri ∧ r.Pri ≤ 9) && (decide (0 ≤ r.Mode ∧ r.Mode ≤ 4) && (kS r.Ex && (decide (0 ≤ r.Low ∧ r.Low ≤ r.High ∧ r.High ≤ 100) && (decide (0 ≤ r.Key ∧ r.Key ≤ 3) && (decide (-9 ≤ r.Add ∧ r.Add ≤ 9) && decide (-1 ≤ r.Raise ∧ r.Raise ≤ 4)))))))
structure lg (r : GRule) : Prop where
 name : ik r.Name = true
 pri : 0 ≤ r.Pri ∧ r.Pri ≤ 9
 mode : 0 ≤ r.Mode ∧ r.Mode ≤ 4
 ex : kS r.Ex = true
 low : 0 ≤ r.Low ∧ r.Low ≤ r.High ∧ r.High ≤ 100
 key : 0 ≤ r.Key ∧ r.Key ≤ 3
 add : -9 ≤ r.Add ∧ r.Add ≤ 9
 raise : -1 ≤ r.Raise ∧ r.Raise ≤ 4
theorem tw (r : GRule) : rOk r = true ↔ lg r := by
 unfold rOk
 simp only [Bool.and_eq_true, decide_eq_true_eq]
 constructor
 ·rintro ⟨a, b, c, d, e, f, g, h⟩; exact ⟨a, b, c, d, e, f, g, h⟩
 ·rintro ⟨a, b, c, d, e, f, g, h⟩; exact ⟨a, b, c, d, e, f, g, h⟩
/-- small enough to be looked at -/
def kw (r : GRule) : Prop := r.Name.size ≤ 1000000 ∧ exN r.Ex ≤ 1000000
theorem uY (k : Nat) (hk : 1000000000000 ≤ k) (r : GRule) (h : kw r) : iW.f k r = some (rOk r) := by
 unfold iW.f rOk
 rw [vl k r.Name h.1 (by omega), tj, qs r.Ex (by have := h.2; omega) k (by have := h.2; omega)]
 simp only [dQ, Option.bind_some]
 cases ik r.Name
 ·rfl
 simp only [if_true, Bool.true_and]
 by_cases h1 : 0 ≤ r.Pri ∧ r.Pri ≤ 9
 rotate_left
 ·rw [if_neg (by simpa using h1), decide_eq_false h1]; rfl
 rw [if_pos (by simpa using h1), decide_eq_true h1, Bool.true_and]
 by_cases h2 : 0 ≤ r.Mode ∧ r.Mode ≤ 4
 rotate_left
 ·rw [if_neg (by simpa using h2), decide_eq_false h2]; rfl
 rw [if_pos (by simpa using h2), decide_eq_true h2, Bool.true_and]
 cases kS r.Ex
 ·rfl
 simp only [if_true, Bool.true_and]
 by_cases h3 : 0 ≤ r.Low ∧ r.Low ≤ r.High
 rotate_left
 ·rw [if_neg (by simpa using h3), decide_eq_false (fun q => h3 ⟨q.1, q.2.1⟩)]; rfl
 rw [if_pos (by simpa using h3)]
 by_cases h4 : 100 < r.High
 ·rw [if_pos h4, decide_eq_false (fun q => by omega)]; rfl
 rw [if_neg h4, decide_eq_true (show 0 ≤ r.Low ∧ r.Low ≤ r.High ∧ r.High ≤ 100 by omega), Bool.true_and]
 by_cases h5 : 0 ≤ r.Key ∧ r.Key ≤ 3
 rotate_left
 ·rw [if_neg (by simpa using h5), decide_eq_false h5]; rfl
 rw [if_pos (by simpa using h5), decide_eq_true h5, Bool.true_and]
 by_cases h6 : -9 ≤ r.Add ∧ r.Add ≤ 9
 rotate_left
 ·rw [if_neg (by simpa using h6), decide_eq_false h6]; rfl
 rw [if_pos (by simpa using h6), decide_eq_true h6, Bool.true_and, Option.some.injEq, Bool.eq_iff_iff]
 simp
def eW (l : List GRule) (i : Nat) : Bool := match l[i]? with
 | some r => rOk r && (l.take i).all fun s => !eZ s.Name r.Name
 | none => false
def dD (l : List GRule) : Bool := decide (∀ i, i < l.length → eW l i = true) && decide (l.length ≤ 4)
theorem ec {l : List GRule} (h : dD l = true) {r : GRule} (hr : r ∈ l) : lg r := by
 unfold dD at h
 simp only [Bool.and_eq_true, decide_eq_true_eq] at h
 obtain ⟨i, hi, rfl⟩ := List.mem_iff_getElem.1 hr
 have := h.1 i hi
 unfold eW at this
 rw [List.getElem?_eq_getElem hi] at this
 simp only [Bool.and_eq_true] at this
 exact (tw _).1 this.1
theorem mP {l : List GRule} (h : dD l = true) : l.length ≤ 4 := by
 unfold dD at h
 simp only [Bool.and_eq_true, decide_eq_true_eq] at h
 exact h.2
theorem lg.small {r : GRule} (h : lg r) : kw r := by
 refine ⟨?_, by have := oV h.ex; omega⟩
 have := h.name
 unfold ik at this
 simp only [Bool.and_eq_true, decide_eq_true_eq] at this
 omega
theorem u5 (k : Nat) (g1 : GRule → Option Bool) (p : GRule → Bool) (l : List GRule) (hl : l.length ≤ 1000000) (h : ∀ x ∈ l, g1 x = some (p x)) : ∀ (d n i : Nat), i + d = l.length → d < n →
  ∃ r, bf.l0 k g1 l n (i : Int) = some r ∧ ((∃ j : Int, r = .error j ∧ 0 ≤ j ∧ (l.drop i).any p = true) ∨ (r = .ok () ∧ (l.drop i).any p = false)) := by
 intro d
 induction d with
 | zero =>
  intro n i hi hn
  obtain ⟨n, rfl⟩ : ∃ m, n = m + 1 := ⟨n - 1, by omega⟩
  rw [bf.l0, if_neg (by omega), List.drop_eq_nil_of_le (by omega)]
  exact ⟨_, rfl, .inr ⟨rfl, rfl⟩⟩
 | succ d ih =>
  intro n i hi hn
  obtain ⟨n, rfl⟩ : ∃ m, n = m + 1 := ⟨n - 1, by omega⟩
  have hlt : i < l.length := by omega
  rw [bf.l0, if_pos (by omega), ae (by omega), Int.toNat_natCast, List.getElem?_eq_getElem hlt, List.drop_eq_getElem_cons hlt, List.any_cons]
  simp only [Option.bind_some]
  rw [h _ (List.getElem_mem hlt)]
  simp only [Option.bind_some]
  cases hp : p l[i]
  ·simp only [Bool.false_eq_true, if_false, Bool.false_or]
   rw [wrS i (by omega)]
   exact ih n (i + 1) (by omega) (by omega)
  ·exact ⟨_, rfl, .inl ⟨i, rfl, by omega, rfl⟩⟩
theorem yJ (k : Nat) (hk : 2000000 ≤ k) (g1 : GRule → Option Bool) (p : GRule → Bool) (l : List GRule) (hl : l.length ≤ 1000000) (h : ∀ x ∈ l, g1 x = some (p x)) : cV.f g1 k l = some (l.any p) := by
 obtain ⟨r, e, h3⟩ := u5 k g1 p l hl h l.length k 0 (by omega) (by omega)
 unfold cV.f bf.f
 rw [show (0 : Int) = ((0 : Nat) : Int) from rfl, e]
 simp only [List.drop_zero] at h3
 rcases h3 with ⟨j, rfl, hj, h4⟩ | ⟨rfl, h4⟩
 ·have : ¬ j < 0 := by omega
  simp [h4, this]
 ·simp [h4]
theorem BL {α : Type} (p : α → Bool) (l : List α) : (l.all fun x => !p x) = !(l.any p) := by
 induction l with
 | nil => rfl
 | cons x l ih => rw [List.all_cons, List.any_cons, ih, Bool.not_or]
theorem jS (k : Nat) (hk : 1000000000000 ≤ k) (l : List GRule) (hl : l.length ≤ 1000000) (h : ∀ r ∈ l, kw r) : bF.f k l = some (dD l) := by
 have := iQ l.length (eW l) false (bF.l0 k l) (fun N => by rw [bF.l0, if_neg (by omega)])
  (fun N i hi => by
   rw [bF.l0, if_pos (by omega), ae (by omega), Int.toNat_natCast, List.getElem?_eq_getElem hi]
   simp only [Option.bind_some]
   rw [uY k hk _ (h _ (List.getElem_mem hi))]
   simp only [Option.bind_some]
   have hn : eW l i = (rOk l[i] && (l.take i).all fun s => !eZ s.Name l[i].Name) := by unfold eW; rw [List.getElem?_eq_getElem hi]
   rw [hn]
   by_cases hb : rOk l[i] = true
   ·rw [if_pos hb, hb, Bool.true_and, ae (by omega), ae (by omega), ae (by omega), yJ k (by omega) (fun y0 => fU.f y0 l[i]) (fun s => eZ s.Name l[i].Name) (l.take i) (by rw [List.length_take]; omega) (fun x _ => rfl)]
    simp only [Option.bind_some]
    rw [BL]
    cases (l.take i).any fun s => eZ s.Name l[i].Name
    ·simp only [Bool.false_eq_true, if_false, Bool.not_false, if_true]
     rw [wrS i (by omega)]
    ·rfl
   ·rw [if_neg hb]
    have : rOk l[i] = false := by simpa using hb
    rw [this]; rfl) k (by omega)
 unfold bF.f dD
 rw [this]
 by_cases h : ∀ i, i < l.length → eW l i = true
 ·rw [if_pos h, decide_eq_true h, Bool.true_and]
  simp only [Option.bind_some, Option.some.injEq]
  rw [Bool.eq_iff_iff]
  simp; omega
 ·rw [if_neg h, decide_eq_false h]; rfl
theorem sQ (k : Nat) (g1 : GGraph → Option Bool) (l : List GGraph) (hl : l.length ≤ 1000000) (h : ∀ x ∈ l, g1 x = some false) : ∀ (d n i : Nat), i + d = l.length → d < n → ba.l0 k g1 l n (i : Int) = some (.ok ()) := by
 intro d
 induction d with
 | zero =>
  intro n i hi hn
  obtain ⟨n, rfl⟩ : ∃ m, n = m + 1 := ⟨n - 1, by omega⟩
  rw [ba.l0, if_neg (by omega)]
 | succ d ih =>
  intro n i hi hn
  obtain ⟨n, rfl⟩ : ∃ m, n = m + 1 := ⟨n - 1, by omega⟩
  have hlt : i < l.length := by omega
  rw [ba.l0, if_pos (by omega), ae (by omega), Int.toNat_natCast, List.getElem?_eq_getElem hlt]
  simp only [Option.bind_some]
  rw [h _ (List.getElem_mem hlt)]
  simp only [Option.bind_some, Bool.false_eq_true, if_false]
  rw [wrS i (by omega)]
  exact ih n (i + 1) (by omega) (by omega)
theorem vE (k : Nat) (hk : 2000000 ≤ k) (g1 : GGraph → Option Bool) (l : List GGraph) (hl : l.length ≤ 1000000) (h : ∀ x ∈ l, g1 x = some false) : cQ.f g1 k l = some false := by
 have := sQ k g1 l hl h l.length k 0 (by omega) (by omega)
 rw [show ((0 : Nat) : Int) = 0 from rfl] at this
 simp only [cQ.f, ba.f, this, Option.bind_some]
 rfl
theorem tJ (k : Nat) (g1 : GFire → Option Bool) (l : List GFire) (hl : l.length ≤ 1000000) (h : ∀ x ∈ l, g1 x = some false) : ∀ (d n i : Nat), i + d = l.length → d < n → bg.l0 k g1 l n (i : Int) = some (.ok ()) := by
 intro d
 induction d with
 | zero =>
  intro n i hi hn
  obtain ⟨n, rfl⟩ : ∃ m, n = m + 1 := ⟨n - 1, by omega⟩
  rw [bg.l0, if_neg (by omega)]
 | succ d ih =>
  intro n i hi hn
  obtain ⟨n, rfl⟩ : ∃ m, n = m + 1 := ⟨n - 1, by omega⟩
  have hlt : i < l.length := by omega
  rw [bg.l0, if_pos (by omega), ae (by omega), Int.toNat_natCast, List.getElem?_eq_getElem hlt]
  simp only [Option.bind_some]
  rw [h _ (List.getElem_mem hlt)]
  simp only [Option.bind_some, Bool.false_eq_true, if_false]
  rw [wrS i (by omega)]
  exact ih n (i + 1) (by omega) (by omega)
theorem wT (k : Nat) (hk : 2000000 ≤ k) (g1 : GFire → Option Bool) (l : List GFire) (hl : l.length ≤ 1000000) (h : ∀ x ∈ l, g1 x = some false) : cY.f g1 k l = some false := by
 have := tJ k g1 l hl h l.length k 0 (by omega) (by omega)
 rw [show ((0 : Nat) : Int) = 0 from rfl] at this
 simp only [cY.f, bg.f, this, Option.bind_some]
 rfl
structure jk (e : GEng) : Prop where
 rules : dD e.Rules = true
 len : e.Graphs.length = e.Rules.length
 evs : gR e.Events = true
 graphs : ∀ g ∈ e.Graphs, jF (cn e.Events) e.Events.length g
 keys : e.Keys.length = 4 ∧ ∀ x ∈ e.Keys, 0 ≤ x ∧ x ≤ 1000
 fired : e.Fired.length ≤ 500000 + 2000 * e.Events.length ∧ ∀ f ∈ e.Fired, (0 ≤ f.Rule ∧ f.Rule < e.Rules.length) ∧ eR f.Occ = true ∧ eS e.Events.length f.Occ
theorem vR (k : Nat) (hk : 2000000000000 ≤ k) {e : GEng} (h : jk e) : eX.f k e = some true := by
 have hev := ia h.evs
 have hfew := mP h.rules
 have hlen := h.len
 unfold eX.f
 rw [jS k (by omega) e.Rules (by omega) (fun r hr => (ec h.rules hr).small), h.rules]
 simp only [Option.bind_some, if_true]
 rw [if_pos (by rw [hlen]), evs_k k e.Events (by omega) (by omega), h.evs]
 simp only [Option.bind_some, if_true]
 rw [if_pos (by rw [h.keys.1]; rfl)]
 rw [vE k (by omega) (fun y0 => fK.f k y0 e) e.Graphs (by omega) (fun g hg => by
  simp only [fK.f, ye k hk e (Bq e.Events (by omega)) (h.graphs g hg)]
  rfl)]
 simp only [Option.bind_some, Bool.false_eq_true, if_false]
 rw [zY k (by omega) (fun y0 => fF.f y0) e.Keys (by rw [h.keys.1]; omega) (fun x hx => by
  have := h.keys.2 x hx
  simp only [fF.f, dQ, Option.bind_some, Option.some.injEq, Bool.not_eq_false', Bool.and_eq_true, decide_eq_true_eq]
  exact this)]
 simp only [Option.bind_some, Bool.false_eq_true, if_false]
 rw [wT k (by omega) (fun y0 => fJ.f k y0 e) e.Fired (by have := h.fired.1; omega) (fun f hf => by
  obtain ⟨h1, h2, h3⟩ := h.fired.2 f hf
  have hid : f.Occ.Ids.length ≤ 24 := dP ((gZ f.Occ).1 h2).2.2.2.2
  obtain ⟨z, q1, _, q3⟩ := sN h3 (by omega)
  have e1 : bc.f f.Rule 0 (IntKind.wrap .i64 ((e.Rules.length : Int) - 1)) = some true := by
   rw [wr _ (by omega)]
   simp only [dQ, Option.some.injEq, Bool.and_eq_true, decide_eq_true_eq]; omega
  simp only [fJ.f, e1, Option.bind_some, if_true]
  rw [oE f.Occ (by omega) k (by omega), h2]
  simp only [Option.bind_some, if_true, q1, Option.some.injEq, Bool.not_eq_false', decide_eq_true_eq]
  exact q3)]
 rfl
theorem zW {a b : GOcc} (h : a.To < b.To) : bL a b = true := (xt a b).2 (.inl h)
theorem xB {l m : List GOcc} (hl : Asc l) (hm : Asc m) (h : ∀ x ∈ l, ∀ y ∈ m, x.To < y.To) : Asc (l ++ m) := List.pairwise_append.2 ⟨hl, hm, fun x hx y hy => zW (h x hx y hy)⟩
def gh (ns : List GNode) : Int := (ns.getLast?.map (·.Many)).getD 0
theorem s3 {T : Int} {mode seen t : Int} {ev : Option Int} {es : List GEx} {ns : List GNode} (hR : Rep es ns) (h1 : 1 ≤ ns.length) : gh (aC mode seen t ev ns).1 = gh ns + ((fj (aC mode seen t ev ns).2).length : Nat) := by
 have pl := fX mode seen t ev ns
 have hi : ns.length - 1 < ns.length := by omega
 obtain ⟨p1, p2⟩ := kJ (mode := mode) (seen := seen) (t := t) (ev := ev) hR (List.getElem?_eq_getElem hi)
 have k5 := (iy (mode := mode) (seen := seen) (t := t) (ev := ev) (found := (aC mode seen t ev ns).2) (n := ns[ns.length - 1])).2.2.2.2
 unfold gh fj
 rw [List.getLast?_eq_getElem?, List.getLast?_eq_getElem?, List.getLast?_eq_getElem?, pl.1, pl.2, p1, p2, List.getElem?_eq_getElem hi]
 simp only [Option.map_some, Option.getD_some]
 show (aF mode seen t ev (aC mode seen t ev ns).2 ns[ns.length - 1]).1.Many + _ = _
 rw [k5]
theorem uO {mode seen before : Int} {es : List GEx} (hs : 0 ≤ seen ∧ seen ≤ 23) (T0 : Int) : ∀ (f : Nat) (ns : List GNode) (out : List GOcc) (T : Int), fx T es ns → T0 ≤ T → T < before → (before - T).toNat ≤ f → Asc out → (∀ o ∈ out, T0 < o.To ∧ o.To ≤ T) →
  (cE mode seen before f ns out).2.1 = false → Asc (cE mode seen before f ns out).2.2 ∧ (∀ o ∈ (cE mode seen before f ns out).2.2, T0 < o.To ∧ o.To < before) ∧ gh (cE mode seen before f ns out).1 + (out.length : Nat) = gh ns + ((cE mode seen before f ns out).2.2.length : Nat)
 | 0, ns, out, T, h, _, hT, hf, _, _, _ => by omega
 | f + 1, ns, out, T, h, h0, hT, hf, ha, ho, hno => by
  have nl := nQ ns before
  unfold cE at hno ⊢
  by_cases hlt : bZ ns before < before
  ·rw [if_pos hlt] at hno ⊢
   by_cases hfu : dM (aC mode seen (bZ ns before) none ns).1 = true
   ·rw [if_pos hfu] at hno; cases hno
   ·rw [if_neg hfu] at hno ⊢
    have hT' : T < bZ ns before := by
     rcases nL ns before with q | ⟨n, q1, o, q2, q3⟩
     ·omega
     ·rw [q3]; exact ((h.2.2 n q1).2.2.2.1 o q2).1
    have hfu' : dM (aC mode seen (bZ ns before) none ns).1 = false := by simpa using hfu
    have hR := h.ready (t := bZ ns before) (by omega)
    have pi := mr (mode := mode) (ev := none) h (Int.le_of_lt hT') nl.2 hs hfu'
    obtain ⟨e, _, lf⟩ := lw (mode := mode) (ev := none) hR h.2.1.1 hs
    have rp := s3 (T := T) (mode := mode) (seen := seen) (t := bZ ns before) (ev := none) h.1 h.2.1.1
    obtain ⟨a, b, c⟩ := uO (mode := mode) hs T0 f _ (out ++ fj (aC mode seen (bZ ns before) none ns).2) (bZ ns before) pi (by omega) hlt (by omega)
     (xB ha lf.1 (fun x hx y hy => by rw [lf.2.2.2 y hy]; have := (ho x hx).2; omega))
     (fun o hh => by rcases List.mem_append.1 hh with q | q; exact ⟨(ho o q).1, by have := (ho o q).2; omega⟩; rw [lf.2.2.2 o q]; omega) hno
    refine ⟨a, b, ?_⟩
    rw [List.length_append] at c
    omega
  ·rw [if_neg hlt] at hno ⊢
   exact ⟨ha, fun o hh => ⟨(ho o hh).1, by have := (ho o hh).2; omega⟩, rfl⟩
theorem zH {mode seen : Int} {es : List GEx} {ns ns' : List GNode} {e : GEv} {out : List GOcc} {T : Int} (h : fx T es ns) (hT : 0 ≤ T ∧ T < e.At ∧ e.At ≤ 1000) (hs : 0 ≤ seen ∧ seen ≤ 23) (hst : iI mode seen ns e = some (ns', out)) :
  fx e.At es ns' ∧ Ids out ∧ Asc out ∧ (∀ o ∈ out, T < o.To ∧ o.To ≤ e.At) ∧ gh ns' = gh ns + (out.length : Nat) ∧ 0 ≤ gh ns ∧ gh ns' ≤ 40 := by
 obtain ⟨i1, i2, _⟩ := AZ h hT hs hst
 unfold iI at hst
 split at hst
 ·cases hst
 split at hst
 ·cases hst
 rename_i h1 h2
 cases hst
 obtain ⟨T', a, b, c, d, f, g⟩ := om (mode := mode) (before := e.At) hs 1001 ns [] T h hT.2.1 (by omega) (fun o hh => by simp at hh) (by simp) (by simpa using h1)
 obtain ⟨m1, m2, m3⟩ := uO (mode := mode) (before := e.At) hs T 1001 ns [] T h (Int.le_refl _) hT.2.1 (by omega) (by simp [Asc]) (fun o hh => by simp at hh) (by simpa using h1)
 have hR := c.ready (t := e.At) (by omega)
 obtain ⟨x, _, lf⟩ := lw (mode := mode) (ev := some e.Sym) hR c.2.1.1 hs
 have rp := s3 (T := T) (mode := mode) (seen := seen) (t := e.At) (ev := some e.Sym) c.1 c.2.1.1
 refine ⟨i1, i2, xB m1 lf.1 (fun x hx y hy => by rw [lf.2.2.2 y hy]; exact (m2 x hx).2), fun o hh => ?_, ?_, ?_, ?_⟩
 ·rcases List.mem_append.1 hh with q | q
  ·have := m2 o q; omega
  ·rw [lf.2.2.2 o q]; omega
 ·rw [rp, List.length_append]
  simp only [List.length_nil] at m3
  omega
 ·unfold gh
  cases hq : ns.getLast? with
  | none => simp
  | some m => have := (h.2.2 m (List.mem_of_getLast? hq)).2.1.1; simpa using this
 ·unfold gh
  cases hq : (aC mode seen e.At (some e.Sym) (cE mode seen e.At 1001 ns []).1).1.getLast? with
  | none => simp
  | some m => have := (i1.2.2 m (List.mem_of_getLast? hq)).2.1.2; simpa using this
theorem zy : ∀ e : GEx, exN e ≤ 1000000 → ∀ k : Nat, 1000000000000 + exN e ≤ k → bv.f k e = some e := by
 refine mg fun e ih hn k hk => ?_
 rw [cD] at hn hk
 obtain ⟨k, rfl⟩ : ∃ m, k = m + 1 := ⟨k - 1, by omega⟩
 have hq := fu e.Kids
 have := jV e.Kids id (bv.l0 k (bv.f k) e) (fun N acc => by rw [bv.l0, if_neg (by omega)])
  (fun N acc i h ha => by
   have hm := ek (List.getElem_mem h)
   rw [bv.l0, if_pos (by omega), ae (by omega), Int.toNat_natCast, List.getElem?_eq_getElem h]
   simp only [Option.bind_some]
   rw [ih _ (List.getElem_mem h) (by omega) k (by omega)]
   simp only [Option.bind_some]
   rw [ae (by omega), wrS i (by omega)]; rfl) k (by omega)
 rw [bv.f, this, List.map_id]; cases e; rfl
theorem o9 (k : Nat) (hk : 2000000000000 ≤ k) (l : List GRule) (hl : l.length ≤ 1000000) (h : ∀ r ∈ l, exN r.Ex ≤ 1000000) : bI.f k l = some l := by
 have := jV l id (bI.l0 k l) (fun N acc => by rw [bI.l0, if_neg (by omega)])
  (fun N acc i hi ha => by
   have hm := h _ (List.getElem_mem hi)
   rw [bI.l0, if_pos (by omega), ae (by omega), Int.toNat_natCast, List.getElem?_eq_getElem hi]
   simp only [Option.bind_some, gP.f]
   rw [zy _ hm k (by omega)]
   simp only [Option.bind_some]
   rw [ae (by omega), wrS i (by omega)]
   generalize l[i] = z
   obtain ⟨a, b, c, ⟨d1, d2, d3, d4⟩, e, f, g, u, v⟩ := z
   rfl) k (by omega)
 unfold bI.f
 rw [this, List.map_id]; rfl
theorem oO (k : Nat) (hk : 2000000000000 ≤ k) (l : List GFire) (hl : l.length ≤ 1000000) (h : ∀ f ∈ l, Few f.Occ) : bH.f k l = some l := by
 have := jV l id (bH.l0 k l) (fun N acc => by rw [bH.l0, if_neg (by omega)])
  (fun N acc i hi ha => by
   rw [bH.l0, if_pos (by omega), ae (by omega), Int.toNat_natCast, List.getElem?_eq_getElem hi]
   simp only [Option.bind_some]
   rw [qc _ (h _ (List.getElem_mem hi))]
   simp only [Option.bind_some]
   rw [ae (by omega), wrS i (by omega)]; rfl) k (by omega)
 unfold bH.f
 rw [this, List.map_id]; rfl
def AU (n : GNode) : Prop := n.Kids.length ≤ 1000 ∧ (∀ l ∈ [n.Pair.Left, n.Pair.Right, n.Span.Left, n.Span.Mid, n.Due], l.length ≤ 1000 ∧ ji l)
theorem xl (k : Nat) (hk : 1000000000000 ≤ k) (n : GNode) (h : AU n) : fd.f k n = some n := by
 have c : ∀ l ∈ [n.Pair.Left, n.Pair.Right, n.Span.Left, n.Span.Mid, n.Due], bo.f k l = some l := fun l hl => wY k hk l (by have := (h.2 l hl).1; omega) (h.2 l hl).2
 have h1 := h.1
 unfold fd.f gO.f gQ.f
 rw [ae (by omega), c _ (by simp), c _ (by simp), c _ (by simp), c _ (by simp), c _ (by simp)]
 rfl
theorem vN (k : Nat) (hk : 1000000000000 ≤ k) (g : GGraph) (hl : g.Nodes.length ≤ 1000) (h : ∀ n ∈ g.Nodes, AU n) : bK.f k g = some g := by
 have := jV g.Nodes id (bK.l0 k g) (fun N acc => by rw [bK.l0, if_neg (by omega)])
  (fun N acc i hi ha => by
   rw [bK.l0, if_pos (by omega), ae (by omega), Int.toNat_natCast, List.getElem?_eq_getElem hi]
   simp only [Option.bind_some]
   rw [xl k hk _ (h _ (List.getElem_mem hi))]
   simp only [Option.bind_some]
   rw [ae (by omega), wrS i (by omega)]; rfl) k (by omega)
 unfold bK.f
 rw [this, List.map_id]; rfl
theorem jF.slim {now : Int} {seen : Nat} {g : GGraph} (h : jF now seen g) : g.Nodes.length ≤ 12 ∧ ∀ n ∈ g.Nodes, AU n := by
 obtain ⟨es, hi⟩ := h.inv
 refine ⟨hi.2.1.2, fun n hn => ⟨by have := hi.1.kids3 n hn; omega, ?_⟩⟩
 obtain ⟨o1, o2, o3, o4, o5⟩ := rB hi hn (h.made n hn) h.late
 intro l hl
 simp only [List.mem_cons, List.not_mem_nil, or_false] at hl
 have one : ∀ {l}, di l = true → l.length ≤ 1000 ∧ ji l := fun q => ⟨by have := lq q; omega, sD q⟩
 rcases hl with rfl | rfl | rfl | rfl | rfl
 ·exact one o1
 ·exact one o2
 ·exact one o3
 ·exact one o4
 ·exact one o5
theorem xZ (l : List GEv) (hl : l.length ≤ 1000) : gw.f l = some l := by
 unfold gw.f; rw [ae (by omega)]
theorem oZ (k : Nat) (hk : 2000000000000 ≤ k) {e : GEng} (h : jk e) : bE.f k e = some e := by
 have hev := ia h.evs
 have hfew := mP h.rules
 have hlen := h.len
 have hf := h.fired.1
 have hk4 := h.keys.1
 have := jV e.Graphs id (bE.l0 k e) (fun N acc => by rw [bE.l0, if_neg (by omega)])
  (fun N acc i hi ha => by
   have g := (h.graphs _ (List.getElem_mem hi)).slim
   rw [bE.l0, if_pos (by omega), ae (by omega), Int.toNat_natCast, List.getElem?_eq_getElem hi]
   simp only [Option.bind_some]
   rw [vN k (by omega) _ (by omega) g.2]
   simp only [Option.bind_some]
   rw [ae (by omega), wrS i (by omega)]; rfl) k (by omega)
 unfold bE.f
 rw [o9 k hk e.Rules (by omega) (fun r hr => (ec h.rules hr).small.2), xZ e.Events (by omega)]
 simp only [Option.bind_some]
 rw [ae (by omega), oO k hk e.Fired (by omega) (fun f hf => by
  have := dP ((gZ f.Occ).1 (h.fired.2 f hf).2.1).2.2.2.2
  show f.Occ.Ids.length ≤ 1000; omega)]
 simp only [Option.bind_some]
 rw [this, List.map_id]; rfl
/-- the graph of a rule, before anything has happened -/
def pB (r : GRule) : GGraph := ⟨r.Mode, (gK r.Ex []).2, 0, 0, false⟩
def jM (l : List GRule) : GEng := ⟨l, l.map pB, [], yg, []⟩
theorem Be (k : Nat) (hk : 2000000000000 ≤ k) {r : GRule} (h : lg r) : fO.f k r.Ex r.Mode = some (pB r) := by
 rw [tE k hk r.Ex r.Mode h.small.2, if_pos ⟨h.ex, h.mode⟩]; rfl
theorem zb (k : Nat) (hk : 2000000000000 ≤ k) (l : List GRule) (hl : l.length ≤ 1000000) (hs : ∀ r ∈ l, kw r) : ce.f k l = some (if dD l = true then jM l else ⟨[], [], [], [], []⟩) := by
 unfold ce.f
 rw [jS k (by omega) l hl hs]
 simp only [Option.bind_some]
 by_cases h : dD l = true
 ·rw [if_pos h, if_pos h, o9 k hk l hl (fun r hr => (hs r hr).2)]
  simp only [Option.bind_some]
  rw [ae (by omega), ae (by omega), ae (by omega)]
  have := jV l pB (ce.l0 k l) (fun N acc => by rw [ce.l0, if_neg (by omega)])
   (fun N acc i hi ha => by
    rw [ce.l0, if_pos (by omega), ae (by omega), Int.toNat_natCast, List.getElem?_eq_getElem hi]
    simp only [Option.bind_some]
    rw [Be k hk (ec h (List.getElem_mem hi))]
    simp only [Option.bind_some]
    rw [ae (by omega), wrS i (by omega)]) k (by omega)
  rw [this]; rfl
 ·rw [if_neg h, if_neg h]
theorem As {r : GRule} (h : lg r) : jF 0 0 (pB r) := by
 have hf := oV h.ex
 obtain ⟨es, hG, _⟩ := zn (x := r.Ex) ⟨hf.2, hf.1⟩
 obtain ⟨es', nx, a1, a2, a3, a4, _⟩ := pQ r.Ex ⟨hf.2, hf.1⟩ [] [] ua
 rw [List.nil_append] at a1
 refine ⟨⟨es, hG⟩, by omega, rfl, rfl, by omega, h.mode, rfl, fun n hn => ?_⟩
 have hn' : n ∈ nx := by rw [← a1]; exact hn
 obtain ⟨f1, f2, f3, f4⟩ := a4 n hn'
 unfold je
 rw [f1, f2, f3]
 exact ⟨All.nil, All.nil, All.nil, All.nil, All.nil⟩
theorem pY {l : List GRule} (h : dD l = true) : jk (jM l) := by
 refine ⟨h, by simp [jM], rfl, fun g hg => ?_, ⟨rfl, fun x hx => ?_⟩, by simp [jM], fun f hf => by simp [jM] at hf⟩
 ·obtain ⟨r, hr, rfl⟩ := List.mem_map.1 hg
  exact As (ec h hr)
 ·have : x = 0 := by simp [jM, yg] at hx; exact hx
  omega
def lM (o : GOcc) : Int := o.Ids.getLast?.getD 0
theorem B7 {s : Int} {o : GOcc} (h : eS s o) (hl : o.Ids.length ≤ 1000) : dp.f o = some (lM o) ∧ lM o ∈ o.Ids := by
 have h1 := List.length_pos_iff.2 h.2.2.1
 obtain ⟨m, hm⟩ : ∃ m, o.Ids.length = m + 1 := ⟨o.Ids.length - 1, by omega⟩
 unfold dp.f lM
 rw [List.getLast?_eq_getElem?, hm, wrP m (by omega), ae (by omega), Int.toNat_natCast, Nat.add_sub_cancel, List.getElem?_eq_getElem (by omega)]
 exact ⟨rfl, List.getElem_mem _⟩
def dk (e : GEng) (i : Nat) (o : GOcc) (q : Graiser) : Int × GEng × Graiser :=
 match e.Rules[i]?, e.Events[(lM o).toNat]? with
 | some r, some x => if r.Low ≤ x.Val ∧ x.Val ≤ r.High then
   (if 0 ≤ e.Keys.getD r.Key.toNat 0 + r.Add ∧ e.Keys.getD r.Key.toNat 0 + r.Add ≤ 1000 then
    (if r.Raise < 0 then (0, ⟨e.Rules, e.Graphs, e.Events, e.Keys.set r.Key.toNat (e.Keys.getD r.Key.toNat 0 + r.Add), e.Fired ++ [⟨(i : Int), o⟩]⟩, q)
     else if q.raised = 6 then (1, ⟨e.Rules, e.Graphs, e.Events, e.Keys.set r.Key.toNat (e.Keys.getD r.Key.toNat 0 + r.Add), e.Fired ++ [⟨(i : Int), o⟩]⟩, q)
     else (0, ⟨e.Rules, e.Graphs, e.Events, e.Keys.set r.Key.toNat (e.Keys.getD r.Key.toNat 0 + r.Add), e.Fired ++ [⟨(i : Int), o⟩]⟩, ⟨q.queue ++ [⟨r.Raise, 0, x.Val⟩], q.raised + 1⟩))
    else (3, e, q))
  else (0, e, q)
 | _, _ => (0, e, q)
def dd (i : Nat) : List GOcc → GEng → Graiser → Int × GEng × Graiser
 | [], e, q => (0, e, q)
 | o :: l, e, q => if (dk e i o q).1 = 0 then dd i l (dk e i o q).2.1 (dk e i o q).2.2 else dk e i o q
def fA (x : GEv) (i : Nat) (e : GEng) (q : Graiser) : Int × GEng × Graiser := match e.Graphs[i]? with
 | some g => (match iI g.Mode g.Seen g.Nodes x with
  | some r => dd i r.2 ⟨e.Rules, e.Graphs.set i ⟨g.Mode, r.1, g.Seen + 1, x.At, false⟩, e.Events, e.Keys, e.Fired⟩ q
  | none => (2, ⟨e.Rules, e.Graphs.set i ⟨g.Mode, [], g.Seen + 1, x.At, true⟩, e.Events, e.Keys, e.Fired⟩, q))
 | none => (0, e, q)
def bW (x : GEv) : List Int → GEng → Graiser → Int × GEng × Graiser
 | [], e, q => (0, e, q)
 | i :: l, e, q => if (fA x i.toNat e q).1 = 0 then bW x l (fA x i.toNat e q).2.1 (fA x i.toNat e q).2.2 else fA x i.toNat e q
def bk (e : GEng) (x : GEv) (q : Graiser) : Int × GEng × Graiser :=
 if e.Events.length = 24 ∨ 1000 < x.At then (2, e, q) else bW x (dU e.Rules) ⟨e.Rules, e.Graphs, e.Events ++ [x], e.Keys, e.Fired⟩ q
def db : Nat → GEng → Graiser → Int → Int × GEng
 | 0, e, _, _ => (0, e)
 | f + 1, e, q, s => match q.queue with
  | [] => (0, e)
  | x :: r => if (bk e ⟨x.Sym, cn e.Events + s, x.Val⟩ ⟨r, q.raised⟩).1 = 0 then db f (bk e ⟨x.Sym, cn e.Events + s, x.Val⟩ ⟨r, q.raised⟩).2.1 (bk e ⟨x.Sym, cn e.Events + s, x.Val⟩ ⟨r, q.raised⟩).2.2 1
   else ((bk e ⟨x.Sym, cn e.Events + s, x.Val⟩ ⟨r, q.raised⟩).1, (bk e ⟨x.Sym, cn e.Events + s, x.Val⟩ ⟨r, q.raised⟩).2.1)
def cH (e : GEng) (sym gap val : Int) : GEng × Int × List GFire :=
 if (db 8 e ⟨[⟨sym, 0, val⟩], 0⟩ gap).1 = 0 then ((db 8 e ⟨[⟨sym, 0, val⟩], 0⟩ gap).2, 0, (db 8 e ⟨[⟨sym, 0, val⟩], 0⟩ gap).2.Fired.drop e.Fired.length)
 else (e, (db 8 e ⟨[⟨sym, 0, val⟩], 0⟩ gap).1, [])
/-- what is kept while rules fire -/
structure Own (c : Nat) (e : GEng) : Prop where
 rules : dD e.Rules = true
 evs : gR e.Events = true
 keys : e.Keys.length = 4 ∧ ∀ x ∈ e.Keys, 0 ≤ x ∧ x ≤ 1000
 fired : e.Fired.length ≤ c ∧ ∀ f ∈ e.Fired, (0 ≤ f.Rule ∧ f.Rule < e.Rules.length) ∧ eR f.Occ = true ∧ eS e.Events.length f.Occ
structure QI (m : Int) (q : Graiser) : Prop where
 evs : ∀ e ∈ q.queue, 0 ≤ e.Sym ∧ e.Sym < 5 ∧ 0 ≤ e.Val ∧ e.Val ≤ 100
 raised : 0 ≤ q.raised ∧ q.raised ≤ 6
 sum : (q.queue.length : Int) + 6 ≤ m + q.raised
/-- what firing leaves as it was -/
structure ja (e f : GEng) : Prop where
 rules : f.Rules = e.Rules
 graphs : f.Graphs = e.Graphs
 evs : f.Events = e.Events
 fired : ∃ more, f.Fired = e.Fired ++ more
theorem ja.refl (e : GEng) : ja e e := ⟨rfl, rfl, rfl, [], by simp⟩
theorem ja.trans {a b c : GEng} (h : ja a b) (g : ja b c) : ja a c := by
 obtain ⟨m, hm⟩ := h.fired
 obtain ⟨n, hn⟩ := g.fired
 exact ⟨g.rules.trans h.rules, g.graphs.trans h.graphs, g.evs.trans h.evs, m ++ n, by rw [hn, hm, List.append_assoc]⟩
theorem zB {l : List GEv} (h : gR l = true) {x : GEv} (hx : x ∈ l) : 0 ≤ x.Val ∧ x.Val ≤ 100 := by
 have := ry h hx
 unfold lO at this
 simp only [Bool.and_eq_true, decide_eq_true_eq] at this
 omega
theorem Ba {l : List Int} (h : l.length = 4 ∧ ∀ x ∈ l, 0 ≤ x ∧ x ≤ 1000) (i : Nat) {v : Int} (hv : 0 ≤ v ∧ v ≤ 1000) : (l.set i v).length = 4 ∧ ∀ x ∈ l.set i v, 0 ≤ x ∧ x ≤ 1000 := by
 refine ⟨by rw [List.length_set]; exact h.1, fun x hx => ?_⟩
 rcases List.mem_or_eq_of_mem_set hx with q | q
 ·exact h.2 x q
 ·rw [q]; exact hv
theorem B9 {c : Nat} {m : Int} {e : GEng} {q : Graiser} (h : Own c e) (hc : c ≤ 900000) (hq : QI m q) (hm : m ≤ 100) {i : Nat} (hi : i < e.Rules.length) {o : GOcc} (ho : eR o = true) (hmd : eS e.Events.length o) :
  gq.f e (i : Int) o q = some (dk e i o q) ∧ Own (c + 1) (dk e i o q).2.1 ∧ ja e (dk e i o q).2.1 ∧ QI m (dk e i o q).2.2 := by
 have hids := ((gZ o).1 ho).2.2.2.2
 have hil := dP hids
 obtain ⟨lk, lm⟩ := B7 hmd (by omega)
 have l0 := (hids.2 _ lm).1
 have l1 := hmd.2.2.2 _ lm
 have hlt : (lM o).toNat < e.Events.length := by omega
 have hr := ec h.rules (List.getElem_mem hi)
 have hev := zB h.evs (List.getElem_mem hlt)
 have hkl := h.keys.1
 have hkey := hr.key
 have hadd := hr.add
 have hraise := hr.raise
 have hfl := h.fired.1
 have hkn : (e.Rules[i]).Key.toNat < e.Keys.length := by omega
 have hk0 := h.keys.2 _ (List.getElem_mem hkn)
 have hg : e.Keys.getD (e.Rules[i]).Key.toNat 0 = e.Keys[(e.Rules[i]).Key.toNat] := by rw [List.getD_eq_getElem?_getD, List.getElem?_eq_getElem hkn]; rfl
 have hz : Own (c + 1) e := ⟨h.rules, h.evs, h.keys, by omega, h.fired.2⟩
 unfold gq.f fQ.f dk
 rw [ae (by omega), Int.toNat_natCast, List.getElem?_eq_getElem hi, lk, List.getElem?_eq_getElem hlt]
 simp only [Option.bind_some]
 rw [ae (by omega), List.getElem?_eq_getElem hlt]
 simp only [Option.bind_some]
 rw [dQ]
 simp only [Option.bind_some]
 by_cases h1 : (e.Rules[i]).Low ≤ (e.Events[(lM o).toNat]).Val ∧ (e.Events[(lM o).toNat]).Val ≤ (e.Rules[i]).High
 rotate_left
 ·rw [if_neg (by simpa using h1), if_neg h1]
  exact ⟨rfl, hz, ja.refl e, hq⟩
 rw [if_pos (by simpa using h1), if_pos h1, ae (by omega), ae (by omega), List.getElem?_eq_getElem hkn]
 simp only [Option.bind_some]
 rw [wr _ (by omega), dQ, hg]
 simp only [Option.bind_some]
 by_cases h2 : 0 ≤ e.Keys[(e.Rules[i]).Key.toNat] + (e.Rules[i]).Add ∧ e.Keys[(e.Rules[i]).Key.toNat] + (e.Rules[i]).Add ≤ 1000
 rotate_left
 ·rw [if_neg (by simpa using h2), if_neg h2]
  exact ⟨rfl, hz, ja.refl e, hq⟩
 rw [if_pos (by simpa using h2), if_pos h2, ae (by omega), ae (by omega), ae (by omega), ae (by omega), ae (by omega)]
 have hown : Own (c + 1) ⟨e.Rules, e.Graphs, e.Events, e.Keys.set (e.Rules[i]).Key.toNat (e.Keys[(e.Rules[i]).Key.toNat] + (e.Rules[i]).Add), e.Fired ++ [⟨(i : Int), o⟩]⟩ := by
  refine ⟨h.rules, h.evs, Ba h.keys _ h2, by rw [List.length_append, List.length_singleton]; omega, fun f hf => ?_⟩
  rcases List.mem_append.1 hf with p | p
  ·exact h.fired.2 f p
  ·rw [List.mem_singleton.1 p]; exact ⟨⟨by show (0 : Int) ≤ (i : Int); omega, by show (i : Int) < (e.Rules.length : Nat); omega⟩, ho, hmd⟩
 have hsame : ja e ⟨e.Rules, e.Graphs, e.Events, e.Keys.set (e.Rules[i]).Key.toNat (e.Keys[(e.Rules[i]).Key.toNat] + (e.Rules[i]).Add), e.Fired ++ [⟨(i : Int), o⟩]⟩ := ⟨rfl, rfl, rfl, _, rfl⟩
 by_cases h3 : (e.Rules[i]).Raise < 0
 ·rw [if_pos h3, if_pos h3]
  exact ⟨rfl, hown, hsame, hq⟩
 rw [if_neg h3, if_neg h3]
 by_cases h4 : q.raised = 6
 ·rw [if_pos h4, if_pos h4]
  exact ⟨rfl, hown, hsame, hq⟩
 rw [if_neg h4, if_neg h4]
 have hqr := hq.raised
 have hqs := hq.sum
 rw [ae (by omega), wr _ (by omega)]
 refine ⟨rfl, hown, hsame, fun x hx => ?_, by dsimp only; omega, by dsimp only; rw [List.length_append, List.length_singleton]; omega⟩
 rcases List.mem_append.1 hx with p | p
 ·exact hq.evs x p
 ·rw [List.mem_singleton.1 p]; dsimp only; omega
abbrev Flat := (List GRule) × (List GGraph) × (List GEv) × (List Int) × (List GFire) × (List GEv) × Int
def Br (e : GEng) (q : Graiser) : Flat := (e.Rules, e.Graphs, e.Events, e.Keys, e.Fired, q.queue, q.raised)
def exM (r : Int × GEng × Graiser) : Except (Int × GEng × Graiser) Flat := if r.1 = 0 then .ok (Br r.2.1 r.2.2) else .error r
theorem BW (k : Nat) (i : Nat) (y : (List GOcc) × GGraph) (m : Int) (hm : m ≤ 100) (hy : y.1.length ≤ 1000) : ∀ (d j N : Nat) (e : GEng) (q : Graiser) (c : Nat), j + d = y.1.length → d < N → Own c e → c + d ≤ 900000 → QI m q → i < e.Rules.length → (∀ o ∈ y.1, eR o = true ∧ eS e.Events.length o) →
  aO.l3 k (i : Int) y N e.Rules e.Graphs e.Events e.Keys e.Fired q.queue q.raised (j : Int) = some (exM (dd i (y.1.drop j) e q)) ∧ Own (c + d) (dd i (y.1.drop j) e q).2.1 ∧ ja e (dd i (y.1.drop j) e q).2.1 ∧ QI m (dd i (y.1.drop j) e q).2.2 := by
 intro d
 induction d with
 | zero =>
  intro j N e q c hj hN ho hc hq hi hF
  obtain ⟨N, rfl⟩ : ∃ n, N = n + 1 := ⟨N - 1, by omega⟩
  rw [aO.l3, if_neg (by omega), List.drop_eq_nil_of_le (by omega)]
  exact ⟨rfl, ho, ja.refl e, hq⟩
 | succ d ih =>
  intro j N e q c hj hN ho hc hq hi hF
  obtain ⟨N, rfl⟩ : ∃ n, N = n + 1 := ⟨N - 1, by omega⟩
  have hlt : j < y.1.length := by omega
  have hf := hF _ (List.getElem_mem hlt)
  obtain ⟨f1, f2, f3, f4⟩ := B9 ho (by omega) hq hm hi hf.1 hf.2
  rw [aO.l3, if_pos (by omega), ae (by omega), ae (by omega), Int.toNat_natCast, List.getElem?_eq_getElem hlt]
  simp only [Option.bind_some]
  rw [show (⟨e.Rules, e.Graphs, e.Events, e.Keys, e.Fired⟩ : GEng) = e from rfl, show (⟨q.queue, q.raised⟩ : Graiser) = q from rfl, f1]
  simp only [Option.bind_some]
  rw [List.drop_eq_getElem_cons hlt]
  unfold dd
  by_cases h0 : (dk e i y.1[j] q).1 = 0
  ·rw [if_pos h0, if_pos h0, wrS j (by omega)]
   obtain ⟨g1, g2, g3, g4⟩ := ih (j + 1) N (dk e i y.1[j] q).2.1 (dk e i y.1[j] q).2.2 (c + 1) (by omega) (by omega) f2 (by omega) f4 (by rw [f3.rules]; exact hi) (fun o hh => by rw [f3.evs]; exact hF o hh)
   exact ⟨g1, by rw [show c + (d + 1) = c + 1 + d by omega]; exact g2, f3.trans g3, g4⟩
  ·rw [if_neg h0, if_neg h0]
   refine ⟨?_, ⟨f2.rules, f2.evs, f2.keys, by have := f2.fired.1; omega, f2.fired.2⟩, f3, f4⟩
   unfold exM
   rw [if_neg h0]
theorem Bz {T : Int} {es : List GEx} {ns : List GNode} (h : fx T es ns) : ∀ n ∈ ns, 0 ≤ n.N := fun n hn => by
 obtain ⟨i, hi, rfl⟩ := List.mem_iff_getElem.1 hn
 obtain ⟨e, he, hx, hR⟩ := h.1.2 i ns[i] (List.getElem?_eq_getElem hi)
 have hh : eH e = true := by have := hx.1; rw [ku] at this; simp only [Bool.and_eq_true] at this; exact this.1
 unfold eH at hh
 simp only [Bool.and_eq_true, decide_eq_true_eq, Bool.or_eq_true] at hh
 have hN := hh.2
 rw [hR.2.2.1]
 split at hN
 ·simp only [Bool.and_eq_true, decide_eq_true_eq] at hN; omega
 ·simp only [decide_eq_true_eq] at hN; omega
/-- an event at a rule's graph -/
theorem yA (k : Nat) (hk : 1000000000000 ≤ k) {now : Int} {seen : Nat} {g : GGraph} (h : jF now seen g) (hs : seen ≤ 23) {x : GEv} (hx : now < x.At ∧ x.At ≤ 1000) :
  bG.f k g x = some (match iI g.Mode g.Seen g.Nodes x with | none => ([], ⟨g.Mode, [], g.Seen + 1, x.At, true⟩) | some r => (r.2, ⟨g.Mode, r.1, g.Seen + 1, x.At, false⟩)) ∧
  ∀ r, iI g.Mode g.Seen g.Nodes x = some r → jF x.At (seen + 1) ⟨g.Mode, r.1, g.Seen + 1, x.At, false⟩ ∧ r.2.length ≤ 40 ∧ (∀ o ∈ r.2, eR o = true ∧ eS ((seen + 1 : Nat) : Int) o) ∧ Asc r.2 ∧ (∀ o ∈ r.2, now < o.To ∧ o.To ≤ x.At) ∧ gh r.1 = gh g.Nodes + (r.2.length : Nat) ∧ 0 ≤ gh g.Nodes ∧ gh r.1 ≤ 40 := by
 obtain ⟨es, hi⟩ := h.inv
 have hl := h.late
 have hse := h.seen'
 have hT : 0 ≤ now ∧ now < x.At ∧ x.At ≤ 1000 := ⟨hl.1, hx.1, hx.2⟩
 have hS : 0 ≤ g.Seen ∧ g.Seen ≤ 23 := by omega
 refine ⟨BF k hk x g es now hi hT hS h.full, fun r hr => ?_⟩
 obtain ⟨r1, r2⟩ := r
 obtain ⟨m1, m2, m3, m4, m5, m6, m7⟩ := zH hi hT hS hr
 have hN := Bz hi
 obtain ⟨a1, a2, a3⟩ := AT (ym ((seen + 1 : Nat) : Int)) (mode := g.Mode) (seen := g.Seen) (e := x) (ns := g.Nodes) ⟨by dsimp only; omega, by dsimp only; omega, by simp, fun z hz => by rw [List.mem_singleton.1 hz]; omega⟩ (fun n hn o ho => y9 (hN n hn) ho)
  (fun n hn => by
   obtain ⟨b1, b2, b3, b4, b5⟩ := h.made n hn
   have mn : ∀ {l}, All (eS seen) l → All (eS ((seen + 1 : Nat) : Int)) l := fun q o ho => (q o ho).mono (by omega)
   exact ⟨mn b1, mn b2, mn b3, mn b4, mn b5⟩) hr
 refine ⟨⟨⟨es, m1⟩, by omega, rfl, by dsimp only; omega, by omega, h.mode, rfl, a2⟩, by dsimp only at m5 m7 ⊢; omega, fun o ho => ⟨?_, a3 o ho⟩, m3, m4, m5, m6, m7⟩
 have md := a3 o ho
 have mt := m4 o ho
 exact (gZ o).2 ⟨md.1, md.2.1, by omega, by have := List.length_pos_iff.2 md.2.2.1; omega, m2 o ho⟩
structure Mid (e0 : GEng) (x : GEv) (left : List Int) (e : GEng) : Prop where
 rules : e.Rules = e0.Rules
 evs : e.Events = e0.Events ++ [x]
 len : e.Graphs.length = e0.Rules.length
 old : ∀ i : Nat, (i : Int) ∈ left → e.Graphs[i]? = e0.Graphs[i]?
 new : ∀ i : Nat, (i : Int) ∉ left → ∀ g, e.Graphs[i]? = some g → jF x.At (e0.Events.length + 1) g
theorem BN (k : Nat) (hk : 1000000000000 ≤ k) {e0 : GEng} (h0 : jk e0) {x : GEv} (hx : cn e0.Events < x.At ∧ x.At ≤ 1000) (h23 : e0.Events.length ≤ 23) (m : Int) (hm : m ≤ 100) (os : List Int) (hos : ∀ i ∈ os, ∃ j : Nat, j < e0.Rules.length ∧ i = j) (hnd : os.Nodup) (hol : os.length ≤ 4) :
  ∀ (d j N : Nat) (e : GEng) (q : Graiser) (c : Nat), j + d = os.length → d < N → Mid e0 x (os.drop j) e → Own c e → c + 40 * d ≤ 800000 → QI m q →
  aO.l2 k x os N e.Rules e.Graphs e.Events e.Keys e.Fired q.queue q.raised (j : Int) = some (exM (bW x (os.drop j) e q)) ∧
  ((bW x (os.drop j) e q).1 = 0 → Mid e0 x [] (bW x (os.drop j) e q).2.1 ∧ Own (c + 40 * d) (bW x (os.drop j) e q).2.1 ∧ QI m (bW x (os.drop j) e q).2.2 ∧ ∃ more, (bW x (os.drop j) e q).2.1.Fired = e.Fired ++ more) := by
 intro d
 induction d with
 | zero =>
  intro j N e q c hj hN hM ho hc hq
  obtain ⟨N, rfl⟩ : ∃ n, N = n + 1 := ⟨N - 1, by omega⟩
  rw [List.drop_eq_nil_of_le (by omega)] at hM ⊢
  rw [aO.l2, if_neg (by omega)]
  exact ⟨rfl, fun _ => ⟨hM, ho, hq, [], by simp [bW]⟩⟩
 | succ d ih =>
  intro j N e q c hj hN hM ho hc hq
  obtain ⟨N, rfl⟩ : ∃ n, N = n + 1 := ⟨N - 1, by omega⟩
  have hlt : j < os.length := by omega
  obtain ⟨i, hi, he⟩ := hos _ (List.getElem_mem hlt)
  have hdrop : os.drop j = (i : Int) :: os.drop (j + 1) := by rw [List.drop_eq_getElem_cons hlt, he]
  have hnot : (i : Int) ∉ os.drop (j + 1) := by
   have : (os.drop j).Nodup := hnd.sublist (List.drop_sublist j os)
   rw [hdrop] at this
   exact (List.nodup_cons.1 this).1
  rw [hdrop] at hM ⊢
  have hgl := hM.len
  have hig : i < e.Graphs.length := by omega
  have hig0 : i < e0.Graphs.length := by rw [h0.len]; exact hi
  have hge : e.Graphs[i]? = some e0.Graphs[i] := by rw [hM.old i (by simp), List.getElem?_eq_getElem hig0]
  obtain ⟨s1, s2⟩ := yA k hk (h0.graphs _ (List.getElem_mem hig0)) h23 hx
  rw [aO.l2, if_pos (by omega), ae (by omega), ae (by omega), Int.toNat_natCast, List.getElem?_eq_getElem hlt]
  simp only [Option.bind_some]
  rw [he, ae (by omega), ae (by omega), Int.toNat_natCast, hge]
  simp only [Option.bind_some]
  rw [s1]
  unfold bW fA
  rw [Int.toNat_natCast, hge]
  simp only []
  cases hst : iI e0.Graphs[i].Mode e0.Graphs[i].Seen e0.Graphs[i].Nodes x with
  | none =>
   simp only [Option.bind_some, if_true]
   rw [if_neg (show ¬ (2 : Int) = 0 by decide)]
   refine ⟨?_, fun q => by simp at q⟩
   unfold exM
   rw [if_neg (show ¬ (2 : Int) = 0 by decide)]
  | some r =>
   obtain ⟨t1, t2, t3, t4, t5, t6⟩ := s2 r hst
   simp only [Option.bind_some, Bool.false_eq_true, if_false]
   have hev : e.Events.length = e0.Events.length + 1 := by rw [hM.evs, List.length_append, List.length_singleton]
   obtain ⟨f1, f2, f3, f4⟩ := BW k i (r.2, ⟨e0.Graphs[i].Mode, r.1, e0.Graphs[i].Seen + 1, x.At, false⟩) m hm (by dsimp only; omega) r.2.length 0 k ⟨e.Rules, e.Graphs.set i ⟨e0.Graphs[i].Mode, r.1, e0.Graphs[i].Seen + 1, x.At, false⟩, e.Events, e.Keys, e.Fired⟩ q c (by simp) (by omega) ⟨ho.rules, ho.evs, ho.keys, ho.fired⟩ (by omega) hq (by rw [hM.rules]; exact hi) (fun o hh => by
    have := t3 o hh
    refine ⟨this.1, ?_⟩
    rw [hev]; exact this.2)
   simp only [List.drop_zero] at f1 f2 f3 f4
   rw [show ((0 : Nat) : Int) = 0 from rfl] at f1
   rw [f1]
   unfold exM
   by_cases hz : (dd i r.2 ⟨e.Rules, e.Graphs.set i ⟨e0.Graphs[i].Mode, r.1, e0.Graphs[i].Seen + 1, x.At, false⟩, e.Events, e.Keys, e.Fired⟩ q).1 = 0
   ·rw [if_pos hz, if_pos hz]
    simp only [Option.bind_some, Br]
    rw [wrS j (by omega)]
    have hgr := f3.graphs
    have hmid : Mid e0 x (os.drop (j + 1)) (dd i r.2 ⟨e.Rules, e.Graphs.set i ⟨e0.Graphs[i].Mode, r.1, e0.Graphs[i].Seen + 1, x.At, false⟩, e.Events, e.Keys, e.Fired⟩ q).2.1 := by
     refine ⟨f3.rules.trans hM.rules, f3.evs.trans hM.evs, by rw [hgr, List.length_set]; exact hgl, fun a ha => ?_, fun a ha g hg => ?_⟩
     ·rw [hgr, List.getElem?_set_ne (by intro q; subst q; exact hnot ha)]
      exact hM.old a (by simp [ha])
     ·rw [hgr] at hg
      by_cases hai : a = i
      ·subst hai
       rw [List.getElem?_set_self hig] at hg
       cases hg
       exact t1
      ·rw [List.getElem?_set_ne (by omega)] at hg
       exact hM.new a (by simp only [List.mem_cons, not_or]; exact ⟨by omega, ha⟩) g hg
    obtain ⟨g1, g2⟩ := ih (j + 1) N _ _ (c + r.2.length) (by omega) (by omega) hmid f2 (by omega) f4
    refine ⟨g1, fun z => ?_⟩
    obtain ⟨p1, p2, p3, more, p4⟩ := g2 z
    obtain ⟨more', p5⟩ := f3.fired
    refine ⟨p1, ⟨p2.rules, p2.evs, p2.keys, by have := p2.fired.1; omega, p2.fired.2⟩, p3, more' ++ more, ?_⟩
    rw [p4, p5, List.append_assoc]
   ·rw [if_neg hz, if_neg hz, if_neg hz]
    exact ⟨rfl, fun q => absurd q hz⟩
theorem zU (k : Nat) (hk : 1000000000000 ≤ k) {e : GEng} (h : jk e) {x : GEv} (hx : cn e.Events < x.At ∧ x.At ≤ 1000000) (hs : 0 ≤ x.Sym ∧ x.Sym < 5 ∧ 0 ≤ x.Val ∧ x.Val ≤ 100) (m : Int) (hm : m ≤ 100) {q : Graiser} (hq : QI m q) :
  aO.f k e x q = some (bk e x q) ∧ ((bk e x q).1 = 0 → jk (bk e x q).2.1 ∧ QI m (bk e x q).2.2 ∧ (bk e x q).2.1.Rules = e.Rules ∧ (bk e x q).2.1.Events = e.Events ++ [x] ∧ ∃ more, (bk e x q).2.1.Fired = e.Fired ++ more) := by
 have hev := ia h.evs
 have hfew := mP h.rules
 have hlast : 0 ≤ cn e.Events := by
  unfold cn
  cases hl : e.Events.getLast? with
  | none => simp
  | some z =>
   have := ry h.evs (List.mem_of_getLast? hl)
   unfold lO at this
   simp only [Bool.and_eq_true, decide_eq_true_eq] at this
   dsimp only; omega
 unfold aO.f bk
 by_cases h1 : e.Events.length = 24
 ·rw [if_pos (by omega), if_pos (.inl h1)]
  exact ⟨rfl, fun q => by simp at q⟩
 rw [if_neg (by omega)]
 by_cases h2 : 1000 < x.At
 ·rw [if_pos h2, if_pos (.inr h2)]
  exact ⟨rfl, fun q => by simp at q⟩
 rw [if_neg h2, if_neg (by omega), ae (by omega), BX k (by omega) e.Rules hfew (fun r hr => (ec h.rules hr).pri)]
 simp only [Option.bind_some]
 have hev' : gR (e.Events ++ [x]) = true := yZ h.evs (by omega) (by
  unfold lO
  simp only [Bool.and_eq_true, decide_eq_true_eq]; omega) hx.1
 have hmid : Mid e x (dU e.Rules) ⟨e.Rules, e.Graphs, e.Events ++ [x], e.Keys, e.Fired⟩ := by
  refine ⟨rfl, rfl, h.len, fun i hi => rfl, fun i hi g hg => ?_⟩
  exfalso
  exact hi (o6.2 ⟨i, by have := (List.getElem?_eq_some_iff.1 hg).1; rw [← h.len]; exact this, rfl⟩)
 have hown : Own (500000 + 2000 * e.Events.length) ⟨e.Rules, e.Graphs, e.Events ++ [x], e.Keys, e.Fired⟩ := by
  refine ⟨h.rules, hev', h.keys, h.fired.1, fun f hf => ?_⟩
  obtain ⟨a, b, c⟩ := h.fired.2 f hf
  refine ⟨a, b, c.mono ?_⟩
  dsimp only
  rw [List.length_append, List.length_singleton]; omega
 obtain ⟨r1, r2⟩ := BN k hk h (x := x) ⟨hx.1, by omega⟩ (by omega) m hm (dU e.Rules) (fun i hi => o6.1 hi) (xd _) (by rw [ky]; exact hfew) (dU e.Rules).length 0 k ⟨e.Rules, e.Graphs, e.Events ++ [x], e.Keys, e.Fired⟩ q _ (by omega) (by rw [ky]; omega) hmid hown (by rw [ky]; omega) hq
 simp only [List.drop_zero] at r1 r2
 rw [show ((0 : Nat) : Int) = 0 from rfl] at r1
 rw [r1]
 unfold exM
 generalize bW x (dU e.Rules) ⟨e.Rules, e.Graphs, e.Events ++ [x], e.Keys, e.Fired⟩ q = z at r2 ⊢
 by_cases hz : z.1 = 0
 ·rw [if_pos hz]
  obtain ⟨g1, g2, g3, g4⟩ := r2 hz
  refine ⟨?_, fun _ => ⟨⟨g2.rules, by rw [g1.len, g1.rules], g2.evs, fun g hg => ?_, g2.keys, ?_, g2.fired.2⟩, g3, g1.rules, g1.evs, g4⟩⟩
  ·obtain ⟨z1, z2, z3⟩ := z
   dsimp only at hz
   subst hz
   rfl
  ·obtain ⟨i, hi, rfl⟩ := List.mem_iff_getElem.1 hg
   have := g1.new i (by simp) _ (List.getElem?_eq_getElem hi)
   rw [g1.evs, w3, List.length_append, List.length_singleton]
   exact this
  ·have := g2.fired.1
   rw [ky] at this
   rw [g1.evs, List.length_append, List.length_singleton]; omega
 ·rw [if_neg hz]
  exact ⟨rfl, fun q => absurd q hz⟩
theorem zK {l : List GEv} (h : gR l = true) : 0 ≤ cn l ∧ cn l ≤ 1000 := by
 unfold cn
 cases hl : l.getLast? with
 | none => simp
 | some z =>
  have := ry h (List.mem_of_getLast? hl)
  unfold lO at this
  simp only [Bool.and_eq_true, decide_eq_true_eq] at this
  dsimp only; omega
abbrev Flat5 := (List GRule) × (List GGraph) × (List GEv) × (List Int) × (List GFire)
def exL (e0 : GEng) (r : Int × GEng) : Except (GEng × Int × List GFire) Flat5 := if r.1 = 0 then .ok (r.2.Rules, r.2.Graphs, r.2.Events, r.2.Keys, r.2.Fired) else .error (e0, r.1, [])
theorem zM (k : Nat) (hk : 2000000000000 ≤ k) {e0 : GEng} (h0 : jk e0) : ∀ (f N : Nat) (m : Int) (e : GEng) (q : Graiser) (s : Int), m < (f : Int) → m ≤ 100 → f ≤ N → jk e → QI m q → 1 ≤ s ∧ s ≤ 20 →
  cu.l0 k e0 N e.Rules e.Graphs e.Events e.Keys e.Fired q.queue q.raised s = some (exL e0 (db f e q s)) ∧
  ((db f e q s).1 = 0 → jk (db f e q s).2 ∧ (db f e q s).2.Rules = e.Rules ∧ (∃ more, (db f e q s).2.Fired = e.Fired ++ more) ∧ ∃ evs, (db f e q s).2.Events = e.Events ++ evs)
 | 0, N, m, e, q, s, hf, _, _, _, hq, _ => by have := hq.sum; have := hq.raised; omega
 | f + 1, N, m, e, q, s, hf, hm, hN, he, hq, hs => by
  obtain ⟨N, rfl⟩ : ∃ n, N = n + 1 := ⟨N - 1, by omega⟩
  have hev := ia he.evs
  have hla := zK he.evs
  have hqs := hq.sum
  have hqr := hq.raised
  rw [cu.l0]
  obtain ⟨qq, rz⟩ := q
  cases hqq : qq with
  | nil =>
   dsimp only
   rw [if_neg (by simp), show db (f + 1) e ⟨[], rz⟩ s = (0, e) from by rw [db]]
   exact ⟨rfl, fun _ => ⟨he, rfl, ⟨[], by simp⟩, [], by simp⟩⟩
  | cons x r =>
   subst hqq
   dsimp only at hqs hqr ⊢
   have hx := hq.evs x (by simp)
   rw [if_pos (by simp), ae (by decide), ae (by simp)]
   simp only [List.getElem?_cons_zero, Option.bind_some]
   rw [ae (by decide), ae (by simp only [List.length_cons]; omega), ae (Int.le_refl _), Bq e.Events (by omega)]
   simp only [Option.bind_some]
   rw [wr _ (by omega)]
   have e1 : ((x :: r).drop 1).take ((((x :: r).length : Nat) : Int) - 1).toNat = r := by
    simp only [List.drop_succ_cons, List.drop_zero]
    rw [List.take_of_length_le]
    simp only [List.length_cons]; omega
   rw [e1, show (⟨e.Rules, e.Graphs, e.Events, e.Keys, e.Fired⟩ : GEng) = e from rfl]
   simp only [List.length_cons] at hqs
   have hq' : QI (m - 1) ⟨r, rz⟩ := ⟨fun z hz => hq.evs z (by simp [hz]), hqr, by dsimp only; omega⟩
   obtain ⟨p1, p2⟩ := zU k (by omega) he (x := ⟨x.Sym, cn e.Events + s, x.Val⟩) ⟨by dsimp only; omega, by dsimp only; omega⟩ hx (m - 1) (by omega) hq'
   rw [p1]
   simp only [Option.bind_some]
   have hL : db (f + 1) e ⟨x :: r, rz⟩ s = if (bk e ⟨x.Sym, cn e.Events + s, x.Val⟩ ⟨r, rz⟩).1 = 0 then db f (bk e ⟨x.Sym, cn e.Events + s, x.Val⟩ ⟨r, rz⟩).2.1 (bk e ⟨x.Sym, cn e.Events + s, x.Val⟩ ⟨r, rz⟩).2.2 1
     else ((bk e ⟨x.Sym, cn e.Events + s, x.Val⟩ ⟨r, rz⟩).1, (bk e ⟨x.Sym, cn e.Events + s, x.Val⟩ ⟨r, rz⟩).2.1) := by rw [db]
   rw [hL]
   clear hL p1
   generalize bk e ⟨x.Sym, cn e.Events + s, x.Val⟩ ⟨r, rz⟩ = z at p2 ⊢
   by_cases hz : z.1 = 0
   ·rw [if_pos hz, if_pos hz]
    obtain ⟨g1, g2, g3, g4, more, g5⟩ := p2 hz
    obtain ⟨i1, i2⟩ := zM k hk h0 f N (m - 1) z.2.1 z.2.2 1 (by omega) (by omega) (by omega) g1 g2 (by omega)
    refine ⟨i1, fun w => ?_⟩
    obtain ⟨a, b, ⟨more', c⟩, evs, d⟩ := i2 w
    exact ⟨a, b.trans g3, ⟨more ++ more', by rw [c, g5, List.append_assoc]⟩, _, by rw [d, g4, List.append_assoc]⟩
   ·rw [if_neg hz, if_neg hz, oZ k hk h0]
    unfold exL
    rw [if_neg hz]
    exact ⟨rfl, fun w => absurd w hz⟩
theorem CL (k : Nat) (hk : 2000000000000 ≤ k) {e : GEng} (h : jk e) {sym gap val : Int} (hc : lC ⟨sym, gap, val⟩ = true) :
  cu.f k e sym gap val = some (cH e sym gap val) ∧ jk (cH e sym gap val).1 ∧ (cH e sym gap val).1.Rules = e.Rules ∧ (∃ more, (cH e sym gap val).1.Fired = e.Fired ++ more) ∧ ∃ evs, (cH e sym gap val).1.Events = e.Events ++ evs := by
 unfold lC at hc
 simp only [Bool.and_eq_true, decide_eq_true_eq] at hc
 have hq : QI 7 ⟨[⟨sym, 0, val⟩], 0⟩ := ⟨fun z hz => by rw [List.mem_singleton.1 hz]; dsimp only; omega, by dsimp only; omega, by simp⟩
 obtain ⟨l1, l2⟩ := zM k hk h 8 k 7 e ⟨[⟨sym, 0, val⟩], 0⟩ gap (by omega) (by omega) (by omega) h hq (by omega)
 unfold cu.f cH
 rw [oZ k hk h]
 simp only [Option.bind_some]
 dsimp only at l1
 rw [l1]
 generalize db 8 e ⟨[⟨sym, 0, val⟩], 0⟩ gap = z at l2 ⊢
 unfold exL
 by_cases hz : z.1 = 0
 ·rw [if_pos hz, if_pos hz]
  obtain ⟨a, b, ⟨more, c⟩, d⟩ := l2 hz
  simp only [Option.bind_some]
  rw [show (⟨z.2.Rules, z.2.Graphs, z.2.Events, z.2.Keys, z.2.Fired⟩ : GEng) = z.2 from rfl, oZ k hk a]
  simp only [Option.bind_some]
  have hl : e.Fired.length ≤ z.2.Fired.length := by rw [c, List.length_append]; omega
  rw [ae (by omega), ae (by omega), ae (Int.le_refl _)]
  have e1 : (z.2.Fired.drop e.Fired.length).take (((z.2.Fired.length : Nat) : Int) - (e.Fired.length : Int)).toNat = z.2.Fired.drop e.Fired.length := List.take_of_length_le (by rw [List.length_drop]; omega)
  have hev := ia a.evs
  have hfl := a.fired.1
  rw [e1, oO k hk _ (by rw [List.length_drop]; omega) (fun f hf => by
   have := dP ((gZ f.Occ).1 (a.fired.2 f (List.mem_of_mem_drop hf)).2.1).2.2.2.2
   show f.Occ.Ids.length ≤ 1000; omega)]
  exact ⟨rfl, a, b, ⟨more, c⟩, d⟩
 ·rw [if_neg hz, if_neg hz]
  exact ⟨rfl, h, rfl, ⟨[], by simp⟩, [], by simp⟩
theorem uw (k : Nat) (hk : 2000000000000 ≤ k) {e : GEng} (h : jk e) {sym gap val : Int} (hc : lC ⟨sym, gap, val⟩ = true) :
  fI.f k e sym gap val = some (cH e sym gap val) ∧ jk (cH e sym gap val).1 ∧ (cH e sym gap val).1.Rules = e.Rules ∧ (∃ more, (cH e sym gap val).1.Fired = e.Fired ++ more) ∧ ∃ evs, (cH e sym gap val).1.Events = e.Events ++ evs := by
 obtain ⟨c1, c2⟩ := CL k hk h hc
 refine ⟨?_, c2⟩
 unfold fI.f
 rw [vR k hk h]
 simp only [Option.bind_some, if_true]
 rw [tq, hc]
 simp only [Option.bind_some, if_true]
 rw [c1]; rfl
def dR (n : Nat) (f : GFire) : Bool := decide (f.Rule < (n : Int))
structure tG (r : GRule) : Prop where
 ok : lg r
 add : r.Add = 0
 raise : r.Raise = -1
 pri : r.Pri = 0
/-- the same engine with one rule more -/
structure cU (r : GRule) (n : Nat) (e y : GEng) : Prop where
 len : e.Rules.length = n
 glen : e.Graphs.length = n
 rules : y.Rules = e.Rules ++ [r]
 graphs : ∃ g, y.Graphs = e.Graphs ++ [g]
 evs : y.Events = e.Events
 keys : y.Keys = e.Keys
 kok : ∀ v ∈ e.Keys, 0 ≤ v ∧ v ≤ 1000
 fired : y.Fired.filter (dR n) = e.Fired
theorem w4 {r : GRule} {n : Nat} {e y : GEng} (h : cU r n e y) {i : Nat} (hi : i < n) (o : GOcc) (q : Graiser) :
  (dk y i o q).1 = (dk e i o q).1 ∧ cU r n (dk e i o q).2.1 (dk y i o q).2.1 ∧ (dk y i o q).2.2 = (dk e i o q).2.2 := by
 have hl := h.len
 have hr : y.Rules[i]? = e.Rules[i]? := by rw [h.rules, List.getElem?_append_left (by omega)]
 have hf : ∀ (v : Int) (j : Nat), 0 ≤ v ∧ v ≤ 1000 → cU r n ⟨e.Rules, e.Graphs, e.Events, e.Keys.set j v, e.Fired ++ [⟨(i : Int), o⟩]⟩ ⟨y.Rules, y.Graphs, e.Events, e.Keys.set j v, y.Fired ++ [⟨(i : Int), o⟩]⟩ := fun v j hv => by
  refine ⟨h.len, h.glen, h.rules, h.graphs, rfl, rfl, fun w hw => ?_, ?_⟩
  ·rcases List.mem_or_eq_of_mem_set hw with p | p
   ·exact h.kok w p
   ·rw [p]; exact hv
  ·show (y.Fired ++ [(⟨(i : Int), o⟩ : GFire)]).filter (dR n) = _
   rw [List.filter_append, h.fired]
   have : dR n ⟨(i : Int), o⟩ = true := by unfold dR; simp; omega
   rw [List.filter_cons_of_pos this]; rfl
 unfold dk
 rw [hr, h.evs, h.keys]
 split
 ·split
  ·split
   ·rename_i hv
    split
    ·exact ⟨rfl, hf _ _ hv, rfl⟩
    ·split
     ·exact ⟨rfl, hf _ _ hv, rfl⟩
     ·exact ⟨rfl, hf _ _ hv, rfl⟩
   ·exact ⟨rfl, h, rfl⟩
  ·exact ⟨rfl, h, rfl⟩
 ·exact ⟨rfl, h, rfl⟩
theorem oU {r : GRule} {n : Nat} {i : Nat} (hi : i < n) : ∀ (l : List GOcc) (e y : GEng) (q : Graiser), cU r n e y →
  (dd i l y q).1 = (dd i l e q).1 ∧ cU r n (dd i l e q).2.1 (dd i l y q).2.1 ∧ (dd i l y q).2.2 = (dd i l e q).2.2
 | [], e, y, q, h => ⟨rfl, h, rfl⟩
 | o :: l, e, y, q, h => by
  obtain ⟨a, b, c⟩ := w4 h hi o q
  unfold dd
  rw [a, c]
  split
  ·exact oU hi l _ _ _ b
  ·exact ⟨a, b, c⟩
theorem wX {r : GRule} {n : Nat} {e y : GEng} (h : cU r n e y) {i : Nat} (hi : i < n) (x : GEv) (q : Graiser) :
  (fA x i y q).1 = (fA x i e q).1 ∧ cU r n (fA x i e q).2.1 (fA x i y q).2.1 ∧ (fA x i y q).2.2 = (fA x i e q).2.2 := by
 obtain ⟨g, hg⟩ := h.graphs
 have hgl := h.glen
 have hgi : y.Graphs[i]? = e.Graphs[i]? := by rw [hg, List.getElem?_append_left (by omega)]
 have hset : ∀ z, cU r n ⟨e.Rules, e.Graphs.set i z, e.Events, e.Keys, e.Fired⟩ ⟨y.Rules, y.Graphs.set i z, y.Events, y.Keys, y.Fired⟩ := fun z =>
  ⟨h.len, by show (e.Graphs.set i z).length = n; rw [List.length_set]; exact h.glen, h.rules, ⟨g, by show y.Graphs.set i z = e.Graphs.set i z ++ [g]; rw [hg, List.set_append_left _ _ (by omega)]⟩, h.evs, h.keys, h.kok, h.fired⟩
 unfold fA
 rw [hgi]
 split
 ·split
  ·exact oU hi _ _ _ q (hset _)
  ·exact ⟨rfl, hset _, rfl⟩
 ·exact ⟨rfl, h, rfl⟩
theorem oK {r : GRule} {n : Nat} (x : GEv) : ∀ (os : List Int), (∀ i ∈ os, i.toNat < n) → ∀ (e y : GEng) (q : Graiser), cU r n e y →
  (bW x os y q).1 = (bW x os e q).1 ∧ cU r n (bW x os e q).2.1 (bW x os y q).2.1 ∧ (bW x os y q).2.2 = (bW x os e q).2.2
 | [], _, e, y, q, h => ⟨rfl, h, rfl⟩
 | i :: os, ho, e, y, q, h => by
  obtain ⟨a, b, c⟩ := wX h (ho i (by simp)) x q
  unfold bW
  rw [a, c]
  split
  ·exact oK x os (fun j hj => ho j (by simp [hj])) _ _ _ b
  ·exact ⟨a, b, c⟩
theorem sM (x : GEv) (bs : List Int) : ∀ (as : List Int) (e : GEng) (q : Graiser), bW x (as ++ bs) e q = if (bW x as e q).1 = 0 then bW x bs (bW x as e q).2.1 (bW x as e q).2.2 else bW x as e q
 | [], e, q => by rw [List.nil_append, bW, if_pos rfl]
 | i :: as, e, q => by
  rw [List.cons_append, bW, bW]
  by_cases h : (fA x i.toNat e q).1 = 0
  ·rw [if_pos h, if_pos h, sM x bs as]
  ·rw [if_neg h, if_neg h, if_neg h]
theorem AV {l : List Int} {i : Nat} : l.set i (l.getD i 0 + 0) = l := by
 rw [Int.add_zero, List.getD_eq_getElem?_getD]
 rcases Nat.lt_or_ge i l.length with h | h
 ·rw [List.getElem?_eq_getElem h]; exact List.set_getElem_self h
 ·exact List.set_eq_of_length_le h
theorem sW {r : GRule} (hr : tG r) {n : Nat} : ∀ (l : List GOcc) (e y : GEng) (q : Graiser), cU r n e y → (dd n l y q).1 = 0 ∧ cU r n e (dd n l y q).2.1 ∧ (dd n l y q).2.2 = q
 | [], e, y, q, h => ⟨rfl, h, rfl⟩
 | o :: l, e, y, q, h => by
  have hf : (dk y n o q).1 = 0 ∧ cU r n e (dk y n o q).2.1 ∧ (dk y n o q).2.2 = q := by
   have hn : y.Rules[n]? = some r := by rw [h.rules, List.getElem?_append_right (by rw [h.len]; exact Nat.le_refl _), h.len, Nat.sub_self]; rfl
   unfold dk
   rw [hn]
   split
   ·rename_i r' x he hx
    cases he
    split
    ·have hk : 0 ≤ y.Keys.getD r.Key.toNat 0 + r.Add ∧ y.Keys.getD r.Key.toNat 0 + r.Add ≤ 1000 := by
      rw [hr.add, h.keys, List.getD_eq_getElem?_getD]
      cases hq : e.Keys[r.Key.toNat]? with
      | none => simp
      | some v => have := h.kok v (List.mem_of_getElem? hq); simpa using this
     rw [if_pos hk, if_pos (by rw [hr.raise]; decide)]
     refine ⟨rfl, ⟨h.len, h.glen, h.rules, h.graphs, h.evs, ?_, h.kok, ?_⟩, rfl⟩
     ·show y.Keys.set r.Key.toNat (y.Keys.getD r.Key.toNat 0 + r.Add) = e.Keys
      rw [hr.add, AV]; exact h.keys
     ·show (y.Fired ++ [(⟨(n : Int), o⟩ : GFire)]).filter (dR n) = _
      rw [List.filter_append, h.fired]
      have : ¬ dR n ⟨(n : Int), o⟩ = true := by unfold dR; simp
      rw [List.filter_cons_of_neg this]; simp
    ·exact ⟨rfl, h, rfl⟩
   ·exact ⟨rfl, h, rfl⟩
  obtain ⟨a, b, c⟩ := hf
  unfold dd
  rw [if_pos a, c]
  exact sW hr l e _ q b
theorem tR {r : GRule} (hr : tG r) {n : Nat} {e y : GEng} (h : cU r n e y) (hp : ∀ s ∈ e.Rules, 0 ≤ s.Pri) (x : GEv) (q : Graiser) :
  ((bk y x q).1 = (bk e x q).1 ∧ ((bk e x q).1 = 0 → cU r n (bk e x q).2.1 (bk y x q).2.1 ∧ (bk y x q).2.2 = (bk e x q).2.2)) ∨ (bk y x q).1 = 2 := by
 unfold bk
 rw [h.evs]
 by_cases hF : e.Events.length = 24 ∨ 1000 < x.At
 ·right; rw [if_pos hF]
 rw [if_neg hF, if_neg hF, h.rules, yF e.Rules r (fun s hs => by rw [hr.pri]; exact hp s hs), sM, h.len]
 have h1 : cU r n ⟨e.Rules, e.Graphs, e.Events ++ [x], e.Keys, e.Fired⟩ ⟨y.Rules, y.Graphs, e.Events ++ [x], y.Keys, y.Fired⟩ := ⟨h.len, h.glen, h.rules, h.graphs, rfl, h.keys, h.kok, h.fired⟩
 rw [h.rules] at h1
 obtain ⟨a, b, c⟩ := oK x (dU e.Rules) (fun i hi => by obtain ⟨j, hj, rfl⟩ := o6.1 hi; rw [h.len] at hj; simpa using hj) _ _ q h1
 rw [a, c]
 generalize bW x (dU e.Rules) ⟨e.Rules, e.Graphs, e.Events ++ [x], e.Keys, e.Fired⟩ q = z at a b c ⊢
 generalize bW x (dU e.Rules) ⟨e.Rules ++ [r], y.Graphs, e.Events ++ [x], y.Keys, y.Fired⟩ q = w at a b c ⊢
 by_cases h0 : z.1 = 0
 rotate_left
 ·left
  rw [if_neg h0]
  exact ⟨a, fun p => absurd p h0⟩
 rw [if_pos h0]
 obtain ⟨g, hg⟩ := b.graphs
 have hgn : w.2.1.Graphs[n]? = some g := by rw [hg, List.getElem?_append_right (by rw [b.glen]; exact Nat.le_refl _), b.glen, Nat.sub_self]; rfl
 unfold bW fA
 rw [Int.toNat_natCast, hgn]
 simp only []
 cases hst : iI g.Mode g.Seen g.Nodes x with
 | none => right; simp only []; rw [if_neg (show ¬ (2 : Int) = 0 by decide)]
 | some p =>
  left
  simp only []
  have h2 : cU r n z.2.1 ⟨w.2.1.Rules, w.2.1.Graphs.set n ⟨g.Mode, p.1, g.Seen + 1, x.At, false⟩, w.2.1.Events, w.2.1.Keys, w.2.1.Fired⟩ :=
   ⟨b.len, b.glen, b.rules, ⟨_, by dsimp only; rw [hg, List.set_append_right _ _ (by rw [b.glen]; exact Nat.le_refl _), b.glen, Nat.sub_self]; rfl⟩, b.evs, b.keys, b.kok, b.fired⟩
  obtain ⟨f1, f2, f3⟩ := sW hr p.2 _ _ z.2.2 h2
  rw [if_pos f1]
  unfold bW
  exact ⟨h0.symm, fun _ => ⟨f2, f3⟩⟩
theorem qQ {r : GRule} (hr : tG r) {n : Nat} : ∀ (f : Nat) (e y : GEng) (q : Graiser) (s : Int), cU r n e y → (∀ z ∈ e.Rules, 0 ≤ z.Pri) → (∀ e x q, (bk e x q).1 = 0 → (bk e x q).2.1.Rules = e.Rules) →
  ((db f y q s).1 = (db f e q s).1 ∧ ((db f e q s).1 = 0 → cU r n (db f e q s).2 (db f y q s).2)) ∨ (db f y q s).1 = 2
 | 0, e, y, q, s, h, _, _ => .inl ⟨rfl, fun _ => h⟩
 | f + 1, e, y, q, s, h, hp, hR => by
  unfold db
  split
  ·exact .inl ⟨rfl, fun _ => h⟩
  rename_i x l hq
  rw [h.evs]
  rcases tR hr h hp ⟨x.Sym, cn e.Events + s, x.Val⟩ ⟨l, q.raised⟩ with ⟨a, b⟩ | a
  ·rw [a]
   by_cases h0 : (bk e ⟨x.Sym, cn e.Events + s, x.Val⟩ ⟨l, q.raised⟩).1 = 0
   ·rw [if_pos h0, if_pos h0]
    obtain ⟨b1, b2⟩ := b h0
    rw [b2]
    exact qQ hr f _ _ _ 1 b1 (by rw [hR _ _ _ h0]; exact hp) hR
   ·rw [if_neg h0, if_neg h0]
    exact .inl ⟨rfl, fun p => absurd p h0⟩
  ·right
   rw [if_neg (by omega)]
   exact a
theorem ta (e : GEng) (i : Nat) (o : GOcc) (q : Graiser) : (dk e i o q).2.1.Rules = e.Rules := by
 unfold dk
 repeat' split
 all_goals rfl
theorem qE (i : Nat) : ∀ (l : List GOcc) (e : GEng) (q : Graiser), (dd i l e q).2.1.Rules = e.Rules
 | [], e, q => rfl
 | o :: l, e, q => by
  unfold dd
  split
  ·rw [qE i l, ta]
  ·exact ta e i o q
theorem sn (x : GEv) (i : Nat) (e : GEng) (q : Graiser) : (fA x i e q).2.1.Rules = e.Rules := by
 unfold fA
 split
 ·split
  ·rw [qE]
  ·rfl
 ·rfl
theorem qH (x : GEv) : ∀ (os : List Int) (e : GEng) (q : Graiser), (bW x os e q).2.1.Rules = e.Rules
 | [], e, q => rfl
 | i :: os, e, q => by
  unfold bW
  split
  ·rw [qH x os, sn]
  ·exact sn x i.toNat e q
theorem vp (e : GEng) (x : GEv) (q : Graiser) : (bk e x q).2.1.Rules = e.Rules := by
 unfold bk
 split
 ·rfl
 ·rw [qH]
theorem w7 {r : GRule} (hr : tG r) {n : Nat} {e y : GEng} (h : cU r n e y) (hp : ∀ z ∈ e.Rules, 0 ≤ z.Pri) (sym gap val : Int) (h1 : ∃ more, (cH e sym gap val).1.Fired = e.Fired ++ more) (h2 : ∃ more, (cH y sym gap val).1.Fired = y.Fired ++ more) :
  ((cH y sym gap val).2.1 = (cH e sym gap val).2.1 ∧ cU r n (cH e sym gap val).1 (cH y sym gap val).1 ∧ (cH y sym gap val).2.2.filter (dR n) = (cH e sym gap val).2.2) ∨ ((cH y sym gap val).2.1 = 2 ∧ (cH y sym gap val).2.1 ≠ (cH e sym gap val).2.1) := by
 have hl := qQ hr 8 e y ⟨[⟨sym, 0, val⟩], 0⟩ gap h hp (fun e x q _ => vp e x q)
 unfold cH at h1 h2 ⊢
 generalize db 8 e ⟨[⟨sym, 0, val⟩], 0⟩ gap = a at hl h1 ⊢
 generalize db 8 y ⟨[⟨sym, 0, val⟩], 0⟩ gap = b at hl h2 ⊢
 rcases hl with ⟨e1, e2⟩ | e1
 ·rw [e1] at h2 ⊢
  by_cases h0 : a.1 = 0
  ·rw [if_pos h0] at h1 h2 ⊢
   rw [if_pos h0]
   left
   have hb := e2 h0
   refine ⟨rfl, hb, ?_⟩
   obtain ⟨m1, h1⟩ := h1
   obtain ⟨m2, h2⟩ := h2
   dsimp only at h1 h2 ⊢
   have hf := hb.fired
   rw [h2, List.filter_append, h.fired, h1] at hf
   have hf := List.append_cancel_left hf
   rw [h2, h1, List.drop_left, List.drop_left, hf]
  ·rw [if_neg h0, if_neg h0]
   exact .inl ⟨rfl, h, rfl⟩
 ·rw [if_neg (show ¬ b.1 = 0 by omega)]
  by_cases ha : a.1 = 2
  ·left
   rw [if_neg (show ¬ a.1 = 0 by omega)]
   exact ⟨e1.trans ha.symm, h, rfl⟩
  ·right
   refine ⟨e1, ?_⟩
   by_cases h0 : a.1 = 0
   ·rw [if_pos h0]; show b.1 ≠ 0; omega
   ·rw [if_neg h0]; show b.1 ≠ a.1; omega
theorem yn (e : GEng) (sym gap val : Int) : (cH e sym gap val).2.2.length ≤ (cH e sym gap val).1.Fired.length ∧ ∀ f ∈ (cH e sym gap val).2.2, f ∈ (cH e sym gap val).1.Fired := by
 unfold cH
 generalize db 8 e ⟨[⟨sym, 0, val⟩], 0⟩ gap = a
 by_cases h0 : a.1 = 0
 ·rw [if_pos h0]
  exact ⟨by dsimp only; rw [List.length_drop]; omega, fun f hf => List.mem_of_mem_drop hf⟩
 ·rw [if_neg h0]
  exact ⟨by simp, fun f hf => by simp at hf⟩
theorem vd (k : Nat) (s : ByteArray) (hs : s.size ≤ 1000000) (hk : 1000001 ≤ k) : cJ.f k s = some (ik s) := by
 have := iQ s.size (lY s) false (cJ.l0 k s) (fun N => by rw [cJ.l0, if_neg (by omega)])
  (fun N i hi => by
   rw [cJ.l0, if_pos (by omega), ae (by omega), ae (by omega), ae (by omega), ae (by omega), Int.toNat_natCast, wrS i (by omega)]
   unfold lY
   by_cases h1 : (kg s i) < 97
   ·rw [if_pos h1]; simp [h1]
   ·rw [if_neg h1]
    by_cases h2 : 122 < (kg s i)
    ·rw [if_pos h2]; simp [h2]
    ·rw [if_neg h2]; simp [h1, h2]) k (by omega)
 unfold cJ.f ik
 rw [this]
 by_cases h : ∀ i, i < s.size → lY s i = true
 ·rw [if_pos h]
  simp only [Option.bind_some]
  by_cases h1 : 0 < (s.size : Int)
  ·rw [if_pos h1, Option.some.injEq, Bool.eq_iff_iff]
   simp only [Bool.and_eq_true, decide_eq_true_eq, Bool.not_eq_true', decide_eq_false_iff_not]
   constructor
   ·intro q; exact ⟨h, by omega, by omega⟩
   ·intro q; omega
  ·rw [if_neg h1, Option.some.injEq, Bool.eq_iff_iff]
   simp only [Bool.and_eq_true, decide_eq_true_eq, Bool.false_eq_true, false_iff]
   intro q; omega
 ·rw [if_neg h, decide_eq_false h]; rfl
theorem oD (k : Nat) (hk : 1000000000000 ≤ k) (r : GRule) (h : kw r) : gC.f k r = some (rOk r) := by
 unfold gC.f rOk
 rw [vd k r.Name h.1 (by omega), (zk r.Mode).2, qv r.Ex (by have := h.2; omega) k (by have := h.2; omega)]
 simp only [Option.bind_some]
 cases ik r.Name
 ·rfl
 simp only [if_true, Bool.true_and]
 by_cases h1 : r.Pri < 0
 ·rw [if_pos h1, decide_eq_false (fun q => by omega)]; rfl
 rw [if_neg h1]
 by_cases h1' : 9 < r.Pri
 ·rw [if_pos h1', decide_eq_false (fun q => by omega)]; rfl
 rw [if_neg h1', decide_eq_true (show 0 ≤ r.Pri ∧ r.Pri ≤ 9 by omega), Bool.true_and]
 by_cases h2 : 0 ≤ r.Mode ∧ r.Mode ≤ 4
 rotate_left
 ·rw [if_neg (by simpa using h2), decide_eq_false h2]; rfl
 rw [if_pos (by simpa using h2), decide_eq_true h2, Bool.true_and]
 cases kS r.Ex
 ·rfl
 simp only [if_true, Bool.true_and]
 by_cases h3 : r.Low < 0
 ·rw [if_pos h3, decide_eq_false (fun q => by omega)]; rfl
 rw [if_neg h3]
 by_cases h4 : r.High < r.Low
 ·rw [if_pos h4, decide_eq_false (fun q => by omega)]; rfl
 rw [if_neg h4]
 by_cases h4' : 100 < r.High
 ·rw [if_pos h4', decide_eq_false (fun q => by omega)]; rfl
 rw [if_neg h4', decide_eq_true (show 0 ≤ r.Low ∧ r.Low ≤ r.High ∧ r.High ≤ 100 by omega), Bool.true_and]
 by_cases h5 : r.Key < 0
 ·rw [if_pos h5, decide_eq_false (fun q => by omega)]; rfl
 rw [if_neg h5]
 by_cases h5' : r.Key < 4
 rotate_left
 ·rw [if_neg h5', decide_eq_false (fun q => by omega)]; rfl
 rw [if_pos h5', decide_eq_true (show 0 ≤ r.Key ∧ r.Key ≤ 3 by omega), Bool.true_and]
 by_cases h6 : r.Add < -9
 ·rw [if_pos h6, decide_eq_false (fun q => by omega)]; rfl
 rw [if_neg h6]
 by_cases h6' : 9 < r.Add
 ·rw [if_pos h6', decide_eq_false (fun q => by omega)]; rfl
 rw [if_neg h6', decide_eq_true (show -9 ≤ r.Add ∧ r.Add ≤ 9 by omega), Bool.true_and]
 by_cases h7 : r.Raise < -1
 ·rw [if_pos h7, decide_eq_false (fun q => by omega)]
 rw [if_neg h7, Option.some.injEq, Bool.eq_iff_iff]
 simp only [decide_eq_true_eq]; omega
def yN (l : List GRule) (nm : ByteArray) (j : Nat) : Bool := match l[j]? with
 | some s => !eZ s.Name nm
 | none => false
theorem tn (k : Nat) (hk : 1000000000000 ≤ k) (l : List GRule) (hl : l.length ≤ 1000000) (h : ∀ r ∈ l, kw r) : aW.f k l = some (dD l) := by
 have dm : ∀ nm j (hj : j < l.length), yN l nm j = !eZ l[j].Name nm := fun nm j hj => by unfold yN; rw [List.getElem?_eq_getElem hj]
 have inner : ∀ i (hi : i < l.length), aW.l3 k l (i : Int) k 0 = some (if ((l.take i).all fun s => !eZ s.Name l[i].Name) = true then .ok () else .error false) := fun i hi => by
  have := iQ i (yN l l[i].Name) false (aW.l3 k l (i : Int)) (fun N => by rw [aW.l3, if_neg (by omega)])
   (fun N j hj => by
    have hlt : j < l.length := by omega
    rw [aW.l3, if_pos (by omega), ae (by omega), Int.toNat_natCast, List.getElem?_eq_getElem hlt]
    simp only [Option.bind_some]
    rw [ae (by omega), Int.toNat_natCast, List.getElem?_eq_getElem hi]
    simp only [Option.bind_some]
    rw [dm _ j hlt]
    by_cases hb : eZ l[j].Name l[i].Name = true
    ·rw [if_pos hb, hb]; rfl
    ·rw [if_neg hb]
     have : eZ l[j].Name l[i].Name = false := by simpa using hb
     rw [this, wrS j (by omega)]; rfl) k (by omega)
  rw [this]
  congr 1
  by_cases q : ((l.take i).all fun s => !eZ s.Name l[i].Name) = true
  ·rw [if_pos q, if_pos]
   intro j hj
   rw [List.all_eq_true] at q
   rw [dm _ j (by omega)]
   exact q _ (List.mem_take_iff_getElem.2 ⟨j, by omega, rfl⟩)
  ·rw [if_neg q, if_neg]
   intro w
   apply q
   rw [List.all_eq_true]
   intro s hs
   obtain ⟨j, hj, rfl⟩ := List.mem_take_iff_getElem.1 hs
   have := w j (by omega)
   rwa [dm _ j (by omega)] at this
 have := iQ l.length (eW l) false (aW.l2 k l) (fun N => by rw [aW.l2, if_neg (by omega)])
  (fun N i hi => by
   rw [aW.l2, if_pos (by omega), ae (by omega), Int.toNat_natCast, List.getElem?_eq_getElem hi]
   simp only [Option.bind_some]
   rw [oD k hk _ (h _ (List.getElem_mem hi))]
   simp only [Option.bind_some]
   have hn : eW l i = (rOk l[i] && (l.take i).all fun s => !eZ s.Name l[i].Name) := by unfold eW; rw [List.getElem?_eq_getElem hi]
   rw [hn]
   by_cases hb : rOk l[i] = true
   ·rw [if_pos hb, hb, Bool.true_and, inner i hi]
    simp only [Option.bind_some]
    cases (l.take i).all fun s => !eZ s.Name l[i].Name
    ·rfl
    ·simp only [if_true]
     rw [wrS i (by omega)]
   ·rw [if_neg hb]
    have : rOk l[i] = false := by simpa using hb
    rw [this]; rfl) k (by omega)
 unfold aW.f dD
 by_cases h4 : 4 < (l.length : Int)
 ·rw [if_pos h4, decide_eq_false (show ¬ l.length ≤ 4 by omega), Bool.and_false]
 rw [if_neg h4, this, decide_eq_true (show l.length ≤ 4 by omega), Bool.and_true]
 by_cases h : ∀ i, i < l.length → eW l i = true
 ·rw [if_pos h, decide_eq_true h]; rfl
 ·rw [if_neg h, decide_eq_false h]; rfl
theorem k9 (x : GEx) : (⟨x.Kind, x.Sym, x.N, x.Kids⟩ : GEx) = x := by cases x; rfl
/-- a rule that is drawn: small, its name not of two letters -/
def jc (r : GRule) : Prop := kw r ∧ r.Name.size ≠ 2
theorem jc.of {r s : GRule} (h : jc r) (hn : s.Name = r.Name) (hx : s.Ex = r.Ex) : jc s := ⟨⟨by rw [hn]; exact h.1.1, by rw [hx]; exact h.1.2⟩, by rw [hn]; exact h.2⟩
theorem vU (k : Nat) (hk : 2000000000000 ≤ k) (r : Gl14Rd) (m : Int) (hr : cL r m) (hm : m ≤ 50000000) (name : ByteArray) : ∃ x r', gB.f k r name = some (x, r') ∧ cL r' (m + 300000) ∧ x.Name = name ∧ exN x.Ex ≤ 1000 := by
 obtain ⟨x, r1, e1, h1, h2⟩ := wx k hk r m hr (by omega)
 obtain ⟨v, r2, e2, -, -, -, h3⟩ := fP r1 2 (m + 200000) h1 (by omega) (by omega)
 have tail : ∀ (r : Gl14Rd) (m' : Int), cL r m' → m' ≤ m + 290000 → ∃ (low pri mode high key add raise : Int) (a b c d e f g : Gl14Rd), aG.f r [0, 0, 0, 1, 5] = some (low, a) ∧ aG.f a [0, 1, 5, 5, 9] = some (pri, b) ∧ aZ.f b 5 = some (mode, c) ∧ aG.f c [100, 100, 5] = some (high, d) ∧ aZ.f d 4 = some (key, e) ∧ aG.f e [1, 1, 2, 9, 0, (-1)] = some (add, f) ∧ aG.f f [(-1), (-1), (-1), (-1), 3, 4, 2] = some (raise, g) ∧ cL g (m + 300000) := fun r m' hr hm' => by
  obtain ⟨low, a, a1, -, a2⟩ := fe r [0, 0, 0, 1, 5] m' hr (by omega) (by simp)
  obtain ⟨pri, b, b1, -, b2⟩ := fe a [0, 1, 5, 5, 9] (m' + 1) a2 (by omega) (by simp)
  obtain ⟨mode, c, c1, -, -, -, c2⟩ := fP b 5 (m' + 1 + 1) b2 (by omega) (by omega)
  obtain ⟨high, d, d1, -, d2⟩ := fe c [100, 100, 5] (m' + 1 + 1 + 1) c2 (by omega) (by simp)
  obtain ⟨key, e, g1, -, -, -, g2⟩ := fP d 4 (m' + 1 + 1 + 1 + 1) d2 (by omega) (by omega)
  obtain ⟨add, f, f1, -, f2⟩ := fe e [1, 1, 2, 9, 0, (-1)] (m' + 1 + 1 + 1 + 1 + 1) g2 (by omega) (by simp)
  obtain ⟨raise, g, i1, -, i2⟩ := fe f [(-1), (-1), (-1), (-1), 3, 4, 2] (m' + 1 + 1 + 1 + 1 + 1 + 1) f2 (by omega) (by simp)
  exact ⟨low, pri, mode, high, key, add, raise, a, b, c, d, e, f, g, a1, b1, c1, d1, g1, f1, i1, i2.mono (by omega)⟩
 unfold gB.f
 rw [e1]
 simp only [Option.bind_some]
 rw [e2]
 simp only [Option.bind_some]
 by_cases hv : v = 0
 ·rw [if_pos hv]
  obtain ⟨y, r3, e3, q1, q2⟩ := wN 2 (by omega) k (by omega) r2 (m + 200000 + 1) h3 (by omega)
  rw [show ((2 : Nat) : Int) = 2 from rfl] at e3
  rw [e3]
  obtain ⟨low, pri, mode, high, key, add, raise, a, b, c, d, e, f, g, a1, b1, c1, d1, g1, f1, i1, i2⟩ := tail r3 _ q1 (by omega)
  simp only [Option.bind_some, a1, b1, c1, d1, g1, f1, i1]
  exact ⟨_, _, rfl, i2, rfl, by show exN (⟨y.Kind, y.Sym, y.N, y.Kids⟩ : GEx) ≤ 1000; rw [k9]; omega⟩
 ·rw [if_neg hv]
  obtain ⟨low, pri, mode, high, key, add, raise, a, b, c, d, e, f, g, a1, b1, c1, d1, g1, f1, i1, i2⟩ := tail r2 _ h3 (by omega)
  simp only [Option.bind_some, a1, b1, c1, d1, g1, f1, i1]
  exact ⟨_, _, rfl, i2, rfl, by show exN (⟨x.Kind, x.Sym, x.N, x.Kids⟩ : GEx) ≤ 1000; rw [k9]; omega⟩
theorem wy (k : Nat) (hk : 2000000000000 ≤ k) : ∀ (c n : Nat) (b : List Int) (p m : Int) (acc : List GRule), c < n → cL ⟨b, p⟩ m → m + 300000 * c ≤ 50000000 → acc.length + c ≤ 4 → (∀ r ∈ acc, jc r) →
  ∃ l b' p', cw.l0 k n b p acc (c : Int) = some (l, b', p') ∧ cL ⟨b', p'⟩ (m + 300000 * c) ∧ l.length ≤ 4 ∧ ∀ r ∈ l, jc r := by
 intro c
 induction c with
 | zero =>
  intro n b p m acc hn hr hm ha hd
  obtain ⟨n, rfl⟩ : ∃ m, n = m + 1 := ⟨n - 1, by omega⟩
  rw [cw.l0, if_neg (by omega)]
  exact ⟨_, _, _, rfl, by simpa using hr, by omega, hd⟩
 | succ c ih =>
  intro n b p m acc hn hr hm ha hd
  obtain ⟨n, rfl⟩ : ∃ m, n = m + 1 := ⟨n - 1, by omega⟩
  have hname : ∃ nm : ByteArray, [(⟨#[111, 110, 101]⟩ : ByteArray), (⟨#[116, 119, 111]⟩ : ByteArray), (⟨#[116, 104, 114, 101, 101]⟩ : ByteArray), (⟨#[102, 111, 117, 114]⟩ : ByteArray)][acc.length]? = some nm ∧ nm.size ≤ 5 ∧ nm.size ≠ 2 := by
   have h4 : acc.length = 0 ∨ acc.length = 1 ∨ acc.length = 2 ∨ acc.length = 3 := by omega
   rcases h4 with h | h | h | h <;> rw [h]
   ·exact ⟨_, rfl, by decide, by decide⟩
   ·exact ⟨_, rfl, by decide, by decide⟩
   ·exact ⟨_, rfl, by decide, by decide⟩
   ·exact ⟨_, rfl, by decide, by decide⟩
  obtain ⟨nm, n1, n2, n3⟩ := hname
  obtain ⟨x, r', e1, e2, e3, e4⟩ := vU k hk ⟨b, p⟩ m hr (by omega) nm
  rw [cw.l0, if_pos (by omega), ae (by omega), ae (by omega), Int.toNat_natCast, n1]
  simp only [Option.bind_some]
  rw [e1]
  simp only [Option.bind_some]
  rw [ae (by omega), wrP c (by omega)]
  obtain ⟨l, b', p', q1, q2, q3, q4⟩ := ih n r'.b r'.p (m + 300000) (acc ++ [x]) (by omega) e2 (by omega) (by rw [List.length_append, List.length_singleton]; omega) (fun r hr' => by
   rcases List.mem_append.1 hr' with h | h
   ·exact hd r h
   ·rw [List.mem_singleton.1 h]
    exact ⟨⟨by rw [e3]; omega, by omega⟩, by rw [e3]; exact n3⟩)
  exact ⟨l, b', p', q1, q2.mono (by omega), q3, q4⟩
theorem zp (k : Nat) (hk : 2000000000000 ≤ k) (r : Gl14Rd) (m : Int) (hr : cL r m) (hm : m ≤ 40000000) : ∃ l r', cw.f k r = some (l, r') ∧ cL r' (m + 2000000) ∧ l.length ≤ 4 ∧ ∀ r ∈ l, jc r := by
 obtain ⟨v, r1, e1, h1, h2, -, h4⟩ := fP r 5 m hr (by omega) (by omega)
 have h2 := h2 (by omega)
 obtain ⟨c, rfl⟩ : ∃ c : Nat, v = c := ⟨v.toNat, by omega⟩
 obtain ⟨l, b', p', q1, q2, q3, q4⟩ := wy k hk c k r1.b r1.p (m + 1) [] (by omega) h4 (by omega) (by simp; omega) (fun r h => by simp at h)
 unfold cw.f
 rw [e1]
 simp only [Option.bind_some]
 rw [q1]
 exact ⟨l, ⟨b', p'⟩, rfl, q2.mono (by omega), q3, q4⟩
theorem jw {l : List GRule} {i : Nat} {r : GRule} (h : ∀ r ∈ l, jc r) (hr : jc r) : ∀ s ∈ l.set i r, jc s := fun s hs => by
 rcases List.mem_or_eq_of_mem_set hs with q | q
 ·exact h s q
 ·rw [q]; exact hr
theorem vP (k : Nat) (hk : 2000000000000 ≤ k) (r : Gl14Rd) (m : Int) (hr : cL r m) (hm : m ≤ 30000000) : ∃ l r', gy.f k r = some (l, r') ∧ cL r' (m + 3000000) ∧ l.length ≤ 4 ∧ ∀ r ∈ l, jc r := by
 obtain ⟨l, r1, e1, h1, h2, h3⟩ := zp k hk r m hr (by omega)
 unfold gy.f
 rw [e1]
 simp only [Option.bind_some]
 by_cases h0 : ((l.length : Nat) : Int) = 0
 ·rw [if_pos h0]; exact ⟨_, _, rfl, h1.mono (by omega), by omega, h3⟩
 rw [if_neg h0]
 obtain ⟨v, r2, e2, p1, p2, -, p4⟩ := fP r1 (l.length : Nat) (m + 2000000) h1 (by omega) (by omega)
 have p2 := p2 (by omega)
 obtain ⟨i, rfl⟩ : ∃ i : Nat, v = i := ⟨v.toNat, by omega⟩
 have hi : i < l.length := by omega
 obtain ⟨w, r3, e3, -, -, -, q4⟩ := fP r2 60 (m + 2000000 + 1) p4 (by omega) (by omega)
 rw [e2]
 simp only [Option.bind_some]
 rw [e3]
 simp only [Option.bind_some]
 have num : ∀ t : List Int, 1 ≤ t.length ∧ t.length < 1000 → ∃ v r', aG.f r3 t = some (v, r') ∧ cL r' (m + 3000000) := fun t ht => by
  obtain ⟨v, r', e, -, h⟩ := fe r3 t (m + 2000000 + 1 + 1) q4 (by omega) ht
  exact ⟨v, r', e, h.mono (by omega)⟩
 have hD := h3 _ (List.getElem_mem hi)
 by_cases g0 : w = 0
 ·rw [if_pos g0]
  have hof : ∃ nm r', gt.f r3 [(⟨#[]⟩ : ByteArray), (⟨#[65]⟩ : ByteArray), (⟨#[116, 111, 111, 108, 111, 110, 103]⟩ : ByteArray), (⟨#[111, 110, 101]⟩ : ByteArray)] = some (nm, r') ∧ nm.size ≤ 7 ∧ nm.size ≠ 2 ∧ cL r' (m + 3000000) := by
   obtain ⟨u, r4, f1, f2, f3, -, f4⟩ := fP r3 4 (m + 2000000 + 1 + 1) q4 (by omega) (by omega)
   have f3 := f3 (by omega)
   unfold gt.f
   rw [show (([(⟨#[]⟩ : ByteArray), (⟨#[65]⟩ : ByteArray), (⟨#[116, 111, 111, 108, 111, 110, 103]⟩ : ByteArray), (⟨#[111, 110, 101]⟩ : ByteArray)].length : Nat) : Int) = 4 from rfl, f1]
   simp only [Option.bind_some]
   rw [ae (by omega)]
   have hu : u.toNat = 0 ∨ u.toNat = 1 ∨ u.toNat = 2 ∨ u.toNat = 3 := by omega
   have f4 := f4.mono (n := m + 3000000) (by omega)
   rcases hu with h | h | h | h <;> rw [h]
   ·exact ⟨_, _, rfl, by decide, by decide, f4⟩
   ·exact ⟨_, _, rfl, by decide, by decide, f4⟩
   ·exact ⟨_, _, rfl, by decide, by decide, f4⟩
   ·exact ⟨_, _, rfl, by decide, by decide, f4⟩
  obtain ⟨nm, r', e, s1, s2, hr'⟩ := hof
  rw [e]
  simp only [Option.bind_some]
  rw [ae (by omega), ae (by omega), Int.toNat_natCast, List.getElem?_eq_getElem hi]
  exact ⟨_, _, rfl, hr', by rw [List.length_set]; exact h2, jw h3 ⟨⟨by show nm.size ≤ _; omega, by show exN (⟨_, _, _, _⟩ : GEx) ≤ _; rw [k9]; exact hD.1.2⟩, s2⟩⟩
 rw [if_neg g0]
 by_cases g1 : w = 1
 ·obtain ⟨v, r', e, hr'⟩ := num [(-1), 10] (by simp)
  rw [if_pos g1, e]
  simp only [Option.bind_some]
  rw [ae (by omega), ae (by omega), Int.toNat_natCast, List.getElem?_eq_getElem hi]
  exact ⟨_, _, rfl, hr', by rw [List.length_set]; exact h2, jw h3 (hD.of rfl (k9 _))⟩
 rw [if_neg g1]
 by_cases g2 : w = 2
 ·obtain ⟨v, r', e, hr'⟩ := num [(-1), 101] (by simp)
  rw [if_pos g2, e]
  simp only [Option.bind_some]
  rw [ae (by omega), ae (by omega), Int.toNat_natCast, List.getElem?_eq_getElem hi]
  exact ⟨_, _, rfl, hr', by rw [List.length_set]; exact h2, jw h3 (hD.of rfl (k9 _))⟩
 rw [if_neg g2]
 by_cases g3 : w = 3
 ·rw [if_pos g3, ae (by omega), ae (by omega), Int.toNat_natCast, List.getElem?_eq_getElem hi]
  exact ⟨_, _, rfl, q4.mono (by omega), by rw [List.length_set]; exact h2, jw h3 (hD.of rfl (k9 _))⟩
 rw [if_neg g3]
 by_cases g4 : w = 4
 ·obtain ⟨v, r', e, hr'⟩ := num [(-10), 10, (-9)] (by simp)
  rw [if_pos g4, e]
  simp only [Option.bind_some]
  rw [ae (by omega), ae (by omega), Int.toNat_natCast, List.getElem?_eq_getElem hi]
  exact ⟨_, _, rfl, hr', by rw [List.length_set]; exact h2, jw h3 (hD.of rfl (k9 _))⟩
 rw [if_neg g4]
 by_cases g5 : w = 5
 ·obtain ⟨x, r', e, hr', hx⟩ := AO k hk r3 (m + 2000000 + 1 + 1) q4 (by omega)
  rw [if_pos g5, e]
  simp only [Option.bind_some]
  rw [ae (by omega), ae (by omega), Int.toNat_natCast, List.getElem?_eq_getElem hi]
  exact ⟨_, _, rfl, hr'.mono (by omega), by rw [List.length_set]; exact h2, jw h3 ⟨⟨hD.1.1, by show exN (⟨x.Kind, x.Sym, x.N, x.Kids⟩ : GEx) ≤ _; rw [k9]; omega⟩, hD.2⟩⟩
 ·rw [if_neg g5]
  exact ⟨_, _, rfl, q4.mono (by omega), h2, h3⟩
theorem yx (k : Nat) (hk : 2000000000000 ≤ k) (l : List Int) (hl : l.length ≤ 1048576) (hb : ∀ y ∈ l, 0 ≤ y ∧ y ≤ 255) : ∃ r, eY.f k l = some r ∧ jc r := by
 obtain ⟨r, e, h⟩ := sY l hl hb
 obtain ⟨t, r', e2, h1, h2, h3⟩ := vP k hk r 0 h (by omega)
 unfold eY.f
 rw [e]
 simp only [Option.bind_some]
 rw [e2]
 simp only [Option.bind_some]
 by_cases h0 : ((t.length : Nat) : Int) = 0
 ·rw [if_pos h0]
  obtain ⟨x, r3, q1, q2, q3, q4⟩ := vU k hk r' _ h1 (by omega) (⟨#[111, 110, 101]⟩ : ByteArray)
  rw [q1]
  exact ⟨x, rfl, ⟨by rw [q3]; decide, by omega⟩, by rw [q3]; decide⟩
 ·rw [if_neg h0]
  have hlt : 0 < t.length := by omega
  rw [ae (by decide), ae (by omega), List.getElem?_eq_getElem hlt]
  exact ⟨_, rfl, h3 _ (List.getElem_mem hlt)⟩
theorem Ad (k : Nat) (hk : 2000000000000 ≤ k) (l : List Int) (hl : l.length ≤ 1048576) (hb : ∀ y ∈ l, 0 ≤ y ∧ y ≤ 255) : ∃ t, eJ.f k l = some t ∧ t.length ≤ 4 ∧ ∀ r ∈ t, jc r := by
 obtain ⟨r, e, h⟩ := sY l hl hb
 obtain ⟨t, r', e2, h1, h2, h3⟩ := vP k hk r 0 h (by omega)
 unfold eJ.f
 rw [e]
 simp only [Option.bind_some]
 rw [e2]
 exact ⟨t, rfl, h2, h3⟩
theorem vr (k : Nat) (l : List GOcc) (hl : l.length ≤ 40000000000) (hm : vz l 1000) (hk : 1000000000000 ≤ k) : ∀ (d n i : Nat), i + d = l.length → d < n →
  bq.l0 k (fun y0 y1 => eg.f k y0 y1) l l n (i : Int) = some (.ok ()) := by
 intro d
 induction d with
 | zero =>
  intro n i hi hn
  obtain ⟨n, rfl⟩ : ∃ m, n = m + 1 := ⟨n - 1, by omega⟩
  rw [bq.l0, if_neg (by omega)]
 | succ d ih =>
  intro n i hi hn
  obtain ⟨n, rfl⟩ : ∃ m, n = m + 1 := ⟨n - 1, by omega⟩
  have hlt : i < l.length := by omega
  have hb := hm l[i] (List.getElem_mem hlt)
  rw [bq.l0, if_pos (by omega), ae (by omega), Int.toNat_natCast, List.getElem?_eq_getElem hlt]
  simp only [Option.bind_some]
  rw [ae (by omega)]
  simp only [eg.f, jz l[i] l[i] (by omega) k (by omega), ka, Option.bind_some, BEq.rfl, if_true]
  rw [wrS i (by omega)]
  exact ih n (i + 1) (by omega) (by omega)
theorem vn (k : Nat) (l : List GOcc) (hl : l.length ≤ 40000000000) (hm : vz l 1000) (hk : 1000000000000 ≤ k) : ei.f k l l = some true := by
 unfold ei.f bq.f
 have := vr k l hl hm hk l.length k 0 (by omega) (by omega)
 rw [show ((0 : Nat) : Int) = 0 from rfl] at this
 rw [if_pos rfl, this]; rfl
/- shifts -/
theorem vV (k : Nat) (l : List GEv) (hl : l.length ≤ 1000) : ∀ (d n i : Nat), i + d = l.length → d < n → bY.l0 k l l n (i : Int) = some (.ok ()) := by
 intro d
 induction d with
 | zero =>
  intro n i hi hn
  obtain ⟨n, rfl⟩ : ∃ m, n = m + 1 := ⟨n - 1, by omega⟩
  rw [bY.l0, if_neg (by omega)]
 | succ d ih =>
  intro n i hi hn
  obtain ⟨n, rfl⟩ : ∃ m, n = m + 1 := ⟨n - 1, by omega⟩
  have hlt : i < l.length := by omega
  rw [bY.l0, if_pos (by omega), ae (by omega), Int.toNat_natCast, List.getElem?_eq_getElem hlt]
  simp only [Option.bind_some]
  rw [ae (by omega)]
  simp only [if_true]
  rw [wrS i (by omega)]
  exact ih n (i + 1) (by omega) (by omega)
theorem wE (k : Nat) (l : List GEv) (hl : l.length ≤ 1000) (hk : 1001 ≤ k) : eI.f k l l = some true := by
 unfold eI.f bY.f
 have := vV k l hl l.length k 0 (by omega) (by omega)
 rw [show ((0 : Nat) : Int) = 0 from rfl] at this
 rw [if_pos rfl, this]; rfl
end Go.Proofs.YtlbnmldopjadoaaGreat
