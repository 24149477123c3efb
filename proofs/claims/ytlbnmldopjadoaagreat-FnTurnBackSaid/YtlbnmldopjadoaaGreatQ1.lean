/- Plain lemmas about the functions over data; second part. -/
import Derived.Test.YtlbnmldopjadoaaGreatQ0
namespace Go.Proofs.YtlbnmldopjadoaaGreat
open Go Go.Vm
set_option linter.unusedVariables false
set_option linter.unusedSimpArgs false
theorem xC {b : List Int} (h : bf b = true) {i j : Nat} (hi : i < 5) (hj : j < 5) (e : b.getD i 0 = b.getD j 0) : i = j := by
  have h5 := fU h
  unfold bf at h
  simp only [Bool.and_eq_true, List.all_eq_true, List.mem_range', decide_eq_true_eq] at h
  have key : ∀ i j, i < j → j < 5 → b.getD i 0 ≠ b.getD j 0 := fun i j hij hj e => by
    have g := h.1 j ⟨j, by omega, by omega⟩
    unfold fK at g
    rw [List.getElem?_eq_getElem (show j < b.length by omega)] at g
    rw [List.getD_eq_getElem?_getD, List.getD_eq_getElem?_getD, List.getElem?_eq_getElem (show j < b.length by omega), List.getElem?_eq_getElem (show i < b.length by omega)] at e
    simp only [Option.getD_some] at e
    have m0 : b[i] ∈ b.take j := List.mem_take_iff_getElem.2 ⟨i, by omega, rfl⟩
    have m : b[j] ∈ b.take j := by rw [← e]; exact m0
    have c : (b.take j).contains b[j] = true := List.contains_iff_mem.2 m
    simp [m] at g
  rcases Nat.lt_trichotomy i j with c | c | c
  · exact absurd e (key i j c hj)
  · exact c
  · exact absurd e.symm (key j i c hi)
theorem uI {b : List Int} (h : bf b = true) {s : Int} (hs : 0 ≤ s ∧ s < 5) : 0 ≤ b.getD s.toNat 0 ∧ b.getD s.toNat 0 < 5 := by
  obtain ⟨x, e, h1, h2⟩ := fQ h (i := s.toNat) (by omega)
  rw [List.getD_eq_getElem?_getD, e]
  simp only [Option.getD_some]
  omega
theorem xl (b : List Int) : ∀ e : GEx, exD (cU b e) = exD e := by
  refine fA fun e ih => ?_
  rw [gH, iC, iC]
  dsimp only
  have : ∀ l : List GEx, (∀ x ∈ l, x ∈ e.Kids) → fZ (l.map (cU b)) = fZ l := fun l => by
    induction l with
    | nil => intro _; rfl
    | cons y ys ihs =>
      intro hy
      rw [List.map_cons, mE, mE, ih y (hy y (by simp)), ihs fun z hz => hy z (by simp [hz])]
  rw [this e.Kids fun x hx => hx]
theorem vH {b : List Int} (h : bf b = true) : ∀ e : GEx, cO e = true → cO (cU b e) = true := by
  refine fA fun e ih hf => ?_
  obtain ⟨here, hks⟩ := dd hf
  have ho := jB here
  rw [jV, Bool.and_eq_true, ge, List.all_eq_true]
  have kids : ∀ x ∈ (cU b e).Kids, cO x = true := fun x hx => by
    rw [gH] at hx
    obtain ⟨y, hy, rfl⟩ := List.mem_map.1 hx
    exact ih y hy (hks y hy)
  refine ⟨?_, kids⟩
  have bs := uI h ⟨ho.1, ho.2.1⟩
  unfold ep at here ⊢
  rw [gH]
  dsimp only
  rw [List.length_map]
  simp only [Bool.and_eq_true, decide_eq_true_eq, Bool.or_eq_true] at here ⊢
  obtain ⟨⟨⟨⟨h1, h2⟩, h3⟩, h4⟩, h5⟩ := here
  by_cases k1 : e.Kind = 1
  · rw [if_pos k1]
    exact ⟨⟨⟨⟨h1, bs.1⟩, bs.2⟩, .inl k1⟩, h5⟩
  · rw [if_neg k1]
    exact ⟨⟨⟨⟨h1, h2⟩, h3⟩, h4⟩, h5⟩
theorem qa {b : List Int} (h : bf b = true) {e : GEx} (he : eR e = true) : eR (cU b e) = true := by
  unfold eR at he ⊢
  rw [vh, xl]
  simp only [Bool.and_eq_true] at he ⊢
  exact ⟨he.1, vH h e he.2⟩
theorem wy {l : List GEv} (h1 : ∀ e ∈ l, gQ e = true) (h2 : l.Pairwise fun a b => a.At < b.At) (h3 : l.length ≤ 24) : dr l = true := by
  unfold dr
  simp only [Bool.and_eq_true, List.all_eq_true, List.mem_range', decide_eq_true_eq]
  refine ⟨?_, h3⟩
  rintro i ⟨j, hj, rfl⟩
  rw [show 0 + 1 * j = j by omega]
  unfold fm
  rw [List.getElem?_eq_getElem hj]
  simp only [Bool.and_eq_true]
  refine ⟨h1 _ (List.getElem_mem hj), ?_⟩
  cases j with
  | zero => rfl
  | succ j =>
    simp only [fI, List.getElem?_eq_getElem (show j < l.length by omega), decide_eq_true_eq]
    exact List.pairwise_iff_getElem.1 h2 _ _ _ _ (by omega)
theorem o8 {b : List Int} (h : bf b = true) {l : List GEv} (hl : dr l = true) : dr (l.map (fG b)) = true := by
  refine wy (fun e he => ?_) (List.pairwise_map.2 (nO hl).1) (by rw [List.length_map]; exact mA hl)
  obtain ⟨e, h1, rfl⟩ := List.mem_map.1 he
  have o := om hl h1
  have s := mP hl e h1
  have := uI h s
  unfold gQ at o ⊢
  unfold fG
  simp only [Bool.and_eq_true, decide_eq_true_eq] at o ⊢
  omega
theorem ud (k : Nat) (rec' : GEx → List Int → Option GEx) (b : List Int) (e : GEx) (f : GEx → GEx) (hl : e.Kids.length ≤ 1048577) (H : ∀ x ∈ e.Kids, rec' x b = some (f x)) :
    ∀ (d n i : Nat) (acc : List GEx), i + d = e.Kids.length → d < n → acc.length = i → bw.l0 k rec' e b n acc (i : Int) = some (acc ++ (e.Kids.drop i).map f) := by
  intro d
  induction d with
  | zero =>
    intro n i acc hi hn ha
    obtain ⟨n, rfl⟩ : ∃ m, n = m + 1 := ⟨n - 1, by omega⟩
    rw [List.drop_eq_nil_of_le (by omega), List.map_nil, List.append_nil, bw.l0, if_neg (by omega)]
  | succ d ih =>
    intro n i acc hi hn ha
    obtain ⟨n, rfl⟩ : ∃ m, n = m + 1 := ⟨n - 1, by omega⟩
    have hlt : i < e.Kids.length := by omega
    have i2 := ih n (i + 1) (acc ++ [f e.Kids[i]]) (by omega) (by omega) (by simp; omega)
    rw [List.drop_eq_getElem_cons hlt, List.map_cons, bw.l0, if_pos (by omega), af (by omega), Int.toNat_natCast, List.getElem?_eq_getElem hlt]
    simp only [Option.bind_some, H e.Kids[i] (List.getElem_mem hlt)]
    rw [af (by omega), wrS i (by omega), i2]; simp
theorem w7 (b : List Int) (hb : bf b = true) : ∀ e : GEx, exN e ≤ 1048577 → cO e = true → ∀ k : Nat, 3 * exN e ≤ k → bw.f k e b = some (cU b e) := by
  refine fA fun e ih hs hf k hk => ?_
  obtain ⟨hh, hkids⟩ := dd hf
  obtain ⟨s0, s5, one⟩ := jB hh
  rw [bY] at hk hs
  have hq := dV e.Kids
  obtain ⟨k, rfl⟩ : ∃ m, k = m + 1 := ⟨k - 1, by omega⟩
  have i2 := ud k (bw.f k) b e (cU b) (by omega) (fun x hx => by have := dl hx; exact ih x hx (by omega) (hkids x hx) k (by omega)) e.Kids.length k 0 [] (by omega) (by omega) rfl
  rw [show ((0 : Nat) : Int) = 0 from rfl, List.drop_zero, List.nil_append] at i2
  obtain ⟨y, y1, _, _⟩ := fQ hb (i := e.Sym.toNat) (by omega)
  have yd : b.getD e.Sym.toNat 0 = y := by rw [List.getD_eq_getElem?_getD, y1]; rfl
  rw [gH, bw.f, i2]
  by_cases h1 : e.Kind = 1
  · obtain ⟨n1, n2⟩ := one h1
    simp only [if_pos h1, af s0, y1, Option.bind_some, yd, n1, n2, List.map_nil, h1]
    rfl
  · simp only [if_neg h1, Option.bind_some]
theorem kI (k : Nat) (hk : 1000000000000 ≤ k) (e : GEx) (b : List Int) (hs : exN e ≤ 1000000) (hb : b.length ≤ 1000000) : cr.f k e b = some (kN e b) := by
  unfold cr.f kN
  rw [kt e (by omega) k (by omega)]
  simp only [Option.bind_some]
  by_cases h : eR e = true
  · rw [if_pos h, gw k hk b hb]
    simp only [Option.bind_some]
    by_cases h2 : bf b = true
    · rw [if_pos h2, if_pos ⟨h, h2⟩, w7 b h2 e (by omega) (fL h).2 k (by omega)]; rfl
    · rw [if_neg h2, if_neg (fun q => h2 q.2)]
  · rw [if_neg h, if_neg (fun q => h q.1)]
def mY (b : List Int) : Nat → Nat → List Int → List Int
  | 0, _, s => s
  | d + 1, i, s => mY b d (i + 1) (s.set (b.getD i 0).toNat (i : Int))
def en (b : List Int) : List Int := mY b 5 0 (List.replicate 5 0)
theorem vU : ∀ a b c d e : Fin 5, bf [(a.val : Int), (b.val : Int), (c.val : Int), (d.val : Int), (e.val : Int)] = true →
    bf (en [(a.val : Int), (b.val : Int), (c.val : Int), (d.val : Int), (e.val : Int)]) = true ∧ ∀ s : Fin 5, (en [(a.val : Int), (b.val : Int), (c.val : Int), (d.val : Int), (e.val : Int)]).getD ([(a.val : Int), (b.val : Int), (c.val : Int), (d.val : Int), (e.val : Int)].getD s.val 0).toNat 0 = (s.val : Int) := by
  decide +kernel
theorem qk {b : List Int} (h : bf b = true) : bf (en b) = true ∧ ∀ s : Int, 0 ≤ s ∧ s < 5 → (en b).getD (b.getD s.toNat 0).toNat 0 = s := by
  have hl := fU h
  have g : ∀ i, i < 5 → ∃ x : Fin 5, b[i]? = some (x.val : Int) := fun i hi => by
    obtain ⟨x, h1, h2, h3⟩ := fQ h hi
    exact ⟨⟨x.toNat, by omega⟩, by rw [h1]; simp only; congr 1; omega⟩
  obtain ⟨x0, h0⟩ := g 0 (by omega)
  obtain ⟨x1, h1⟩ := g 1 (by omega)
  obtain ⟨x2, h2⟩ := g 2 (by omega)
  obtain ⟨x3, h3⟩ := g 3 (by omega)
  obtain ⟨x4, h4⟩ := g 4 (by omega)
  have e : b = [(x0.val : Int), (x1.val : Int), (x2.val : Int), (x3.val : Int), (x4.val : Int)] := by
    refine List.ext_getElem? fun i => ?_
    match i with
    | 0 => rw [h0]; rfl
    | 1 => rw [h1]; rfl
    | 2 => rw [h2]; rfl
    | 3 => rw [h3]; rfl
    | 4 => rw [h4]; rfl
    | i + 5 => rw [List.getElem?_eq_none (by omega)]; rfl
  rw [e] at h ⊢
  obtain ⟨a, c⟩ := vU x0 x1 x2 x3 x4 h
  refine ⟨a, fun s hs => ?_⟩
  have := c ⟨s.toNat, by omega⟩
  simp only at this
  rw [this]; omega
theorem vu {b : List Int} (h : bf b = true) : ∀ x : GEx, cO x = true → cU (en b) (cU b x) = x := by
  refine fA fun x ih hf => ?_
  obtain ⟨hh, hkids⟩ := dd hf
  obtain ⟨s0, s5, one⟩ := jB hh
  have hk : (x.Kids.map (cU b)).map (cU (en b)) = x.Kids := by
    rw [List.map_map]
    calc x.Kids.map (cU (en b) ∘ cU b) = x.Kids.map id := List.map_congr_left fun y hy => ih y hy (hkids y hy)
      _ = x.Kids := List.map_id _
  rw [gH b x, gH]
  simp only
  rw [hk]
  cases x with
  | mk a c d ks =>
    simp only at s0 s5 ⊢
    by_cases h1 : a = 1
    · rw [if_pos h1, if_pos h1, (qk h).2 c ⟨s0, s5⟩]
    · rw [if_neg h1, if_neg h1]
theorem uN {b : List Int} (h : bf b = true) {l : List GEv} (hl : ∀ e ∈ l, 0 ≤ e.Sym ∧ e.Sym < 5) : (l.map (fG b)).map (fG (en b)) = l := by
  rw [List.map_map]
  calc l.map (fG (en b) ∘ fG b) = l.map id := List.map_congr_left fun e he => by
        show fG (en b) (fG b e) = e
        unfold fG
        simp only
        rw [(qk h).2 e.Sym (hl e he)]
    _ = l := List.map_id _
def sE (a b i : Nat) (s : List GOcc × List GOcc × List GOcc) : Prop := Ok (a + i) s.1 ∧ Ok b s.2.1 ∧ Ok (i * b) s.2.2
theorem sE.half {a b i : Nat} {mode : Int} {s : List GOcc × List GOcc × List GOcc} {o : GOcc} (h : sE a b i s) (ho : cx o.Ids) : sE a b (i + 1) (eM mode s o) := by
  obtain ⟨x, y, z⟩ := lB (mode := mode) h.1 h.2.1 h.2.2 ho
  refine ⟨x, y, z.mono ?_⟩
  rw [Nat.succ_mul]; exact Nat.le_refl _
def pO (a b e i : Nat) (s : List GOcc × List GOcc × List GOcc) : Prop := Ok a s.1 ∧ Ok (b + i) s.2.1 ∧ Ok (e + i * a) s.2.2
theorem pO.other {a b e i : Nat} {mode : Int} {s : List GOcc × List GOcc × List GOcc} {o : GOcc} (h : pO a b e i s) (ho : cx o.Ids) : pO a b e (i + 1) (jC mode s o) := by
  obtain ⟨x, y, z⟩ := lB (mode := mode) (s := (s.2.1, s.1, s.2.2)) h.2.1 h.1 h.2.2 ho
  refine ⟨y, x, z.mono ?_⟩
  rw [Nat.succ_mul]; omega
theorem tu {mode : Int} {l r left right : List GOcc} {a b c d : Nat} (h1 : Ok a l) (h2 : Ok b r) (hl : Ids left) (hr : Ids right) (hc : left.length ≤ c) (hd : right.length ≤ d) :
    pO (a + c) b (c * b) d (gE mode l r left right) := by
  have a1 := nX (eM mode) (sE a b) left 0 (l, r, []) (fun j s h hI => by rw [Nat.zero_add] at *; exact hI.half (hl _ (List.getElem_mem h))) ⟨h1, h2, by simpa using Ok.nil 0⟩
  rw [Nat.zero_add] at a1
  have a2 := nX (jC mode) (pO (a + c) b (c * b)) right 0 (left.foldl (eM mode) (l, r, [])) (fun j s h hI => by rw [Nat.zero_add] at *; exact hI.other (hr _ (List.getElem_mem h)))
    ⟨a1.1.mono (by omega), a1.2.1, a1.2.2.mono (by have := Nat.mul_le_mul_right b hc; omega)⟩
  rw [Nat.zero_add] at a2
  exact ⟨a2.1, a2.2.1.mono (by omega), a2.2.2.mono (by have := Nat.mul_le_mul_right (a + c) hd; omega)⟩
theorem tw (k : Nat) (hk : 1000000000000 ≤ k) (mode : Int) (p : aP) (left right : List GOcc) (a b c d : Nat) (h1 : Ok a p.Left) (h2 : Ok b p.Right) (hl : Ids left) (hr : Ids right) (hc : left.length ≤ c) (hd : right.length ≤ d) (hB : c * b + d * (a + c) + a + b + c + d ≤ 40000000000) :
    aV.f k p mode left right = some (⟨(gE mode p.Left p.Right left right).1, (gE mode p.Left p.Right left right).2.1⟩, (gE mode p.Left p.Right left right).2.2) := by
  have a1 := fB (fun s : List GOcc × List GOcc × List GOcc => s) left (fun s e => ((aF.f k mode e s.2.1).bind fun x48 => ((aL.f k s.2.2 x48.1).bind fun x51 => ((a8.f k s.2.1 x48.2).bind fun x54 => ((dL.f k mode s.1 e ((x48.1.length : Int) == 0)).bind fun x57 => some (x57, x54, x51)))))) (fun n s i => aV.l0 k mode left n s.1 s.2.1 s.2.2 i) (eM mode) (sE a b)
    (fun n s => by rw [aV.l0, if_neg (by omega)])
    (fun n s i h => by
      rw [aV.l0, if_pos (by omega), af (by omega), Int.toNat_natCast, List.getElem?_eq_getElem h]
      simp only [Option.bind_some, Option.bind_assoc]
      rw [wrS i (by omega)])
    (fun i s h hI => ⟨qv k hk mode s.1 s.2.1 s.2.2 _ (a + i) b _ (by omega) (by omega) (by have := Nat.mul_le_mul_right b (show i ≤ c by omega); omega) hI.1 hI.2.1 hI.2.2 (hl _ (List.getElem_mem h)), hI.half (hl _ (List.getElem_mem h))⟩)
    k (p.Left, p.Right, []) (by omega) ⟨h1, h2, by simpa using Ok.nil 0⟩
  have a2 := fB (fun s : List GOcc × List GOcc × List GOcc => s) right (fun s e => ((aF.f k mode e s.1).bind fun x48 => ((aL.f k s.2.2 x48.1).bind fun x51 => ((a8.f k s.1 x48.2).bind fun x54 => ((dL.f k mode s.2.1 e ((x48.1.length : Int) == 0)).bind fun x57 => some (x54, x57, x51)))))) (fun n s i => aV.l1 k mode right n s.1 s.2.1 s.2.2 i) (jC mode) (pO (a + c) b (c * b))
    (fun n s => by rw [aV.l1, if_neg (by omega)])
    (fun n s i h => by
      rw [aV.l1, if_pos (by omega), af (by omega), Int.toNat_natCast, List.getElem?_eq_getElem h]
      simp only [Option.bind_some, Option.bind_assoc]
      rw [wrS i (by omega)])
    (fun i s h hI => by
      have q := qv k hk mode s.2.1 s.1 s.2.2 _ (b + i) (a + c) _ (by omega) (by omega) (by have := Nat.mul_le_mul_right (a + c) (show i ≤ d by omega); omega) hI.2.1 hI.1 hI.2.2 (hr _ (List.getElem_mem h))
      refine ⟨?_, hI.other (hr _ (List.getElem_mem h))⟩
      have q2 := congrArg (Option.map fun t : List GOcc × List GOcc × List GOcc => (t.2.1, t.1, t.2.2)) q
      simp only [Option.map_bind, Option.map_some, Function.comp_def] at q2
      exact q2)
    k (left.foldl (eM mode) (p.Left, p.Right, [])) (by omega) ⟨a1.2.1.mono (by omega), a1.2.2.1, a1.2.2.2.mono (by have := Nat.mul_le_mul_right b hc; omega)⟩
  unfold aV.f
  rw [a1.1]
  simp only [Option.bind_some]
  rw [a2.1]
  rfl
def eo (m n : GNode) : Bool := m.Kind == n.Kind && (m.Sym == n.Sym && (m.N == n.N && m.Kids == n.Kids))
def ec (k s n : Int) (ks : List Int) : GNode := ⟨k, s, n, ks, ⟨[], []⟩, ⟨[], []⟩, [], 0⟩
def lP (ns : List GNode) (x : GNode) : Int × List GNode := match ns.findIdx? (fun m => eo m x) with
  | some i => ((i : Int), ns)
  | none => ((ns.length : Int), ns ++ [x])
mutual
/-- the parts with those of an expression, and the number of its own -/
def df : GEx → List GNode → Int × List GNode
  | ⟨k, s, n, ks⟩, ns => lP (bN ks ns).2 (ec k s n (bN ks ns).1)
def bN : List GEx → List GNode → List Int × List GNode
  | [], ns => ([], ns)
  | x :: xs, ns => ((df x ns).1 :: (bN xs (df x ns).2).1, (bN xs (df x ns).2).2)
end
theorem mQ (x : GEx) (ns : List GNode) : df x ns = lP (bN x.Kids ns).2 (ec x.Kind x.Sym x.N (bN x.Kids ns).1) := by cases x; simp only [df]
theorem j8 (ns : List GNode) : bN [] ns = ([], ns) := by simp only [bN]
theorem je (x : GEx) (xs : List GEx) (ns : List GNode) : bN (x :: xs) ns = ((df x ns).1 :: (bN xs (df x ns).2).1, (bN xs (df x ns).2).2) := by simp only [bN]
def au (found : List (List GOcc)) (n : GNode) (j : Nat) : List GOcc := found.getD (n.Kids.getD j 0).toNat []
def wc (time n : Int) (due kid : List GOcc) : List GOcc := kid.foldl (fun s o => cd s (kc n o)) (due.filter fun o => !(o.To == time))
/-- what a part finds at a time, and what becomes of it -/
def aD (mode seen time : Int) (ev : Option Int) (found : List (List GOcc)) (n : GNode) : GNode × List GOcc :=
  if n.Kind = 1 then (n, if ev = some n.Sym then [⟨time, time, [seen]⟩] else [])
  else if n.Kind = 2 then (n, bV (au found n 0) (au found n 1))
  else if n.Kind = 3 then (⟨n.Kind, n.Sym, n.N, n.Kids, ⟨(gE mode n.Pair.Left n.Pair.Right (au found n 0) (au found n 1)).1, (gE mode n.Pair.Left n.Pair.Right (au found n 0) (au found n 1)).2.1⟩, n.Span, n.Due, n.Many⟩, (gE mode n.Pair.Left n.Pair.Right (au found n 0) (au found n 1)).2.2)
  else if n.Kind = 4 then (⟨n.Kind, n.Sym, n.N, n.Kids, ⟨(kr mode n.Pair.Left (au found n 0) (au found n 1)).1, n.Pair.Right⟩, n.Span, n.Due, n.Many⟩, (kr mode n.Pair.Left (au found n 0) (au found n 1)).2)
  else if n.Kind = 5 then (⟨n.Kind, n.Sym, n.N, n.Kids, n.Pair, ⟨(gF mode n.Span.Left n.Span.Mid (au found n 0) (au found n 1) (au found n 2)).1, (gF mode n.Span.Left n.Span.Mid (au found n 0) (au found n 1) (au found n 2)).2.1⟩, n.Due, n.Many⟩, (gF mode n.Span.Left n.Span.Mid (au found n 0) (au found n 1) (au found n 2)).2.2)
  else if n.Kind = 6 then (⟨n.Kind, n.Sym, n.N, n.Kids, n.Pair, ⟨(cW mode n.Span.Left n.Span.Mid (au found n 0) (au found n 1) (au found n 2)).1, (cW mode n.Span.Left n.Span.Mid (au found n 0) (au found n 1) (au found n 2)).2.1⟩, n.Due, n.Many⟩, (cW mode n.Span.Left n.Span.Mid (au found n 0) (au found n 1) (au found n 2)).2.2)
  else (⟨n.Kind, n.Sym, n.N, n.Kids, n.Pair, n.Span, wc time n.N n.Due (au found n 0), n.Many⟩, atM n.Due time)
def d6 (r : GNode × List GOcc) : GNode := ⟨r.1.Kind, r.1.Sym, r.1.N, r.1.Kids, r.1.Pair, r.1.Span, r.1.Due, r.1.Many + (r.2.length : Int)⟩
def fV (mode seen time : Int) (ev : Option Int) (s : List GNode × List (List GOcc)) (n : GNode) : List GNode × List (List GOcc) :=
  (s.1 ++ [d6 (aD mode seen time ev s.2 n)], s.2 ++ [(aD mode seen time ev s.2 n).2])
/-- a point in time: all parts in order -/
def aC (mode seen time : Int) (ev : Option Int) (ns : List GNode) : List GNode × List (List GOcc) := ns.foldl (fV mode seen time ev) ([], [])
def cL (ns : List GNode) : Bool := ns.any fun n => decide (40 < n.Many)
/-- a part stands for an expression -/
def iX (es : List GEx) (i : Nat) (n : GNode) (e : GEx) : Prop :=
  n.Kind = e.Kind ∧ n.Sym = e.Sym ∧ n.N = e.N ∧ n.Kids.length = e.Kids.length ∧ ∀ j, j < e.Kids.length → ∃ q : Nat, q < i ∧ n.Kids[j]? = some (q : Int) ∧ es[q]? = e.Kids[j]?
def eO (e : GEx) : Prop := cO e = true ∧ exN e ≤ 12
def Rep (es : List GEx) (ns : List GNode) : Prop := es.length = ns.length ∧ ∀ (i : Nat) (n : GNode), ns[i]? = some n → ∃ e, es[i]? = some e ∧ eO e ∧ iX es i n e
/-- what was found at a time, of an expression so large -/
def FO (t : Int) (s : Nat) (l : List GOcc) : Prop := Asc l ∧ Ids l ∧ (l.length + 40) * (l.length + 40) ≤ 41 ^ (s + 1) ∧ ∀ o ∈ l, o.To = t
def jf (t : Int) (n : GNode) : Prop := Ok 40 n.Pair.Left ∧ Ok 40 n.Pair.Right ∧ Ok 40 n.Span.Left ∧ Ok 40 n.Span.Mid ∧ Ok 40 n.Due ∧ 0 ≤ n.Many ∧ n.Many ≤ 40 ∧
  All (fun o => o.To ≤ t) n.Pair.Left ∧ All (fun o => o.To ≤ t) n.Pair.Right ∧ All (fun o => o.To ≤ t) n.Span.Left ∧ All (fun o => o.To ≤ t) n.Span.Mid
theorem sq_le {x m n : Nat} (h : x * x ≤ m) (hn : m < (n + 1) * (n + 1)) : x ≤ n := by
  rcases Nat.lt_or_ge n x with h1 | h1
  · have := Nat.mul_le_mul (show n + 1 ≤ x by omega) (show n + 1 ≤ x by omega); omega
  · exact h1
theorem mG {a b : Nat} (h : a ≤ b) : 41 ^ a ≤ 41 ^ b := Nat.pow_le_pow_right (by omega) h
theorem xz (x y : Nat) : x * y * (x * y) = x * x * (y * y) := by rw [Nat.mul_assoc, Nat.mul_left_comm y x y, ← Nat.mul_assoc]
theorem kO {x y a b c : Nat} (hx : x * x ≤ 41 ^ a) (hy : y * y ≤ 41 ^ b) (h : a + b ≤ c) : x * y * (x * y) ≤ 41 ^ c := by
  rw [xz]
  exact Nat.le_trans (Nat.mul_le_mul hx hy) (by rw [← Nat.pow_add]; exact mG h)
theorem jj {x y m : Nat} (h : x ≤ y) (hy : y * y ≤ m) : x * x ≤ m := Nat.le_trans (Nat.mul_le_mul h h) hy
theorem wM {x : Nat} (h : x * x ≤ 41 ^ 13) : x ≤ 30420000000 := sq_le h (by decide)
theorem FO.small {t : Int} {s : Nat} {l : List GOcc} (h : FO t s l) (hs : s ≤ 12) : l.length ≤ 30420000000 := by
  have := wM (Nat.le_trans h.2.2.1 (mG (show s + 1 ≤ 13 by omega))); omega
theorem FO.ok {t : Int} {s : Nat} {l : List GOcc} (h : FO t s l) : Ok l.length l := ⟨h.1, h.2.1, Nat.le_refl _⟩
/-- two together -/
theorem FO.two {t : Int} {s s' : Nat} {a b : List GOcc} (ha : FO t s a) (hb : FO t s' b) (h : s + s' ≤ 11) : (a.length + 40) * (b.length + 40) ≤ 30420000000 :=
  wM (kO ha.2.2.1 hb.2.2.1 (by omega))
theorem FO.nil {t : Int} {s : Nat} (h : 1 ≤ s) : FO t s [] := ⟨by simp [Asc], fun x hx => by simp at hx, Nat.le_trans (by decide) (mG (show 2 ≤ s + 1 by omega)), fun o ho => by simp at ho⟩
theorem co {es : List GEx} {i : Nat} {n : GNode} {e : GEx} {found : List (List GOcc)} (h : iX es i n e) (hf : found.length = i) {j : Nat} (hj : j < e.Kids.length) :
    ∃ q : Nat, q < i ∧ n.Kids[j]? = some (q : Int) ∧ found[q]? = some (au found n j) ∧ es[q]? = e.Kids[j]? := by
  obtain ⟨q, h1, h2, h3⟩ := h.2.2.2.2 j hj
  refine ⟨q, h1, h2, ?_, h3⟩
  unfold au
  rw [List.getD_eq_getElem?_getD, List.getD_eq_getElem?_getD, h2]
  simp only [Option.getD_some, Int.toNat_natCast]
  rw [List.getElem?_eq_getElem (by omega)]; rfl
/-- what was found so far -/
def gJ (t : Int) (es : List GEx) (found : List (List GOcc)) : Prop := ∀ (j : Nat) (l : List GOcc), found[j]? = some l → ∃ e, es[j]? = some e ∧ FO t (exN e) l
theorem bu {t : Int} {es : List GEx} {i : Nat} {n : GNode} {e : GEx} {found : List (List GOcc)} (h : iX es i n e) (hf : found.length = i) (hF : gJ t es found) {j : Nat} {x : GEx} (hj : e.Kids[j]? = some x) :
    FO t (exN x) (au found n j) := by
  have hj' : j < e.Kids.length := (List.getElem?_eq_some_iff.1 hj).1
  obtain ⟨q, h1, h2, h3, h4⟩ := co h hf hj'
  obtain ⟨e', h5, h6⟩ := hF q _ h3
  rw [h4, hj] at h5
  cases h5
  exact h6
theorem d8 (e : GEx) : 1 ≤ exN e := by rw [bY]; omega
theorem pU {α : Type} {l : List α} (h : l.length = 1) : ∃ a, l = [a] := by
  match l, h with
  | [a], _ => exact ⟨a, rfl⟩
theorem fp {α : Type} {l : List α} (h : l.length = 2) : ∃ a b, l = [a, b] := by
  match l, h with
  | [a, b], _ => exact ⟨a, b, rfl⟩
theorem gK {α : Type} {l : List α} (h : l.length = 3) : ∃ a b c, l = [a, b, c] := by
  match l, h with
  | [a, b, c], _ => exact ⟨a, b, c, rfl⟩
theorem qp {e x : GEx} (h : e.Kids = [x]) : exN e = exN x + 1 := by rw [bY, h, ci, dH]; omega
theorem fu {e x y : GEx} (h : e.Kids = [x, y]) : exN e = exN x + exN y + 1 := by rw [bY, h, ci, ci, dH]; omega
theorem gL {e x y z : GEx} (h : e.Kids = [x, y, z]) : exN e = exN x + exN y + exN z + 1 := by rw [bY, h, ci, ci, ci, dH]; omega
theorem mL {t : Int} {a b : GOcc} (ha : a.To = t) (hb : b.To ≤ t) : (c6 a b).To = t := by show max a.To b.To = t; omega
theorem vl {t : Int} : ∀ {l : List GOcc} {o : GOcc}, (∀ x ∈ l, x.To ≤ t) → o.To = t → (ox o l).To = t
  | [], _, _, h => h
  | x :: l, o, hl, h => vl (l := l) (o := c6 o x) (fun y hy => hl y (by simp [hy])) (mL h (hl x (by simp)))
theorem tS {t : Int} {o : GOcc} (ho : o.To = t) : ∀ (l acc : List GOcc), (∀ x ∈ l, x.To ≤ t) → (∀ x ∈ acc, x.To = t) → ∀ x ∈ l.foldl (fun s e => cd s (c6 o e)) acc, x.To = t
  | [], _, _, h => h
  | y :: l, acc, hl, h => tS ho l (cd acc (c6 o y)) (fun z hz => hl z (by simp [hz])) (fun z hz => by
      rcases dU.1 hz with h1 | rfl
      · exact h z h1
      · exact mL ho (hl y (by simp)))
theorem oe {t : Int} {mode : Int} {o : GOcc} {l : List GOcc} (hl : ∀ x ∈ l, x.To ≤ t) (ho : o.To = t) : ∀ x ∈ dK mode o l, x.To = t := by
  unfold dK
  by_cases h0 : l.length = 0
  · rw [if_pos h0]; simp
  rw [if_neg h0]
  split
  · intro x hx; rw [List.mem_singleton.1 hx, List.getElem?_eq_getElem (show l.length - 1 < l.length by omega)]; exact mL ho (hl _ (List.getElem_mem _))
  split
  · intro x hx; rw [List.mem_singleton.1 hx, List.getElem?_eq_getElem (show 0 < l.length by omega)]; exact mL ho (hl _ (List.getElem_mem _))
  split
  · intro x hx; rw [List.mem_singleton.1 hx]; exact vl hl ho
  · exact tS ho l [] hl (by simp)
theorem kX {t : Int} {a b : List GOcc} (ha : ∀ x ∈ a, x.To = t) (hb : ∀ x ∈ b, x.To = t) : ∀ x ∈ bV a b, x.To = t := fun x hx => by
  rcases gW.1 hx with h | h
  · exact ha x h
  · exact hb x h
theorem jN {t : Int} {a b : List GOcc} (ha : ∀ x ∈ a, x.To ≤ t) (hb : ∀ x ∈ b, x.To ≤ t) : ∀ x ∈ bV a b, x.To ≤ t := fun x hx => by
  rcases gW.1 hx with h | h
  · exact ha x h
  · exact hb x h
theorem vA {t : Int} {a g : List GOcc} (ha : ∀ x ∈ a, x.To ≤ t) : ∀ x ∈ pS a g, x.To ≤ t := fun x hx => ha x (List.mem_filter.1 hx).1
/-- those on the right of a sequence or an absence -/
theorem kS {t : Int} {mode : Int} {p : GOcc → GOcc → Bool} : ∀ (r : List GOcc) (s : List GOcc × List GOcc), (∀ x ∈ r, x.To = t) → (∀ x ∈ s.1, x.To ≤ t) → (∀ x ∈ s.2, x.To = t) →
    (∀ x ∈ (r.foldl (eI mode p) s).1, x.To ≤ t) ∧ (∀ x ∈ (r.foldl (eI mode p) s).2, x.To = t)
  | [], s, _, h1, h2 => ⟨h1, h2⟩
  | o :: r, s, hr, h1, h2 => by
    rw [List.foldl_cons]
    exact kS r _ (fun x hx => hr x (by simp [hx])) (vA h1) (kX h2 (oe (fun x hx => h1 x (List.mem_filter.1 hx).1) (hr o (by simp))))
theorem vW {t : Int} {mode : Int} {own : List GOcc} {o : GOcc} {b : Bool} (h : ∀ x ∈ own, x.To ≤ t) (ho : o.To ≤ t) : ∀ x ∈ gZ mode own o b, x.To ≤ t := by
  have hp : ∀ x ∈ cd own o, x.To ≤ t := fun x hx => by
    rcases dU.1 hx with h1 | rfl
    · exact h x h1
    · exact ho
  unfold gZ
  split
  · intro x hx; rw [List.mem_singleton.1 hx]; exact ho
  split
  · exact hp
  split
  · exact hp
  · exact h
def ToS (t : Int) (s : List GOcc × List GOcc × List GOcc) : Prop := (∀ x ∈ s.1, x.To ≤ t) ∧ (∀ x ∈ s.2.1, x.To ≤ t) ∧ ∀ x ∈ s.2.2, x.To = t
theorem ToS.half {t : Int} {mode : Int} {s : List GOcc × List GOcc × List GOcc} {o : GOcc} (h : ToS t s) (ho : o.To = t) : ToS t (eM mode s o) :=
  ⟨vW h.1 (by omega), vA h.2.1, kX h.2.2 (oe h.2.1 ho)⟩
theorem ToS.other {t : Int} {mode : Int} {s : List GOcc × List GOcc × List GOcc} {o : GOcc} (h : ToS t s) (ho : o.To = t) : ToS t (jC mode s o) := by
  obtain ⟨a, b, c⟩ := ToS.half (mode := mode) (s := (s.2.1, s.1, s.2.2)) ⟨h.2.1, h.1, h.2.2⟩ ho
  exact ⟨b, a, c⟩
theorem vC {t : Int} {mode : Int} {l r left right : List GOcc} (h1 : ∀ x ∈ l, x.To ≤ t) (h2 : ∀ x ∈ r, x.To ≤ t) (hl : ∀ x ∈ left, x.To = t) (hr : ∀ x ∈ right, x.To = t) : ToS t (gE mode l r left right) := by
  unfold gE
  exact n8 (ToS t) _ right _ (fun s x hx hs => hs.other (hr x hx)) (n8 (ToS t) _ left _ (fun s x hx hs => hs.half (hl x hx)) ⟨h1, h2, by simp⟩)
theorem uK {t : Int} {mode : Int} {l mid : List GOcc} (h1 : ∀ x ∈ l, x.To ≤ t) : ∀ (b acc : List GOcc), (∀ x ∈ b, x.To = t) → (∀ x ∈ acc, x.To = t) → ∀ x ∈ b.foldl (fun s o => bV s (dK mode o (l.filter (ek mid o)))) acc, x.To = t
  | [], _, _, h => h
  | o :: b, acc, hb, h => uK h1 b _ (fun x hx => hb x (by simp [hx])) (kX h (oe (fun x hx => h1 x (List.mem_filter.1 hx).1) (hb o (by simp))))
theorem ou {n : Int} {o : GOcc} (h : cx o.Ids) : cx (kc n o).Ids := h
/-- what waits, with what comes later -/
theorem u6 {n : Int} : ∀ (kid : List GOcc) (acc : List GOcc) (m : Nat), Ok m acc → Ids kid → Ok (m + kid.length) (kid.foldl (fun s o => cd s (kc n o)) acc)
  | [], acc, m, h, _ => h
  | o :: kid, acc, m, h, hk => by
    rw [List.foldl_cons]
    have := u6 (n := n) kid (cd acc (kc n o)) (m + 1) (h.put (ou (hk o (by simp)))) (fun x hx => hk x (by simp [hx]))
    exact this.mono (by simp; omega)
theorem cl (a b : Nat) : (a + 40) * (b + 40) = a * b + 40 * a + 40 * b + 1600 := by
  rw [Nat.add_mul, Nat.mul_add, Nat.mul_add]; omega
theorem FO.of {t : Int} {s : Nat} {l : List GOcc} {m : Nat} (h : Ok m l) (hm : (m + 40) * (m + 40) ≤ 41 ^ (s + 1)) (ht : ∀ o ∈ l, o.To = t) : FO t s l :=
  ⟨h.1, h.2.1, jj (show l.length + 40 ≤ m + 40 by have := h.2.2; omega) hm, ht⟩
theorem p9 {t seen mode : Int} {ev : Option Int} {es : List GEx} {i : Nat} {n : GNode} {e : GEx} {found : List (List GOcc)} (hx : eO e) (hR : iX es i n e) (hS : jf t n) (hf : found.length = i) (hF : gJ t es found) (hs : 0 ≤ seen ∧ seen ≤ 23) :
    FO t (exN e) (aD mode seen t ev found n).2 := by
  obtain ⟨S1, S2, S3, S4, S5, _, _, T1, T2, T3, T4⟩ := hS
  have hp := d8 e
  have h12 := hx.2
  unfold aD
  rcases fP (dd hx.1).1 with ⟨hk, hl⟩ | ⟨hk, hl⟩ | ⟨hk, hl⟩ | ⟨hk, hl⟩ | ⟨hk, hl⟩ | ⟨hk, hl⟩ | ⟨hk, hl⟩ <;> rw [← hR.1] at hk
  · rw [if_pos hk]
    simp only
    split
    · refine ⟨by simp [Asc], fun o ho => ?_, Nat.le_trans (by decide : (1 + 40) * (1 + 40) ≤ 41 ^ 2) (mG (by omega)), fun o ho => by rw [List.mem_singleton.1 ho]⟩
      rw [List.mem_singleton.1 ho]
      exact ⟨by simp [Up], fun x hx => by rw [List.mem_singleton.1 hx]; exact hs⟩
    · exact FO.nil hp
  · obtain ⟨x, y, hK⟩ := fp hl
    have a := bu hR hf hF (j := 0) (x := x) (by rw [hK]; rfl)
    have b := bu hR hf hF (j := 1) (x := y) (by rw [hK]; rfl)
    rw [if_neg (by omega), if_pos hk]
    refine FO.of (a.ok.merge b.ok) ?_ (kX a.2.2.2 b.2.2.2)
    rw [fu hK]
    exact jj (by rw [cl]; omega) (kO a.2.2.1 b.2.2.1 (by omega))
  · obtain ⟨x, y, hK⟩ := fp hl
    have a := bu hR hf hF (j := 0) (x := x) (by rw [hK]; rfl)
    have b := bu hR hf hF (j := 1) (x := y) (by rw [hK]; rfl)
    rw [if_neg (by omega), if_neg (by omega), if_pos hk]
    refine FO.of (tu (mode := mode) S1 S2 a.2.1 b.2.1 (Nat.le_refl _) (Nat.le_refl _)).2.2 ?_ (vC T1 T2 a.2.2.2 b.2.2.2).2.2
    rw [fu hK]
    refine jj ?_ (kO a.2.2.1 b.2.2.1 (show exN x + 1 + (exN y + 1) ≤ exN x + exN y + 1 + 1 by omega))
    rw [cl, Nat.mul_add, Nat.mul_comm (au found n 1).length (au found n 0).length]
    omega
  · obtain ⟨x, y, hK⟩ := fp hl
    have a := bu hR hf hF (j := 0) (x := x) (by rw [hK]; rfl)
    have b := bu hR hf hF (j := 1) (x := y) (by rw [hK]; rfl)
    have hN := fu hK
    have h2 := a.two b (by omega)
    rw [cl] at h2
    rw [if_neg (by omega), if_neg (by omega), if_neg (by omega), if_pos hk]
    refine FO.of (qo 1000000000000 (Nat.le_refl _) mode n.Pair _ _ 40 (au found n 1).length (by omega) (by omega) (by omega) S1 a.2.1 b.2.1 (by omega) (Nat.le_refl _)).2.2 ?_ (kS _ (n.Pair.Left, []) b.2.2.2 T1 (by simp)).2
    rw [hN]
    refine jj ?_ (kO a.2.2.1 b.2.2.1 (show exN x + 1 + (exN y + 1) ≤ exN x + exN y + 1 + 1 by omega))
    rw [cl]; omega
  · obtain ⟨x, y, z, hK⟩ := gK hl
    have a := bu hR hf hF (j := 0) (x := x) (by rw [hK]; rfl)
    have b := bu hR hf hF (j := 1) (x := y) (by rw [hK]; rfl)
    have c := bu hR hf hF (j := 2) (x := z) (by rw [hK]; rfl)
    have hN := gL hK
    have py := d8 y
    have h2 := a.two c (by omega)
    have h3 := b.small (by omega)
    rw [cl] at h2
    rw [if_neg (by omega), if_neg (by omega), if_neg (by omega), if_neg (by omega), if_pos hk]
    refine FO.of (qb 1000000000000 (Nat.le_refl _) mode n.Span _ _ _ 40 (au found n 2).length (by omega) (by omega) (by omega) S3 S4 a.2.1 b.2.1 c.2.1 (by omega) (by omega) (Nat.le_refl _)).2.2.2 ?_ (kS _ (n.Span.Left, []) c.2.2.2 T3 (by simp)).2
    rw [hN]
    refine jj ?_ (kO a.2.2.1 c.2.2.1 (show exN x + 1 + (exN z + 1) ≤ exN x + exN y + exN z + 1 + 1 by omega))
    rw [cl]; omega
  · obtain ⟨x, y, z, hK⟩ := gK hl
    have a := bu hR hf hF (j := 0) (x := x) (by rw [hK]; rfl)
    have b := bu hR hf hF (j := 1) (x := y) (by rw [hK]; rfl)
    have c := bu hR hf hF (j := 2) (x := z) (by rw [hK]; rfl)
    have hN := gL hK
    have pz := d8 z
    have h2 := a.two b (by omega)
    have h3 := c.small (by omega)
    rw [cl] at h2
    rw [if_neg (by omega), if_neg (by omega), if_neg (by omega), if_neg (by omega), if_neg (by omega), if_pos hk]
    refine FO.of (n9 1000000000000 (Nat.le_refl _) mode n.Span _ _ _ 40 (au found n 1).length (by omega) (by omega) (by omega) S3 S4 a.2.1 b.2.1 c.2.1 (by omega) (Nat.le_refl _) (by omega)).2.2.2 ?_ (uK T3 _ _ b.2.2.2 (by simp))
    rw [hN]
    refine jj ?_ (kO a.2.2.1 b.2.2.1 (show exN x + 1 + (exN y + 1) ≤ exN x + exN y + exN z + 1 + 1 by omega))
    rw [cl]; omega
  · obtain ⟨x, hK⟩ := pU hl.1
    rw [if_neg (by omega), if_neg (by omega), if_neg (by omega), if_neg (by omega), if_neg (by omega), if_neg (by omega)]
    have hN := qp hK
    have px := d8 x
    refine FO.of (S5.filter _) (Nat.le_trans (by decide : (40 + 40) * (40 + 40) ≤ 41 ^ 3) (mG (by omega))) (fun o ho => ?_)
    have := (List.mem_filter.1 ho).2
    simpa using this
theorem tJ (o : GOcc) (n : Int) (h : Few o) (h1 : -100000 ≤ o.To + n ∧ o.To + n ≤ 200000) : ea.f o n = some (kc n o) := by
  unfold ea.f
  rw [pP _ h]
  simp only [Option.bind_some]
  rw [wr _ (by omega)]
  rfl
def fo (n : GNode) (d : List GOcc) : GNode := ⟨n.Kind, n.Sym, n.N, n.Kids, n.Pair, n.Span, d, n.Many⟩
theorem jl (k : Nat) (hk : 1000000000000 ≤ k) (kid : List GOcc) (ns : List GNode) (i m : Nat) (n : GNode) (hi : i < ns.length) (hm : m + kid.length ≤ 80000000000) (hd : Ok m n.Due) (hid : Ids kid) (ht : ∀ o ∈ kid, -100000 ≤ o.To + n.N ∧ o.To + n.N ≤ 200000) :
    ah.l2 k kid (i : Int) k (ns.set i n) 0 = some (ns.set i (fo n (kid.foldl (fun s o => cd s (kc n.N o)) n.Due))) := by
  have := fB (fun s : List GOcc => ns.set i (fo n s)) kid (fun s o => (ea.f o n.N).bind fun x => c9.f k s x) (fun N s j => ah.l2 k kid (i : Int) N (ns.set i (fo n s)) j) (fun s o => cd s (kc n.N o)) (fun j s => Ok (m + j) s)
    (fun N s => by rw [ah.l2, if_neg (by omega)])
    (fun N s j h => by
      rw [ah.l2, if_pos (by omega), af (by omega), Int.toNat_natCast, List.getElem?_eq_getElem h]
      simp only [Option.bind_some, Option.bind_assoc, Int.toNat_natCast]
      rw [List.getElem?_set_self hi]
      simp only [Option.bind_some, List.set_set]
      rw [wrS j (by omega)]
      rfl)
    (fun j s h hI => by
      have ho := hid _ (List.getElem_mem h)
      have hf : Few kid[j] := by have := fH ho; omega
      have := hI.2.2
      refine ⟨?_, (hI.put (ou ho)).mono (by omega)⟩
      rw [tJ _ _ hf (ht _ (List.getElem_mem h))]
      simp only [Option.bind_some]
      rw [gd k hk _ _ (by omega) hI.2.1.few hI.1])
    k n.Due (by omega) (by simpa using hd)
  exact this.1
theorem kL (k : Nat) (hk : 1000000000000 ≤ k) (kid : List GOcc) (ns : List GNode) (i m : Nat) (n : GNode) (hi : i < ns.length) (hm : m + kid.length ≤ 80000000000) (hd : Ok m n.Due) (hid : Ids kid) (ht : ∀ o ∈ kid, -100000 ≤ o.To + n.N ∧ o.To + n.N ≤ 200000) :
    ai.l2 k kid (i : Int) k (ns.set i n) 0 = some (ns.set i (fo n (kid.foldl (fun s o => cd s (kc n.N o)) n.Due))) := by
  have := fB (fun s : List GOcc => ns.set i (fo n s)) kid (fun s o => (ea.f o n.N).bind fun x => c9.f k s x) (fun N s j => ai.l2 k kid (i : Int) N (ns.set i (fo n s)) j) (fun s o => cd s (kc n.N o)) (fun j s => Ok (m + j) s)
    (fun N s => by rw [ai.l2, if_neg (by omega)])
    (fun N s j h => by
      rw [ai.l2, if_pos (by omega), af (by omega), Int.toNat_natCast, List.getElem?_eq_getElem h]
      simp only [Option.bind_some, Option.bind_assoc, Int.toNat_natCast]
      rw [List.getElem?_set_self hi]
      simp only [Option.bind_some, List.set_set]
      rw [wrS j (by omega)]
      rfl)
    (fun j s h hI => by
      have ho := hid _ (List.getElem_mem h)
      have hf : Few kid[j] := by have := fH ho; omega
      have := hI.2.2
      refine ⟨?_, (hI.put (ou ho)).mono (by omega)⟩
      rw [tJ _ _ hf (ht _ (List.getElem_mem h))]
      simp only [Option.bind_some]
      rw [gd k hk _ _ (by omega) hI.2.1.few hI.1])
    k n.Due (by omega) (by simpa using hd)
  exact this.1
theorem xc (k : Nat) (hk : 1000000000000 ≤ k) (g : GGraph) (t : Int) (N i : Nat) (ns : List GNode) (full : Bool) (found : List (List GOcc)) (n : GNode) (e : GEx) (es : List GEx) (hi : i < g.Nodes.length) (hg : g.Nodes.length ≤ 1000) (hl : ns.length = g.Nodes.length) (hn : ns[i]? = some n)
    (hx : eO e) (hR : iX es i n e) (hS : jf t n) (hf : found.length = i) (hF : gJ t es found) (hs : 0 ≤ g.Seen ∧ g.Seen ≤ 23) (ht : 0 ≤ t ∧ t ≤ 100000) :
    ah.l1 k g t (N + 1) ns full found (i : Int) = ah.l1 k g t N (ns.set i (d6 (aD g.Mode g.Seen t none found n))) (full || decide (40 < (d6 (aD g.Mode g.Seen t none found n)).Many)) (found ++ [(aD g.Mode g.Seen t none found n).2]) ((i + 1 : Nat) : Int) := by
  have hout := p9 (mode := g.Mode) (seen := g.Seen) (ev := none) hx hR hS hf hF hs
  have h12 := hx.2
  have hsm := hout.small h12
  obtain ⟨S1, S2, S3, S4, S5, m0, m1, T1, T2, T3, T4⟩ := hS
  have W : ∀ (q : Nat), q ≤ 30420000000 → IntKind.wrap .i64 (n.Many + (q : Int)) = n.Many + (q : Int) := fun q hq => wr _ (by omega)
  have fin : ∀ (m : GNode) (out : List GOcc), aD g.Mode g.Seen t none found n = (m, out) → m.Many = n.Many → ∀ m' : GNode, m' = d6 (m, out) →
      (if full = true then ah.l1 k g t N (ns.set i m') true (found ++ [out]) ((i + 1 : Nat) : Int) else ah.l1 k g t N (ns.set i m') (decide (40 < n.Many + (out.length : Int))) (found ++ [out]) ((i + 1 : Nat) : Int)) =
      ah.l1 k g t N (ns.set i (d6 (aD g.Mode g.Seen t none found n))) (full || decide (40 < (d6 (aD g.Mode g.Seen t none found n)).Many)) (found ++ [(aD g.Mode g.Seen t none found n).2]) ((i + 1 : Nat) : Int) := by
    intro m out h hm m' hm'
    rw [h, hm']
    have : (d6 (m, out)).Many = n.Many + (out.length : Int) := by show m.Many + _ = _; rw [hm]
    rw [this]
    cases full
    · rw [if_neg (by decide), Bool.false_or]
    · rw [if_pos rfl, Bool.true_or]
  rw [ah.l1, if_pos (by omega), af (by omega), af (by omega), Int.toNat_natCast, hn]
  simp only [Option.bind_some]
  rw [wrS i (by omega)]
  rcases fP (dd hx.1).1 with ⟨hk', hK⟩ | ⟨hk', hK⟩ | ⟨hk', hK⟩ | ⟨hk', hK⟩ | ⟨hk', hK⟩ | ⟨hk', hK⟩ | ⟨hk', hK⟩ <;> rw [← hR.1] at hk'
  · rw [if_pos hk', af (by omega)]
    have hfd : aD g.Mode g.Seen t none found n = (n, []) := by unfold aD; rw [if_pos hk', if_neg (by simp)]
    rw [show IntKind.wrap .i64 (n.Many + 0) = n.Many + (([] : List GOcc).length : Int) from W 0 (by omega)]
    exact fin n _ hfd rfl _ rfl
  · have a := bu hR hf hF (j := 0) (x := e.Kids[0]'(by omega)) (by simp)
    have b := bu hR hf hF (j := 1) (x := e.Kids[1]'(by omega)) (by simp)
    have hN : exN (e.Kids[0]'(by omega)) + exN (e.Kids[1]'(by omega)) + 1 = exN e := by obtain ⟨x, y, hK'⟩ := fp hK; rw [fu hK']; simp only [hK', List.getElem_cons_zero, List.getElem_cons_succ]
    have h2 := a.two b (by omega)
    rw [cl] at h2
    obtain ⟨q0, a1, a2, a3, _⟩ := co hR hf (j := 0) (by rw [hK]; decide)
    obtain ⟨q1, b1, b2, b3, _⟩ := co hR hf (j := 1) (by rw [hK]; decide)
    rw [if_neg (by omega), if_pos hk']
    rw [af (by omega), a2]
    simp only [Option.bind_some]
    rw [af (by omega), af (by omega), Int.toNat_natCast, a3]
    simp only [Option.bind_some]
    rw [af (by omega), b2]
    simp only [Option.bind_some]
    rw [af (by omega), af (by omega), Int.toNat_natCast, b3]
    simp only [Option.bind_some]
    rw [bS k hk _ _ (by omega) a.2.1.few b.2.1.few a.1]
    simp only [Option.bind_some]
    rw [af (by omega)]
    have hfd : aD g.Mode g.Seen t none found n = (n, bV (au found n 0) (au found n 1)) := by unfold aD; rw [if_neg (by omega), if_pos hk']
    rw [hfd] at hsm
    rw [W _ hsm]
    exact fin n _ hfd rfl _ rfl
  · have a := bu hR hf hF (j := 0) (x := e.Kids[0]'(by omega)) (by simp)
    have b := bu hR hf hF (j := 1) (x := e.Kids[1]'(by omega)) (by simp)
    have hN : exN (e.Kids[0]'(by omega)) + exN (e.Kids[1]'(by omega)) + 1 = exN e := by obtain ⟨x, y, hK'⟩ := fp hK; rw [fu hK']; simp only [hK', List.getElem_cons_zero, List.getElem_cons_succ]
    have h2 := a.two b (by omega)
    rw [cl] at h2
    obtain ⟨q0, a1, a2, a3, _⟩ := co hR hf (j := 0) (by rw [hK]; decide)
    obtain ⟨q1, b1, b2, b3, _⟩ := co hR hf (j := 1) (by rw [hK]; decide)
    rw [if_neg (by omega), if_neg (by omega), if_pos hk']
    rw [af (by omega), a2]
    simp only [Option.bind_some]
    rw [af (by omega), af (by omega), Int.toNat_natCast, a3]
    simp only [Option.bind_some]
    rw [af (by omega), b2]
    simp only [Option.bind_some]
    rw [af (by omega), af (by omega), Int.toNat_natCast, b3]
    simp only [Option.bind_some]
    rw [tw k hk g.Mode n.Pair _ _ 40 40 (au found n 0).length (au found n 1).length S1 S2 a.2.1 b.2.1 (Nat.le_refl _) (Nat.le_refl _) (by rw [Nat.mul_add, Nat.mul_comm (au found n 1).length (au found n 0).length]; omega)]
    simp only [Option.bind_some]
    rw [af (by omega)]
    have hfd : aD g.Mode g.Seen t none found n = (⟨n.Kind, n.Sym, n.N, n.Kids, ⟨(gE g.Mode n.Pair.Left n.Pair.Right (au found n 0) (au found n 1)).1, (gE g.Mode n.Pair.Left n.Pair.Right (au found n 0) (au found n 1)).2.1⟩, n.Span, n.Due, n.Many⟩, (gE g.Mode n.Pair.Left n.Pair.Right (au found n 0) (au found n 1)).2.2) := by unfold aD; rw [if_neg (by omega), if_neg (by omega), if_pos hk']
    rw [hfd] at hsm
    simp only [List.set_set]
    rw [W _ hsm]
    exact fin _ _ hfd rfl _ rfl
  · have a := bu hR hf hF (j := 0) (x := e.Kids[0]'(by omega)) (by simp)
    have b := bu hR hf hF (j := 1) (x := e.Kids[1]'(by omega)) (by simp)
    have hN : exN (e.Kids[0]'(by omega)) + exN (e.Kids[1]'(by omega)) + 1 = exN e := by obtain ⟨x, y, hK'⟩ := fp hK; rw [fu hK']; simp only [hK', List.getElem_cons_zero, List.getElem_cons_succ]
    have h2 := a.two b (by omega)
    rw [cl] at h2
    obtain ⟨q0, a1, a2, a3, _⟩ := co hR hf (j := 0) (by rw [hK]; decide)
    obtain ⟨q1, b1, b2, b3, _⟩ := co hR hf (j := 1) (by rw [hK]; decide)
    rw [if_neg (by omega), if_neg (by omega), if_neg (by omega), if_pos hk']
    rw [af (by omega), a2]
    simp only [Option.bind_some]
    rw [af (by omega), af (by omega), Int.toNat_natCast, a3]
    simp only [Option.bind_some]
    rw [af (by omega), b2]
    simp only [Option.bind_some]
    rw [af (by omega), af (by omega), Int.toNat_natCast, b3]
    simp only [Option.bind_some]
    rw [(qo k hk g.Mode n.Pair _ _ 40 (au found n 1).length (by omega) (by omega) (by omega) S1 a.2.1 b.2.1 (by omega) (Nat.le_refl _)).1]
    simp only [Option.bind_some]
    rw [af (by omega)]
    have hfd : aD g.Mode g.Seen t none found n = (⟨n.Kind, n.Sym, n.N, n.Kids, ⟨(kr g.Mode n.Pair.Left (au found n 0) (au found n 1)).1, n.Pair.Right⟩, n.Span, n.Due, n.Many⟩, (kr g.Mode n.Pair.Left (au found n 0) (au found n 1)).2) := by unfold aD; rw [if_neg (by omega), if_neg (by omega), if_neg (by omega), if_pos hk']
    rw [hfd] at hsm
    simp only [List.set_set]
    rw [W _ hsm]
    exact fin _ _ hfd rfl _ rfl
  · have a := bu hR hf hF (j := 0) (x := e.Kids[0]'(by omega)) (by simp)
    have b := bu hR hf hF (j := 1) (x := e.Kids[1]'(by omega)) (by simp)
    have c := bu hR hf hF (j := 2) (x := e.Kids[2]'(by omega)) (by simp)
    have hN : exN (e.Kids[0]'(by omega)) + exN (e.Kids[1]'(by omega)) + exN (e.Kids[2]'(by omega)) + 1 = exN e := by obtain ⟨x, y, z, hK'⟩ := gK hK; rw [gL hK']; simp only [hK', List.getElem_cons_zero, List.getElem_cons_succ]
    have := d8 (e.Kids[1]'(by omega))
    have := d8 (e.Kids[2]'(by omega))
    have h2 := a.two c (by omega)
    have h3 := b.small (by omega)
    rw [cl] at h2
    obtain ⟨q0, a1, a2, a3, _⟩ := co hR hf (j := 0) (by rw [hK]; decide)
    obtain ⟨q1, b1, b2, b3, _⟩ := co hR hf (j := 1) (by rw [hK]; decide)
    obtain ⟨q2, c1, c2, c3, _⟩ := co hR hf (j := 2) (by rw [hK]; decide)
    rw [if_neg (by omega), if_neg (by omega), if_neg (by omega), if_neg (by omega), if_pos hk']
    rw [af (by omega), a2]
    simp only [Option.bind_some]
    rw [af (by omega), af (by omega), Int.toNat_natCast, a3]
    simp only [Option.bind_some]
    rw [af (by omega), b2]
    simp only [Option.bind_some]
    rw [af (by omega), af (by omega), Int.toNat_natCast, b3]
    simp only [Option.bind_some]
    rw [af (by omega), c2]
    simp only [Option.bind_some]
    rw [af (by omega), af (by omega), Int.toNat_natCast, c3]
    simp only [Option.bind_some]
    rw [(qb k hk g.Mode n.Span _ _ _ 40 (au found n 2).length (by omega) (by omega) (by omega) S3 S4 a.2.1 b.2.1 c.2.1 (by omega) (by omega) (Nat.le_refl _)).1]
    simp only [Option.bind_some]
    rw [af (by omega)]
    have hfd : aD g.Mode g.Seen t none found n = (⟨n.Kind, n.Sym, n.N, n.Kids, n.Pair, ⟨(gF g.Mode n.Span.Left n.Span.Mid (au found n 0) (au found n 1) (au found n 2)).1, (gF g.Mode n.Span.Left n.Span.Mid (au found n 0) (au found n 1) (au found n 2)).2.1⟩, n.Due, n.Many⟩, (gF g.Mode n.Span.Left n.Span.Mid (au found n 0) (au found n 1) (au found n 2)).2.2) := by unfold aD; rw [if_neg (by omega), if_neg (by omega), if_neg (by omega), if_neg (by omega), if_pos hk']
    rw [hfd] at hsm
    simp only [List.set_set]
    rw [W _ hsm]
    exact fin _ _ hfd rfl _ rfl
  · have a := bu hR hf hF (j := 0) (x := e.Kids[0]'(by omega)) (by simp)
    have b := bu hR hf hF (j := 1) (x := e.Kids[1]'(by omega)) (by simp)
    have c := bu hR hf hF (j := 2) (x := e.Kids[2]'(by omega)) (by simp)
    have hN : exN (e.Kids[0]'(by omega)) + exN (e.Kids[1]'(by omega)) + exN (e.Kids[2]'(by omega)) + 1 = exN e := by obtain ⟨x, y, z, hK'⟩ := gK hK; rw [gL hK']; simp only [hK', List.getElem_cons_zero, List.getElem_cons_succ]
    have := d8 (e.Kids[1]'(by omega))
    have := d8 (e.Kids[2]'(by omega))
    have h2 := a.two b (by omega)
    have h3 := c.small (by omega)
    rw [cl] at h2
    obtain ⟨q0, a1, a2, a3, _⟩ := co hR hf (j := 0) (by rw [hK]; decide)
    obtain ⟨q1, b1, b2, b3, _⟩ := co hR hf (j := 1) (by rw [hK]; decide)
    obtain ⟨q2, c1, c2, c3, _⟩ := co hR hf (j := 2) (by rw [hK]; decide)
    rw [if_neg (by omega), if_neg (by omega), if_neg (by omega), if_neg (by omega), if_neg (by omega), if_pos hk']
    rw [af (by omega), a2]
    simp only [Option.bind_some]
    rw [af (by omega), af (by omega), Int.toNat_natCast, a3]
    simp only [Option.bind_some]
    rw [af (by omega), b2]
    simp only [Option.bind_some]
    rw [af (by omega), af (by omega), Int.toNat_natCast, b3]
    simp only [Option.bind_some]
    rw [af (by omega), c2]
    simp only [Option.bind_some]
    rw [af (by omega), af (by omega), Int.toNat_natCast, c3]
    simp only [Option.bind_some]
    rw [(n9 k hk g.Mode n.Span _ _ _ 40 (au found n 1).length (by omega) (by omega) (by omega) S3 S4 a.2.1 b.2.1 c.2.1 (by omega) (Nat.le_refl _) (by omega)).1]
    simp only [Option.bind_some]
    rw [af (by omega)]
    have hfd : aD g.Mode g.Seen t none found n = (⟨n.Kind, n.Sym, n.N, n.Kids, n.Pair, ⟨(cW g.Mode n.Span.Left n.Span.Mid (au found n 0) (au found n 1) (au found n 2)).1, (cW g.Mode n.Span.Left n.Span.Mid (au found n 0) (au found n 1) (au found n 2)).2.1⟩, n.Due, n.Many⟩, (cW g.Mode n.Span.Left n.Span.Mid (au found n 0) (au found n 1) (au found n 2)).2.2) := by unfold aD; rw [if_neg (by omega), if_neg (by omega), if_neg (by omega), if_neg (by omega), if_neg (by omega), if_pos hk']
    rw [hfd] at hsm
    simp only [List.set_set]
    rw [W _ hsm]
    exact fin _ _ hfd rfl _ rfl
  · have a := bu hR hf hF (j := 0) (x := e.Kids[0]'(by omega)) (by simp)
    have hN : exN (e.Kids[0]'(by omega)) + 1 = exN e := by obtain ⟨x, hK'⟩ := pU hK.1; rw [qp hK']; simp only [hK', List.getElem_cons_zero]
    have hsa := a.small (by omega)
    obtain ⟨q0, a1, a2, a3, _⟩ := co hR hf (j := 0) (by rw [hK.1]; decide)
    have hd := S5.filter (fun o => !(o.To == t))
    have := S5.2.2
    rw [if_neg (by omega), if_neg (by omega), if_neg (by omega), if_neg (by omega), if_neg (by omega), if_neg (by omega), oI k hk _ _ (by omega)]
    simp only [Option.bind_some]
    have hth : aM.f (fun y0 => cI.f y0 t) k n.Due = some (n.Due.filter fun o => !(o.To == t)) := jv k hk _ _ _ (by omega) (fun x hx => rfl)
    rw [hth]
    simp only [Option.bind_some]
    rw [af (by omega), a2]
    simp only [Option.bind_some]
    rw [af (by omega), af (by omega), Int.toNat_natCast, a3]
    simp only [Option.bind_some]
    have hl2 := jl k hk (au found n 0) ns i 40 (fo n (n.Due.filter fun o => !(o.To == t))) (by omega) (by omega) hd a.2.1 (fun o ho => by have := a.2.2.2 o ho; have h7 := hR.2.2.1; have hh := hK.2; show -100000 ≤ o.To + n.N ∧ o.To + n.N ≤ 200000; omega)
    simp only [fo] at hl2
    rw [hl2]
    simp only [Option.bind_some]
    rw [af (by omega), List.getElem?_set_self (by omega)]
    simp only [Option.bind_some, List.set_set]
    have hfd : aD g.Mode g.Seen t none found n = (⟨n.Kind, n.Sym, n.N, n.Kids, n.Pair, n.Span, wc t n.N n.Due (au found n 0), n.Many⟩, atM n.Due t) := by unfold aD; rw [if_neg (by omega), if_neg (by omega), if_neg (by omega), if_neg (by omega), if_neg (by omega), if_neg (by omega)]
    rw [hfd] at hsm
    show (if full = true then ah.l1 k g t N (ns.set i ⟨n.Kind, n.Sym, n.N, n.Kids, n.Pair, n.Span, _, IntKind.wrap .i64 (n.Many + ((atM n.Due t).length : Int))⟩) true _ _ else ah.l1 k g t N (ns.set i ⟨n.Kind, n.Sym, n.N, n.Kids, n.Pair, n.Span, _, IntKind.wrap .i64 (n.Many + ((atM n.Due t).length : Int))⟩) (decide (40 < IntKind.wrap .i64 (n.Many + ((atM n.Due t).length : Int)))) _ _) = _
    rw [W _ hsm]
    exact fin _ _ hfd rfl _ rfl
theorem wP (k : Nat) (hk : 1000000000000 ≤ k) (g : GGraph) (t : Int) (x : GEv) (N i : Nat) (ns : List GNode) (full : Bool) (found : List (List GOcc)) (n : GNode) (e : GEx) (es : List GEx) (hi : i < g.Nodes.length) (hg : g.Nodes.length ≤ 1000) (hl : ns.length = g.Nodes.length) (hn : ns[i]? = some n)
    (hx : eO e) (hR : iX es i n e) (hS : jf t n) (hf : found.length = i) (hF : gJ t es found) (hs : 0 ≤ g.Seen ∧ g.Seen ≤ 23) (ht : 0 ≤ t ∧ t ≤ 100000) :
    ai.l1 k g t x (N + 1) ns full found (i : Int) = ai.l1 k g t x N (ns.set i (d6 (aD g.Mode g.Seen t (some x.Sym) found n))) (full || decide (40 < (d6 (aD g.Mode g.Seen t (some x.Sym) found n)).Many)) (found ++ [(aD g.Mode g.Seen t (some x.Sym) found n).2]) ((i + 1 : Nat) : Int) := by
  have hout := p9 (mode := g.Mode) (seen := g.Seen) (ev := (some x.Sym)) hx hR hS hf hF hs
  have h12 := hx.2
  have hsm := hout.small h12
  obtain ⟨S1, S2, S3, S4, S5, m0, m1, T1, T2, T3, T4⟩ := hS
  have W : ∀ (q : Nat), q ≤ 30420000000 → IntKind.wrap .i64 (n.Many + (q : Int)) = n.Many + (q : Int) := fun q hq => wr _ (by omega)
  have fin : ∀ (m : GNode) (out : List GOcc), aD g.Mode g.Seen t (some x.Sym) found n = (m, out) → m.Many = n.Many → ∀ m' : GNode, m' = d6 (m, out) →
      (if full = true then ai.l1 k g t x N (ns.set i m') true (found ++ [out]) ((i + 1 : Nat) : Int) else ai.l1 k g t x N (ns.set i m') (decide (40 < n.Many + (out.length : Int))) (found ++ [out]) ((i + 1 : Nat) : Int)) =
      ai.l1 k g t x N (ns.set i (d6 (aD g.Mode g.Seen t (some x.Sym) found n))) (full || decide (40 < (d6 (aD g.Mode g.Seen t (some x.Sym) found n)).Many)) (found ++ [(aD g.Mode g.Seen t (some x.Sym) found n).2]) ((i + 1 : Nat) : Int) := by
    intro m out h hm m' hm'
    rw [h, hm']
    have : (d6 (m, out)).Many = n.Many + (out.length : Int) := by show m.Many + _ = _; rw [hm]
    rw [this]
    cases full
    · rw [if_neg (by decide), Bool.false_or]
    · rw [if_pos rfl, Bool.true_or]
  rw [ai.l1, if_pos (by omega), af (by omega), af (by omega), Int.toNat_natCast, hn]
  simp only [Option.bind_some]
  rw [wrS i (by omega)]
  rcases fP (dd hx.1).1 with ⟨hk', hK⟩ | ⟨hk', hK⟩ | ⟨hk', hK⟩ | ⟨hk', hK⟩ | ⟨hk', hK⟩ | ⟨hk', hK⟩ | ⟨hk', hK⟩ <;> rw [← hR.1] at hk'
  · rw [if_pos hk']
    by_cases hsym : x.Sym = n.Sym
    · rw [if_pos hsym, af (by omega)]
      have hfd : aD g.Mode g.Seen t (some x.Sym) found n = (n, [⟨t, t, [g.Seen]⟩]) := by unfold aD; rw [if_pos hk', if_pos (by rw [hsym])]
      rw [show IntKind.wrap .i64 (n.Many + ((1 : Nat) : Int)) = n.Many + (([⟨t, t, [g.Seen]⟩] : List GOcc).length : Int) from W 1 (by omega)]
      exact fin n _ hfd rfl _ rfl
    · rw [if_neg hsym, af (by omega)]
      have hfd : aD g.Mode g.Seen t (some x.Sym) found n = (n, []) := by unfold aD; rw [if_pos hk', if_neg (by simpa using hsym)]
      rw [show IntKind.wrap .i64 (n.Many + 0) = n.Many + (([] : List GOcc).length : Int) from W 0 (by omega)]
      exact fin n _ hfd rfl _ rfl
  · have a := bu hR hf hF (j := 0) (x := e.Kids[0]'(by omega)) (by simp)
    have b := bu hR hf hF (j := 1) (x := e.Kids[1]'(by omega)) (by simp)
    have hN : exN (e.Kids[0]'(by omega)) + exN (e.Kids[1]'(by omega)) + 1 = exN e := by obtain ⟨x, y, hK'⟩ := fp hK; rw [fu hK']; simp only [hK', List.getElem_cons_zero, List.getElem_cons_succ]
    have h2 := a.two b (by omega)
    rw [cl] at h2
    obtain ⟨q0, a1, a2, a3, _⟩ := co hR hf (j := 0) (by rw [hK]; decide)
    obtain ⟨q1, b1, b2, b3, _⟩ := co hR hf (j := 1) (by rw [hK]; decide)
    rw [if_neg (by omega), if_pos hk']
    rw [af (by omega), a2]
    simp only [Option.bind_some]
    rw [af (by omega), af (by omega), Int.toNat_natCast, a3]
    simp only [Option.bind_some]
    rw [af (by omega), b2]
    simp only [Option.bind_some]
    rw [af (by omega), af (by omega), Int.toNat_natCast, b3]
    simp only [Option.bind_some]
    rw [bS k hk _ _ (by omega) a.2.1.few b.2.1.few a.1]
    simp only [Option.bind_some]
    rw [af (by omega)]
    have hfd : aD g.Mode g.Seen t (some x.Sym) found n = (n, bV (au found n 0) (au found n 1)) := by unfold aD; rw [if_neg (by omega), if_pos hk']
    rw [hfd] at hsm
    rw [W _ hsm]
    exact fin n _ hfd rfl _ rfl
  · have a := bu hR hf hF (j := 0) (x := e.Kids[0]'(by omega)) (by simp)
    have b := bu hR hf hF (j := 1) (x := e.Kids[1]'(by omega)) (by simp)
    have hN : exN (e.Kids[0]'(by omega)) + exN (e.Kids[1]'(by omega)) + 1 = exN e := by obtain ⟨x, y, hK'⟩ := fp hK; rw [fu hK']; simp only [hK', List.getElem_cons_zero, List.getElem_cons_succ]
    have h2 := a.two b (by omega)
    rw [cl] at h2
    obtain ⟨q0, a1, a2, a3, _⟩ := co hR hf (j := 0) (by rw [hK]; decide)
    obtain ⟨q1, b1, b2, b3, _⟩ := co hR hf (j := 1) (by rw [hK]; decide)
    rw [if_neg (by omega), if_neg (by omega), if_pos hk']
    rw [af (by omega), a2]
    simp only [Option.bind_some]
    rw [af (by omega), af (by omega), Int.toNat_natCast, a3]
    simp only [Option.bind_some]
    rw [af (by omega), b2]
    simp only [Option.bind_some]
    rw [af (by omega), af (by omega), Int.toNat_natCast, b3]
    simp only [Option.bind_some]
    rw [tw k hk g.Mode n.Pair _ _ 40 40 (au found n 0).length (au found n 1).length S1 S2 a.2.1 b.2.1 (Nat.le_refl _) (Nat.le_refl _) (by rw [Nat.mul_add, Nat.mul_comm (au found n 1).length (au found n 0).length]; omega)]
    simp only [Option.bind_some]
    rw [af (by omega)]
    have hfd : aD g.Mode g.Seen t (some x.Sym) found n = (⟨n.Kind, n.Sym, n.N, n.Kids, ⟨(gE g.Mode n.Pair.Left n.Pair.Right (au found n 0) (au found n 1)).1, (gE g.Mode n.Pair.Left n.Pair.Right (au found n 0) (au found n 1)).2.1⟩, n.Span, n.Due, n.Many⟩, (gE g.Mode n.Pair.Left n.Pair.Right (au found n 0) (au found n 1)).2.2) := by unfold aD; rw [if_neg (by omega), if_neg (by omega), if_pos hk']
    rw [hfd] at hsm
    simp only [List.set_set]
    rw [W _ hsm]
    exact fin _ _ hfd rfl _ rfl
  · have a := bu hR hf hF (j := 0) (x := e.Kids[0]'(by omega)) (by simp)
    have b := bu hR hf hF (j := 1) (x := e.Kids[1]'(by omega)) (by simp)
    have hN : exN (e.Kids[0]'(by omega)) + exN (e.Kids[1]'(by omega)) + 1 = exN e := by obtain ⟨x, y, hK'⟩ := fp hK; rw [fu hK']; simp only [hK', List.getElem_cons_zero, List.getElem_cons_succ]
    have h2 := a.two b (by omega)
    rw [cl] at h2
    obtain ⟨q0, a1, a2, a3, _⟩ := co hR hf (j := 0) (by rw [hK]; decide)
    obtain ⟨q1, b1, b2, b3, _⟩ := co hR hf (j := 1) (by rw [hK]; decide)
    rw [if_neg (by omega), if_neg (by omega), if_neg (by omega), if_pos hk']
    rw [af (by omega), a2]
    simp only [Option.bind_some]
    rw [af (by omega), af (by omega), Int.toNat_natCast, a3]
    simp only [Option.bind_some]
    rw [af (by omega), b2]
    simp only [Option.bind_some]
    rw [af (by omega), af (by omega), Int.toNat_natCast, b3]
    simp only [Option.bind_some]
    rw [(qo k hk g.Mode n.Pair _ _ 40 (au found n 1).length (by omega) (by omega) (by omega) S1 a.2.1 b.2.1 (by omega) (Nat.le_refl _)).1]
    simp only [Option.bind_some]
    rw [af (by omega)]
    have hfd : aD g.Mode g.Seen t (some x.Sym) found n = (⟨n.Kind, n.Sym, n.N, n.Kids, ⟨(kr g.Mode n.Pair.Left (au found n 0) (au found n 1)).1, n.Pair.Right⟩, n.Span, n.Due, n.Many⟩, (kr g.Mode n.Pair.Left (au found n 0) (au found n 1)).2) := by unfold aD; rw [if_neg (by omega), if_neg (by omega), if_neg (by omega), if_pos hk']
    rw [hfd] at hsm
    simp only [List.set_set]
    rw [W _ hsm]
    exact fin _ _ hfd rfl _ rfl
  · have a := bu hR hf hF (j := 0) (x := e.Kids[0]'(by omega)) (by simp)
    have b := bu hR hf hF (j := 1) (x := e.Kids[1]'(by omega)) (by simp)
    have c := bu hR hf hF (j := 2) (x := e.Kids[2]'(by omega)) (by simp)
    have hN : exN (e.Kids[0]'(by omega)) + exN (e.Kids[1]'(by omega)) + exN (e.Kids[2]'(by omega)) + 1 = exN e := by obtain ⟨x, y, z, hK'⟩ := gK hK; rw [gL hK']; simp only [hK', List.getElem_cons_zero, List.getElem_cons_succ]
    have := d8 (e.Kids[1]'(by omega))
    have := d8 (e.Kids[2]'(by omega))
    have h2 := a.two c (by omega)
    have h3 := b.small (by omega)
    rw [cl] at h2
    obtain ⟨q0, a1, a2, a3, _⟩ := co hR hf (j := 0) (by rw [hK]; decide)
    obtain ⟨q1, b1, b2, b3, _⟩ := co hR hf (j := 1) (by rw [hK]; decide)
    obtain ⟨q2, c1, c2, c3, _⟩ := co hR hf (j := 2) (by rw [hK]; decide)
    rw [if_neg (by omega), if_neg (by omega), if_neg (by omega), if_neg (by omega), if_pos hk']
    rw [af (by omega), a2]
    simp only [Option.bind_some]
    rw [af (by omega), af (by omega), Int.toNat_natCast, a3]
    simp only [Option.bind_some]
    rw [af (by omega), b2]
    simp only [Option.bind_some]
    rw [af (by omega), af (by omega), Int.toNat_natCast, b3]
    simp only [Option.bind_some]
    rw [af (by omega), c2]
    simp only [Option.bind_some]
    rw [af (by omega), af (by omega), Int.toNat_natCast, c3]
    simp only [Option.bind_some]
    rw [(qb k hk g.Mode n.Span _ _ _ 40 (au found n 2).length (by omega) (by omega) (by omega) S3 S4 a.2.1 b.2.1 c.2.1 (by omega) (by omega) (Nat.le_refl _)).1]
    simp only [Option.bind_some]
    rw [af (by omega)]
    have hfd : aD g.Mode g.Seen t (some x.Sym) found n = (⟨n.Kind, n.Sym, n.N, n.Kids, n.Pair, ⟨(gF g.Mode n.Span.Left n.Span.Mid (au found n 0) (au found n 1) (au found n 2)).1, (gF g.Mode n.Span.Left n.Span.Mid (au found n 0) (au found n 1) (au found n 2)).2.1⟩, n.Due, n.Many⟩, (gF g.Mode n.Span.Left n.Span.Mid (au found n 0) (au found n 1) (au found n 2)).2.2) := by unfold aD; rw [if_neg (by omega), if_neg (by omega), if_neg (by omega), if_neg (by omega), if_pos hk']
    rw [hfd] at hsm
    simp only [List.set_set]
    rw [W _ hsm]
    exact fin _ _ hfd rfl _ rfl
  · have a := bu hR hf hF (j := 0) (x := e.Kids[0]'(by omega)) (by simp)
    have b := bu hR hf hF (j := 1) (x := e.Kids[1]'(by omega)) (by simp)
    have c := bu hR hf hF (j := 2) (x := e.Kids[2]'(by omega)) (by simp)
    have hN : exN (e.Kids[0]'(by omega)) + exN (e.Kids[1]'(by omega)) + exN (e.Kids[2]'(by omega)) + 1 = exN e := by obtain ⟨x, y, z, hK'⟩ := gK hK; rw [gL hK']; simp only [hK', List.getElem_cons_zero, List.getElem_cons_succ]
    have := d8 (e.Kids[1]'(by omega))
    have := d8 (e.Kids[2]'(by omega))
    have h2 := a.two b (by omega)
    have h3 := c.small (by omega)
    rw [cl] at h2
    obtain ⟨q0, a1, a2, a3, _⟩ := co hR hf (j := 0) (by rw [hK]; decide)
    obtain ⟨q1, b1, b2, b3, _⟩ := co hR hf (j := 1) (by rw [hK]; decide)
    obtain ⟨q2, c1, c2, c3, _⟩ := co hR hf (j := 2) (by rw [hK]; decide)
    rw [if_neg (by omega), if_neg (by omega), if_neg (by omega), if_neg (by omega), if_neg (by omega), if_pos hk']
    rw [af (by omega), a2]
    simp only [Option.bind_some]
    rw [af (by omega), af (by omega), Int.toNat_natCast, a3]
    simp only [Option.bind_some]
    rw [af (by omega), b2]
    simp only [Option.bind_some]
    rw [af (by omega), af (by omega), Int.toNat_natCast, b3]
    simp only [Option.bind_some]
    rw [af (by omega), c2]
    simp only [Option.bind_some]
    rw [af (by omega), af (by omega), Int.toNat_natCast, c3]
    simp only [Option.bind_some]
    rw [(n9 k hk g.Mode n.Span _ _ _ 40 (au found n 1).length (by omega) (by omega) (by omega) S3 S4 a.2.1 b.2.1 c.2.1 (by omega) (Nat.le_refl _) (by omega)).1]
    simp only [Option.bind_some]
    rw [af (by omega)]
    have hfd : aD g.Mode g.Seen t (some x.Sym) found n = (⟨n.Kind, n.Sym, n.N, n.Kids, n.Pair, ⟨(cW g.Mode n.Span.Left n.Span.Mid (au found n 0) (au found n 1) (au found n 2)).1, (cW g.Mode n.Span.Left n.Span.Mid (au found n 0) (au found n 1) (au found n 2)).2.1⟩, n.Due, n.Many⟩, (cW g.Mode n.Span.Left n.Span.Mid (au found n 0) (au found n 1) (au found n 2)).2.2) := by unfold aD; rw [if_neg (by omega), if_neg (by omega), if_neg (by omega), if_neg (by omega), if_neg (by omega), if_pos hk']
    rw [hfd] at hsm
    simp only [List.set_set]
    rw [W _ hsm]
    exact fin _ _ hfd rfl _ rfl
  · have a := bu hR hf hF (j := 0) (x := e.Kids[0]'(by omega)) (by simp)
    have hN : exN (e.Kids[0]'(by omega)) + 1 = exN e := by obtain ⟨x, hK'⟩ := pU hK.1; rw [qp hK']; simp only [hK', List.getElem_cons_zero]
    have hsa := a.small (by omega)
    obtain ⟨q0, a1, a2, a3, _⟩ := co hR hf (j := 0) (by rw [hK.1]; decide)
    have hd := S5.filter (fun o => !(o.To == t))
    have := S5.2.2
    rw [if_neg (by omega), if_neg (by omega), if_neg (by omega), if_neg (by omega), if_neg (by omega), if_neg (by omega), oI k hk _ _ (by omega)]
    simp only [Option.bind_some]
    have hth : aM.f (fun y0 => cI.f y0 t) k n.Due = some (n.Due.filter fun o => !(o.To == t)) := jv k hk _ _ _ (by omega) (fun x hx => rfl)
    rw [hth]
    simp only [Option.bind_some]
    rw [af (by omega), a2]
    simp only [Option.bind_some]
    rw [af (by omega), af (by omega), Int.toNat_natCast, a3]
    simp only [Option.bind_some]
    have hl2 := kL k hk (au found n 0) ns i 40 (fo n (n.Due.filter fun o => !(o.To == t))) (by omega) (by omega) hd a.2.1 (fun o ho => by have := a.2.2.2 o ho; have h7 := hR.2.2.1; have hh := hK.2; show -100000 ≤ o.To + n.N ∧ o.To + n.N ≤ 200000; omega)
    simp only [fo] at hl2
    rw [hl2]
    simp only [Option.bind_some]
    rw [af (by omega), List.getElem?_set_self (by omega)]
    simp only [Option.bind_some, List.set_set]
    have hfd : aD g.Mode g.Seen t (some x.Sym) found n = (⟨n.Kind, n.Sym, n.N, n.Kids, n.Pair, n.Span, wc t n.N n.Due (au found n 0), n.Many⟩, atM n.Due t) := by unfold aD; rw [if_neg (by omega), if_neg (by omega), if_neg (by omega), if_neg (by omega), if_neg (by omega), if_neg (by omega)]
    rw [hfd] at hsm
    show (if full = true then ai.l1 k g t x N (ns.set i ⟨n.Kind, n.Sym, n.N, n.Kids, n.Pair, n.Span, _, IntKind.wrap .i64 (n.Many + ((atM n.Due t).length : Int))⟩) true _ _ else ai.l1 k g t x N (ns.set i ⟨n.Kind, n.Sym, n.N, n.Kids, n.Pair, n.Span, _, IntKind.wrap .i64 (n.Many + ((atM n.Due t).length : Int))⟩) (decide (40 < IntKind.wrap .i64 (n.Many + ((atM n.Due t).length : Int)))) _ _) = _
    rw [W _ hsm]
    exact fin _ _ hfd rfl _ rfl
theorem u7 {mode seen t : Int} {ev : Option Int} {f g : List (List GOcc)} {n : GNode} (h0 : n.Kind = 1 ∨ au f n 0 = au g n 0) (h1 : n.Kind = 1 ∨ n.Kind = 7 ∨ au f n 1 = au g n 1) (h2 : (n.Kind ≠ 5 ∧ n.Kind ≠ 6) ∨ au f n 2 = au g n 2)
    (hk : 1 ≤ n.Kind ∧ n.Kind ≤ 7) : aD mode seen t ev f n = aD mode seen t ev g n := by
  unfold aD
  by_cases k1 : n.Kind = 1
  · rw [if_pos k1, if_pos k1]
  have e0 : au f n 0 = au g n 0 := h0.resolve_left k1
  rw [if_neg k1, if_neg k1, e0]
  by_cases k7 : n.Kind = 7
  · rw [if_neg (by omega), if_neg (by omega), if_neg (by omega), if_neg (by omega), if_neg (by omega), if_neg (by omega), if_neg (by omega), if_neg (by omega), if_neg (by omega), if_neg (by omega)]
  have e1 : au f n 1 = au g n 1 := (h1.resolve_left k1).resolve_left k7
  rw [e1]
  by_cases k5 : n.Kind = 5 ∨ n.Kind = 6
  · have e2 : au f n 2 = au g n 2 := h2.resolve_left (by omega)
    rw [e2]
  · rw [if_neg (show ¬ n.Kind = 5 by omega), if_neg (show ¬ n.Kind = 5 by omega), if_neg (show ¬ n.Kind = 6 by omega), if_neg (show ¬ n.Kind = 6 by omega)]
theorem wN {e : GEx} (hx : eO e) {n : GNode} {es : List GEx} {i : Nat} (hR : iX es i n e) : 1 ≤ n.Kind ∧ n.Kind ≤ 7 ∧ (n.Kind = 1 ∨ 0 < e.Kids.length) ∧ (n.Kind = 1 ∨ n.Kind = 7 ∨ 1 < e.Kids.length) ∧ ((n.Kind ≠ 5 ∧ n.Kind ≠ 6) ∨ 2 < e.Kids.length) := by
  rcases fP (dd hx.1).1 with ⟨hk, hl⟩ | ⟨hk, hl⟩ | ⟨hk, hl⟩ | ⟨hk, hl⟩ | ⟨hk, hl⟩ | ⟨hk, hl⟩ | ⟨hk, hl⟩ <;> rw [← hR.1] at hk <;> omega
theorem lw {es : List GEx} {i : Nat} {n : GNode} {e : GEx} {found : List (List GOcc)} (h : iX es i n e) (hi : i ≤ found.length) {j : Nat} (hj : j < e.Kids.length) : au (found.take i) n j = au found n j := by
  obtain ⟨q, h1, h2, h3⟩ := h.2.2.2.2 j hj
  unfold au
  have e0 : n.Kids.getD j 0 = (q : Int) := by rw [List.getD_eq_getElem?_getD, h2]; rfl
  rw [e0, Int.toNat_natCast]
  rw [List.getD_eq_getElem?_getD, List.getD_eq_getElem?_getD, List.getElem?_take_of_lt h1]
theorem u9 {mode seen t : Int} {ev : Option Int} {es : List GEx} {i : Nat} {n : GNode} {e : GEx} {found : List (List GOcc)} (hx : eO e) (h : iX es i n e) (hi : i ≤ found.length) : aD mode seen t ev (found.take i) n = aD mode seen t ev found n := by
  obtain ⟨a, b, c, d, f⟩ := wN hx h
  exact u7 (c.imp id fun q => lw h hi q) (d.imp id fun q => q.imp id fun q => lw h hi q) (f.imp id fun q => lw h hi q) ⟨a, b⟩
/-- the parts up to a place -/
def dY (mode seen t : Int) (ev : Option Int) (ns : List GNode) (i : Nat) : List GNode × List (List GOcc) := (ns.take i).foldl (fV mode seen t ev) ([], [])
theorem iI {mode seen t : Int} {ev : Option Int} {ns : List GNode} {i : Nat} (h : i < ns.length) : dY mode seen t ev ns (i + 1) = fV mode seen t ev (dY mode seen t ev ns i) ns[i] := by
  unfold dY
  rw [vJ ns i h, List.foldl_append]; rfl
theorem lv (mode seen t : Int) (ev : Option Int) (ns : List GNode) : dY mode seen t ev ns ns.length = aC mode seen t ev ns := by
  unfold dY aC; rw [List.take_length]
theorem gA {mode seen t : Int} {ev : Option Int} {ns : List GNode} : ∀ {i : Nat}, i ≤ ns.length → (dY mode seen t ev ns i).1.length = i ∧ (dY mode seen t ev ns i).2.length = i
  | 0, _ => by simp [dY]
  | i + 1, h => by
    have := gA (mode := mode) (seen := seen) (t := t) (ev := ev) (ns := ns) (i := i) (by omega)
    rw [iI (by omega)]
    simp [fV, this.1, this.2]
theorem qr {mode seen t : Int} {ev : Option Int} {ns : List GNode} (j : Nat) : ∀ (d : Nat), j + d ≤ ns.length → (dY mode seen t ev ns (j + d)).1.take j = (dY mode seen t ev ns j).1 ∧ (dY mode seen t ev ns (j + d)).2.take j = (dY mode seen t ev ns j).2
  | 0, h => by
    have := gA (mode := mode) (seen := seen) (t := t) (ev := ev) (ns := ns) (i := j) (by omega)
    exact ⟨List.take_of_length_le (by rw [Nat.add_zero]; omega), List.take_of_length_le (by rw [Nat.add_zero]; omega)⟩
  | d + 1, h => by
    have ih := qr (mode := mode) (seen := seen) (t := t) (ev := ev) (ns := ns) j d (by omega)
    have hl := gA (mode := mode) (seen := seen) (t := t) (ev := ev) (ns := ns) (i := j + d) (by omega)
    rw [show j + (d + 1) = j + d + 1 by omega, iI (by omega)]
    simp only [fV]
    rw [List.take_append_of_le_length (by omega), List.take_append_of_le_length (by omega)]
    exact ih
theorem rN {mode seen t : Int} {ev : Option Int} {ns : List GNode} {j : Nat} (h : j ≤ ns.length) : (aC mode seen t ev ns).1.take j = (dY mode seen t ev ns j).1 ∧ (aC mode seen t ev ns).2.take j = (dY mode seen t ev ns j).2 := by
  have := qr (mode := mode) (seen := seen) (t := t) (ev := ev) (ns := ns) j (ns.length - j) (by omega)
  rw [show j + (ns.length - j) = ns.length by omega, lv] at this
  exact this
theorem fC (mode seen t : Int) (ev : Option Int) (ns : List GNode) : (aC mode seen t ev ns).1.length = ns.length ∧ (aC mode seen t ev ns).2.length = ns.length := by
  rw [← lv]; exact gA (Nat.le_refl _)
/-- every part, out of all that was found -/
theorem jZ {mode seen t : Int} {ev : Option Int} {es : List GEx} {ns : List GNode} (hR : Rep es ns) {i : Nat} {n : GNode} (hn : ns[i]? = some n) :
    (aC mode seen t ev ns).1[i]? = some (d6 (aD mode seen t ev (aC mode seen t ev ns).2 n)) ∧ (aC mode seen t ev ns).2[i]? = some (aD mode seen t ev (aC mode seen t ev ns).2 n).2 := by
  have hlt : i < ns.length := (List.getElem?_eq_some_iff.1 hn).1
  have hni : ns[i] = n := (List.getElem?_eq_some_iff.1 hn).2
  obtain ⟨e, he, hx, hr⟩ := hR.2 i n hn
  have p1 := rN (mode := mode) (seen := seen) (t := t) (ev := ev) (ns := ns) (j := i + 1) (by omega)
  have p0 := rN (mode := mode) (seen := seen) (t := t) (ev := ev) (ns := ns) (j := i) (by omega)
  have hl := gA (mode := mode) (seen := seen) (t := t) (ev := ev) (ns := ns) (i := i) (by omega)
  have pl := fC mode seen t ev ns
  have hf : aD mode seen t ev (dY mode seen t ev ns i).2 n = aD mode seen t ev (aC mode seen t ev ns).2 n := by
    rw [← p0.2]; exact u9 hx hr (by omega)
  rw [iI hlt] at p1
  simp only [fV] at p1
  rw [hni, hf] at p1
  constructor
  · have := congrArg (fun l => l[i]?) p1.1
    simp only [List.getElem?_take_of_lt (Nat.lt_succ_self i)] at this
    rw [this, List.getElem?_append_right (by omega), hl.1, Nat.sub_self]; rfl
  · have := congrArg (fun l => l[i]?) p1.2
    simp only [List.getElem?_take_of_lt (Nat.lt_succ_self i)] at this
    rw [this, List.getElem?_append_right (by omega), hl.2, Nat.sub_self]; rfl
/-- what holds of all parts ahead of a point in time -/
def j6 (t : Int) (es : List GEx) (ns : List GNode) : Prop := Rep es ns ∧ ns.length ≤ 12 ∧ ∀ n ∈ ns, jf t n
theorem lq {mode seen t : Int} {ev : Option Int} {es : List GEx} {ns : List GNode} (hR : j6 t es ns) (hs : 0 ≤ seen ∧ seen ≤ 23) : ∀ {i : Nat}, i ≤ ns.length → gJ t es (dY mode seen t ev ns i).2
  | 0, _ => fun j l h => by simp [dY] at h
  | i + 1, h => by
    have ih := lq (mode := mode) (ev := ev) hR hs (i := i) (by omega)
    have hl := gA (mode := mode) (seen := seen) (t := t) (ev := ev) (ns := ns) (i := i) (by omega)
    rw [iI (by omega)]
    obtain ⟨e, he, hx, hr⟩ := hR.1.2 i ns[i] (List.getElem?_eq_getElem (by omega))
    intro j l hj
    simp only [fV] at hj
    rcases Nat.lt_or_ge j i with h1 | h1
    · rw [List.getElem?_append_left (by omega)] at hj
      exact ih j l hj
    · rw [List.getElem?_append_right (by omega)] at hj
      have : j = i := by
        have := (List.getElem?_eq_some_iff.1 hj).1
        simp at this; omega
      subst this
      rw [hl.2, Nat.sub_self, List.getElem?_cons_zero] at hj
      cases hj
      exact ⟨e, he, p9 hx hr (hR.2.2 _ (List.getElem_mem _)) hl.2 ih hs⟩
theorem nD {mode seen t : Int} {ev : Option Int} {es : List GEx} {ns : List GNode} (hR : j6 t es ns) (hs : 0 ≤ seen ∧ seen ≤ 23) : gJ t es (aC mode seen t ev ns).2 := by
  rw [← lv]; exact lq hR hs (Nat.le_refl _)
def fY (l : List GOcc) : Prop := Asc l ∧ Ids l
theorem fY.ok {l : List GOcc} (h : fY l) : Ok l.length l := ⟨h.1, h.2, Nat.le_refl _⟩
theorem Ok.tidy {m : Nat} {l : List GOcc} (h : Ok m l) : fY l := ⟨h.1, h.2.1⟩
theorem ov {mode : Int} {p : GOcc → GOcc → Bool} : ∀ (r : List GOcc) (s : List GOcc × List GOcc), (r.foldl (eI mode p) s).1.length ≤ s.1.length
  | [], _ => Nat.le_refl _
  | o :: r, s => by
    rw [List.foldl_cons]
    exact Nat.le_trans (ov r _) (List.length_filter_le _ _)
theorem mw {mode : Int} {p : GOcc → GOcc → Bool} : ∀ (r : List GOcc) (s : List GOcc × List GOcc), fY s.1 → fY (r.foldl (eI mode p) s).1
  | [], _, h => h
  | o :: r, s, h => by
    rw [List.foldl_cons]
    exact mw r _ (Ok.tidy ((h.ok).rem (gone := _)))
theorem fY.merge {l m : List GOcc} (h : fY l) (hm : fY m) : fY (bV l m) := ⟨dN h.1, eY h.2 hm.2⟩
theorem FO.tidy {t : Int} {s : Nat} {l : List GOcc} (h : FO t s l) : fY l := ⟨h.1, h.2.1⟩
theorem uP {n t : Int} (hn : 1 ≤ n ∧ n ≤ 20) : ∀ (kid acc : List GOcc), (∀ o ∈ kid, o.To = t) → (∀ o ∈ acc, t < o.To ∧ o.To ≤ t + 20) → ∀ o ∈ kid.foldl (fun s o => cd s (kc n o)) acc, t < o.To ∧ o.To ≤ t + 20
  | [], _, _, h => h
  | x :: kid, acc, hk, h => by
    rw [List.foldl_cons]
    refine uP hn kid _ (fun o ho => hk o (by simp [ho])) (fun o ho => ?_)
    rcases dU.1 ho with h1 | rfl
    · exact h o h1
    · have := hk x (by simp); show t < x.To + n ∧ x.To + n ≤ t + 20; omega
/-- how much a part's own lists may grow by its j-th operand -/
def kl (e : GEx) (found : List (List GOcc)) (n : GNode) (j : Nat) : Nat := if j < e.Kids.length then (au found n j).length else 0
def uC (t : Int) (n : GNode) : Prop := (fY n.Pair.Left ∧ fY n.Pair.Right ∧ fY n.Span.Left ∧ fY n.Span.Mid ∧ fY n.Due) ∧
  All (fun o => o.To ≤ t) n.Pair.Left ∧ All (fun o => o.To ≤ t) n.Pair.Right ∧ All (fun o => o.To ≤ t) n.Span.Left ∧ All (fun o => o.To ≤ t) n.Span.Mid
def wB (e : GEx) (found : List (List GOcc)) (n r : GNode) : Prop := r.Pair.Left.length ≤ n.Pair.Left.length + kl e found n 0 ∧ r.Pair.Right.length ≤ n.Pair.Right.length + kl e found n 1 ∧
  r.Span.Left.length ≤ n.Span.Left.length + kl e found n 0 ∧ r.Span.Mid.length ≤ n.Span.Mid.length + (if n.Kind = 5 then kl e found n 1 else kl e found n 2) ∧ r.Due.length ≤ n.Due.length + kl e found n 0
def vt (n r : GNode) : Prop := r.Kind = n.Kind ∧ r.Sym = n.Sym ∧ r.N = n.N ∧ r.Kids = n.Kids ∧ r.Many = n.Many
theorem gX {mode seen t : Int} {ev : Option Int} {found : List (List GOcc)} {n : GNode} : vt n (aD mode seen t ev found n).1 := by
  unfold aD vt
  repeat' split
  all_goals exact ⟨rfl, rfl, rfl, rfl, rfl⟩
theorem uV {t seen mode : Int} {ev : Option Int} {es : List GEx} {i : Nat} {n : GNode} {e : GEx} {found : List (List GOcc)} (hx : eO e) (hR : iX es i n e) (hS : jf t n) (hi : i ≤ found.length) (hF : gJ t es (found.take i))
    (hd : ∀ o ∈ n.Due, t ≤ o.To ∧ o.To ≤ t + 20) :
    uC t (aD mode seen t ev found n).1 ∧ wB e found n (aD mode seen t ev found n).1 ∧ ∀ o ∈ (aD mode seen t ev found n).1.Due, (t < o.To ∨ ((aD mode seen t ev found n).1.Due = n.Due ∧ n.Kind ≠ 7)) ∧ o.To ≤ t + 20 := by
  obtain ⟨S1, S2, S3, S4, S5, _, _, T1, T2, T3, T4⟩ := hS
  have h12 := hx.2
  have hl' : (found.take i).length = i := by rw [List.length_take]; omega
  have base : uC t n := ⟨⟨S1.tidy, S2.tidy, S3.tidy, S4.tidy, S5.tidy⟩, T1, T2, T3, T4⟩
  have gr : wB e found n n := ⟨by omega, by omega, by omega, by omega, by omega⟩
  have du : n.Kind ≠ 7 → ∀ o ∈ n.Due, (t < o.To ∨ (n.Due = n.Due ∧ n.Kind ≠ 7)) ∧ o.To ≤ t + 20 := fun h7 o ho => ⟨.inr ⟨rfl, h7⟩, (hd o ho).2⟩
  have KF : ∀ j (h : j < e.Kids.length), FO t (exN e.Kids[j]) (au found n j) := fun j h => by
    have := bu hR hl' hF (j := j) (x := e.Kids[j]) (by simp)
    rwa [lw hR hi h] at this
  unfold aD
  rcases fP (dd hx.1).1 with ⟨hk, hl⟩ | ⟨hk, hl⟩ | ⟨hk, hl⟩ | ⟨hk, hl⟩ | ⟨hk, hl⟩ | ⟨hk, hl⟩ | ⟨hk, hl⟩ <;> rw [← hR.1] at hk
  · rw [if_pos hk]; exact ⟨base, gr, du (by omega)⟩
  · rw [if_neg (by omega), if_pos hk]; exact ⟨base, gr, du (by omega)⟩
  · have a := KF 0 (by omega)
    have b := KF 1 (by omega)
    have hN : exN (e.Kids[0]'(by omega)) + exN (e.Kids[1]'(by omega)) + 1 = exN e := by obtain ⟨x, y, hK'⟩ := fp hl; rw [fu hK']; simp only [hK', List.getElem_cons_zero, List.getElem_cons_succ]
    have A := tu (mode := mode) (S1.tidy.ok) (S2.tidy.ok) a.2.1 b.2.1 (Nat.le_refl _) (Nat.le_refl _)
    have B := vC (mode := mode) T1 T2 a.2.2.2 b.2.2.2
    have k0 : kl e found n 0 = (au found n 0).length := if_pos (by omega)
    have k1 : kl e found n 1 = (au found n 1).length := if_pos (by omega)
    rw [if_neg (by omega), if_neg (by omega), if_pos hk]
    refine ⟨⟨⟨A.1.tidy, A.2.1.tidy, S3.tidy, S4.tidy, S5.tidy⟩, B.1, B.2.1, T3, T4⟩, ⟨?_, ?_, gr.2.2.1, gr.2.2.2.1, gr.2.2.2.2⟩, du (by omega)⟩
    · rw [k0]; exact A.1.2.2
    · rw [k1]; exact A.2.1.2.2
  · have a := KF 0 (by omega)
    have b := KF 1 (by omega)
    have k0 : kl e found n 0 = (au found n 0).length := if_pos (by omega)
    have B := kS (mode := mode) (p := before) (au found n 1) (n.Pair.Left, []) b.2.2.2 T1 (by simp)
    have C := mw (mode := mode) (p := before) (au found n 1) (n.Pair.Left, []) S1.tidy
    rw [if_neg (by omega), if_neg (by omega), if_neg (by omega), if_pos hk]
    refine ⟨⟨⟨C.merge a.tidy, S2.tidy, S3.tidy, S4.tidy, S5.tidy⟩, jN B.1 (fun o ho => by rw [a.2.2.2 o ho]; omega), T2, T3, T4⟩, ⟨?_, gr.2.1, gr.2.2.1, gr.2.2.2.1, gr.2.2.2.2⟩, du (by omega)⟩
    rw [k0]
    exact Nat.le_trans (bW _ _) (Nat.add_le_add_right (ov _ _) _)
  · have a := KF 0 (by omega)
    have b := KF 1 (by omega)
    have c := KF 2 (by omega)
    have k0 : kl e found n 0 = (au found n 0).length := if_pos (by omega)
    have k1 : kl e found n 1 = (au found n 1).length := if_pos (by omega)
    have B := kS (mode := mode) (p := ek n.Span.Mid) (au found n 2) (n.Span.Left, []) c.2.2.2 T3 (by simp)
    have C := mw (mode := mode) (p := ek n.Span.Mid) (au found n 2) (n.Span.Left, []) S3.tidy
    rw [if_neg (by omega), if_neg (by omega), if_neg (by omega), if_neg (by omega), if_pos hk]
    refine ⟨⟨⟨S1.tidy, S2.tidy, C.merge a.tidy, S4.tidy.merge b.tidy, S5.tidy⟩, T1, T2, jN B.1 (fun o ho => by rw [a.2.2.2 o ho]; omega), jN T4 (fun o ho => by rw [b.2.2.2 o ho]; omega)⟩, ⟨gr.1, gr.2.1, ?_, ?_, gr.2.2.2.2⟩, du (by omega)⟩
    · rw [k0]; exact Nat.le_trans (bW _ _) (Nat.add_le_add_right (ov _ _) _)
    · rw [if_pos hk, k1]; exact bW _ _
  · have a := KF 0 (by omega)
    have c := KF 2 (by omega)
    have k0 : kl e found n 0 = (au found n 0).length := if_pos (by omega)
    have k2 : kl e found n 2 = (au found n 2).length := if_pos (by omega)
    rw [if_neg (by omega), if_neg (by omega), if_neg (by omega), if_neg (by omega), if_neg (by omega), if_pos hk]
    refine ⟨⟨⟨S1.tidy, S2.tidy, S3.tidy.merge a.tidy, S4.tidy.merge c.tidy, S5.tidy⟩, T1, T2, jN T3 (fun o ho => by rw [a.2.2.2 o ho]; omega), jN T4 (fun o ho => by rw [c.2.2.2 o ho]; omega)⟩, ⟨gr.1, gr.2.1, ?_, ?_, gr.2.2.2.2⟩, du (by omega)⟩
    · rw [k0]; exact bW _ _
    · rw [if_neg (by omega), k2]; exact bW _ _
  · have a := KF 0 (by omega)
    have k0 : kl e found n 0 = (au found n 0).length := if_pos (by omega)
    have hN := hR.2.2.1
    rw [if_neg (by omega), if_neg (by omega), if_neg (by omega), if_neg (by omega), if_neg (by omega), if_neg (by omega)]
    have D := u6 (n := n.N) (au found n 0) _ n.Due.length ((S5.tidy.ok).filter (fun o => !(o.To == t))) a.2.1
    have E := uP (n := n.N) (t := t) (by omega) (au found n 0) (n.Due.filter fun o => !(o.To == t)) a.2.2.2 (fun o ho => by
      obtain ⟨h1, h2⟩ := List.mem_filter.1 ho
      have := hd o h1
      simp only [Bool.not_eq_true', beq_eq_false_iff_ne, ne_eq] at h2
      omega)
    refine ⟨⟨⟨S1.tidy, S2.tidy, S3.tidy, S4.tidy, D.tidy⟩, T1, T2, T3, T4⟩, ⟨gr.1, gr.2.1, gr.2.2.1, gr.2.2.2.1, ?_⟩, fun o ho => ⟨.inl (E o ho).1, (E o ho).2⟩⟩
    rw [k0]; exact D.2.2
def fy (ns : List GNode) (n : GNode) (j : Nat) : Int := ((ns[(n.Kids.getD j 0).toNat]?).map (·.Many)).getD 0
def wQ (T : Int) (ns : List GNode) (n : GNode) : Prop := uC T n ∧ (0 ≤ n.Many ∧ n.Many ≤ 40) ∧ (n.Kind ≠ 7 → n.Due = []) ∧ (∀ o ∈ n.Due, T < o.To ∧ o.To ≤ T + 20) ∧
  ((n.Pair.Left.length : Int) ≤ fy ns n 0 ∧ (n.Pair.Right.length : Int) ≤ fy ns n 1 ∧ (n.Span.Left.length : Int) ≤ fy ns n 0 ∧ (n.Span.Mid.length : Int) ≤ (if n.Kind = 5 then fy ns n 1 else fy ns n 2) ∧ (n.Due.length : Int) ≤ fy ns n 0)
def gD (T : Int) (es : List GEx) (ns : List GNode) : Prop := Rep es ns ∧ (1 ≤ ns.length ∧ ns.length ≤ 12) ∧ ∀ n ∈ ns, wQ T ns n
theorem lp {T : Int} {es : List GEx} {ns : List GNode} (h : gD T es ns) (n : GNode) (j : Nat) : 0 ≤ fy ns n j ∧ fy ns n j ≤ 40 := by
  unfold fy
  cases hq : ns[(n.Kids.getD j 0).toNat]? with
  | none => simp
  | some m =>
    have := (h.2.2 m (List.mem_of_getElem? hq)).2.1
    simpa using this
theorem All.weak {Q R : GOcc → Prop} {l : List GOcc} (h : All Q l) (f : ∀ o, Q o → R o) : All R l := fun o ho => f o (h o ho)
theorem gD.ready {T t : Int} {es : List GEx} {ns : List GNode} (h : gD T es ns) (ht : T ≤ t) : j6 t es ns := by
  refine ⟨h.1, h.2.1.2, fun n hn => ?_⟩
  obtain ⟨⟨⟨g1, g2, g3, g4, g5⟩, t1, t2, t3, t4⟩, hm, _, _, l1, l2, l3, l4, l5⟩ := h.2.2 n hn
  have q0 := lp h n 0
  have q1 := lp h n 1
  have q2 := lp h n 2
  refine ⟨g1.ok.mono (by omega), g2.ok.mono (by omega), g3.ok.mono (by omega), g4.ok.mono (by split at l4 <;> omega), g5.ok.mono (by omega), hm.1, hm.2, ?_⟩
  exact ⟨t1.weak fun o ho => Int.le_trans ho ht, t2.weak fun o ho => Int.le_trans ho ht, t3.weak fun o ho => Int.le_trans ho ht, t4.weak fun o ho => Int.le_trans ho ht⟩
theorem sx {ns : List GNode} (h : cL ns = false) : ∀ n ∈ ns, n.Many ≤ 40 := fun n hn => by
  unfold cL at h
  rw [List.any_eq_false] at h
  have := h n hn
  simpa using this
theorem ug {mode seen t : Int} {ev : Option Int} {es : List GEx} {ns : List GNode} (hR : Rep es ns) {i : Nat} {n r : GNode} {e : GEx} (hn : ns[i]? = some n) (hr : iX es i n e) (hk : r.Kids = n.Kids) (j : Nat) :
    fy ns n j + (kl e (aC mode seen t ev ns).2 n j : Nat) ≤ fy (aC mode seen t ev ns).1 r j := by
  have hlt : i < ns.length := (List.getElem?_eq_some_iff.1 hn).1
  unfold fy
  rw [hk]
  cases hq : ns[(n.Kids.getD j 0).toNat]? with
  | some m =>
    obtain ⟨p1, p2⟩ := jZ (mode := mode) (seen := seen) (t := t) (ev := ev) hR hq
    rw [p1]
    simp only [Option.map_some, Option.getD_some]
    have km := (gX (mode := mode) (seen := seen) (t := t) (ev := ev) (found := (aC mode seen t ev ns).2) (n := m)).2.2.2.2
    show m.Many + _ ≤ (aD mode seen t ev _ m).1.Many + _
    rw [km]
    unfold kl
    split
    · rename_i hj
      have : au (aC mode seen t ev ns).2 n j = (aD mode seen t ev (aC mode seen t ev ns).2 m).2 := by
        unfold au
        rw [List.getD_eq_getElem?_getD, p2]; rfl
      rw [this]; exact Int.le_refl _
    · omega
  | none =>
    have pl := fC mode seen t ev ns
    have hge : ns.length ≤ (n.Kids.getD j 0).toNat := List.getElem?_eq_none_iff.1 hq
    rw [List.getElem?_eq_none (by omega)]
    simp only [Option.map_none, Option.getD_none]
    unfold kl
    split
    · rename_i hj
      obtain ⟨q, h1, h2, _⟩ := hr.2.2.2.2 j hj
      have : n.Kids.getD j 0 = (q : Int) := by rw [List.getD_eq_getElem?_getD, h2]; rfl
      rw [this] at hge
      omega
    · omega
/-- one more point in time, nothing due before it -/
theorem mi {T t : Int} {mode seen : Int} {ev : Option Int} {es : List GEx} {ns : List GNode} (h : gD T es ns) (ht : T ≤ t) (hd : ∀ n ∈ ns, ∀ o ∈ n.Due, t ≤ o.To) (hs : 0 ≤ seen ∧ seen ≤ 23) (hfull : cL (aC mode seen t ev ns).1 = false) :
    gD t es (aC mode seen t ev ns).1 := by
  have hR := h.ready ht
  have pl := fC mode seen t ev ns
  have pf := nD (mode := mode) (ev := ev) hR hs
  refine ⟨⟨by rw [pl.1]; exact h.1.1, fun i r hr => ?_⟩, by rw [pl.1]; exact h.2.1, fun r hr => ?_⟩
  · have hi : i < ns.length := by have := (List.getElem?_eq_some_iff.1 hr).1; omega
    obtain ⟨e, he, hx, hn⟩ := h.1.2 i ns[i] (List.getElem?_eq_getElem hi)
    rw [(jZ h.1 (List.getElem?_eq_getElem hi)).1] at hr
    cases hr
    obtain ⟨k1, k2, k3, k4, _⟩ := gX (mode := mode) (seen := seen) (t := t) (ev := ev) (found := (aC mode seen t ev ns).2) (n := ns[i])
    refine ⟨e, he, hx, k1.trans hn.1, k2.trans hn.2.1, k3.trans hn.2.2.1, ?_, ?_⟩
    · show ((aD mode seen t ev (aC mode seen t ev ns).2 ns[i]).1).Kids.length = _; rw [k4]; exact hn.2.2.2.1
    · show ∀ j, j < e.Kids.length → ∃ q : Nat, q < i ∧ ((aD mode seen t ev (aC mode seen t ev ns).2 ns[i]).1).Kids[j]? = some (q : Int) ∧ es[q]? = e.Kids[j]?; rw [k4]; exact hn.2.2.2.2
  · obtain ⟨i, hi, hri⟩ := List.mem_iff_getElem.1 hr
    have hi' : i < ns.length := by omega
    obtain ⟨e, he, hx, hn⟩ := h.1.2 i ns[i] (List.getElem?_eq_getElem hi')
    have hm : ns[i] ∈ ns := List.getElem_mem hi'
    have pg := (jZ (mode := mode) (seen := seen) (t := t) (ev := ev) h.1 (List.getElem?_eq_getElem hi')).1
    rw [List.getElem?_eq_getElem hi] at pg
    have pg := (Option.some.inj pg).symm.trans hri
    have hno := sx hfull r hr
    obtain ⟨hl, hmany, hdue, hdt, l1, l2, l3, l4, l5⟩ := h.2.2 _ hm
    obtain ⟨k1, k2, k3, k4, k5⟩ := gX (mode := mode) (seen := seen) (t := t) (ev := ev) (found := (aC mode seen t ev ns).2) (n := ns[i])
    obtain ⟨a, b, c⟩ := uV (mode := mode) (seen := seen) (ev := ev) (found := (aC mode seen t ev ns).2) hx hn (hR.2.2 _ hm) (by omega) (fun j l hj => pf j l (by rcases Nat.lt_or_ge j i with h1 | h1; rwa [List.getElem?_take_of_lt h1] at hj; rw [List.getElem?_take_eq_none h1] at hj; cases hj))
      (fun o ho => ⟨hd _ hm o ho, by have := (hdt o ho).2; omega⟩)
    have K := fun j => ug (mode := mode) (seen := seen) (t := t) (ev := ev) (r := r) h.1 (List.getElem?_eq_getElem hi') hn (by rw [← pg]; exact k4) j
    have K0 := K 0
    have K1 := K 1
    have K2 := K 2
    have hk : r.Kind = ns[i].Kind := by rw [← pg]; exact k1
    have hdu : ns[i].Kind ≠ 7 → (aD mode seen t ev (aC mode seen t ev ns).2 ns[i]).1.Due = [] := fun h7 => by
      cases hc : (aD mode seen t ev (aC mode seen t ev ns).2 ns[i]).1.Due with
      | nil => rfl
      | cons o l =>
        exfalso
        have e0 : ns[i].Due = [] := hdue h7
        have g5 := b.2.2.2.2
        obtain ⟨a2, b2, c2, d2, e2⟩ := wN hx hn
        have hcc : (aD mode seen t ev (aC mode seen t ev ns).2 ns[i]).1.Due = ns[i].Due := by
          unfold aD
          repeat' split
          all_goals first | rfl | omega
        rw [hcc, e0] at hc; cases hc
    refine ⟨?_, ⟨?_, hno⟩, ?_, ?_, ?_⟩
    · rw [← pg]; exact a
    · rw [← pg]; show 0 ≤ (aD mode seen t ev _ ns[i]).1.Many + _; rw [k5]; omega
    · intro h7; rw [hk] at h7; rw [← pg]; exact hdu h7
    · rw [← pg]
      intro o ho
      have := c o ho
      refine ⟨this.1.elim id fun q => ?_, this.2⟩
      have hz : o ∈ (aD mode seen t ev (aC mode seen t ev ns).2 ns[i]).1.Due := ho
      rw [hdu q.2] at hz; simp at hz
    · have e1 : r.Pair = (aD mode seen t ev (aC mode seen t ev ns).2 ns[i]).1.Pair := by rw [← pg]; rfl
      have e2 : r.Span = (aD mode seen t ev (aC mode seen t ev ns).2 ns[i]).1.Span := by rw [← pg]; rfl
      have e3 : r.Due = (aD mode seen t ev (aC mode seen t ev ns).2 ns[i]).1.Due := by rw [← pg]; rfl
      obtain ⟨b1, b2, b3, b4, b5⟩ := b
      rw [e1, e2, e3, hk]
      refine ⟨by omega, by omega, by omega, ?_, by omega⟩
      split at l4
      · rename_i h5; rw [if_pos h5] at b4 ⊢; omega
      · rename_i h5; rw [if_neg h5] at b4 ⊢; omega
def eK (t : Int) (l : List GOcc) : Int := l.foldl (fun t o => if o.To < t then o.To else t) t
/-- the first time before another one at which something is due, or that one -/
def ce (ns : List GNode) (before : Int) : Int := ns.foldl (fun t n => eK t n.Due) before
theorem sK : ∀ (l : List GOcc) (t : Int), eK t l ≤ t ∧ ∀ o ∈ l, eK t l ≤ o.To
  | [], t => ⟨Int.le_refl _, fun o h => by simp at h⟩
  | x :: l, t => by
    have ih := sK l (if x.To < t then x.To else t)
    show eK (if x.To < t then x.To else t) l ≤ t ∧ ∀ o ∈ x :: l, eK (if x.To < t then x.To else t) l ≤ o.To
    refine ⟨Int.le_trans ih.1 (by split <;> omega), fun o ho => ?_⟩
    rcases List.mem_cons.1 ho with rfl | ho
    · exact Int.le_trans ih.1 (by split <;> omega)
    · exact ih.2 o ho
theorem sJ : ∀ (l : List GOcc) (t : Int), eK t l = t ∨ ∃ o ∈ l, eK t l = o.To
  | [], t => .inl rfl
  | x :: l, t => by
    show eK (if x.To < t then x.To else t) l = t ∨ ∃ o ∈ x :: l, eK (if x.To < t then x.To else t) l = o.To
    rcases sJ l (if x.To < t then x.To else t) with h | ⟨o, h1, h2⟩
    · split at h
      · rename_i hx; rw [if_pos hx]; exact .inr ⟨x, by simp, h⟩
      · rename_i hx; rw [if_neg hx]; exact .inl h
    · exact .inr ⟨o, by simp [h1], h2⟩
theorem oj : ∀ (ns : List GNode) (b : Int), ce ns b ≤ b ∧ ∀ n ∈ ns, ∀ o ∈ n.Due, ce ns b ≤ o.To
  | [], b => ⟨Int.le_refl _, fun n h => by simp at h⟩
  | x :: ns, b => by
    have ih := oj ns (eK b x.Due)
    have m := sK x.Due b
    refine ⟨Int.le_trans ih.1 m.1, fun n hn o ho => ?_⟩
    rcases List.mem_cons.1 hn with rfl | hn
    · exact Int.le_trans ih.1 (m.2 o ho)
    · exact ih.2 n hn o ho
theorem oq : ∀ (ns : List GNode) (b : Int), ce ns b = b ∨ ∃ n ∈ ns, ∃ o ∈ n.Due, ce ns b = o.To
  | [], b => .inl rfl
  | x :: ns, b => by
    show ce ns (eK b x.Due) = b ∨ ∃ n ∈ x :: ns, ∃ o ∈ n.Due, ce ns (eK b x.Due) = o.To
    rcases oq ns (eK b x.Due) with h | ⟨n, h1, o, h2, h3⟩
    · rcases sJ x.Due b with q | ⟨o, q1, q2⟩
      · exact .inl (h.trans q)
      · exact .inr ⟨x, by simp, o, q1, h.trans q2⟩
    · exact .inr ⟨n, by simp [h1], o, h2, h3⟩
def fS (found : List (List GOcc)) : List GOcc := found.getLast?.getD []
def bZ (mode seen before : Int) : Nat → List GNode → List GOcc → List GNode × Bool × List GOcc
  | 0, ns, out => (ns, false, out)
  | f + 1, ns, out => if ce ns before < before then
      (if cL (aC mode seen (ce ns before) none ns).1 = true then ((aC mode seen (ce ns before) none ns).1, true, out ++ fS (aC mode seen (ce ns before) none ns).2)
       else bZ mode seen before f (aC mode seen (ce ns before) none ns).1 (out ++ fS (aC mode seen (ce ns before) none ns).2))
    else (ns, false, out)
/-- an event: nothing, if there is too much -/
def gq (mode seen : Int) (ns : List GNode) (e : GEv) : Option (List GNode × List GOcc) :=
  if (bZ mode seen e.At 1001 ns []).2.1 = true then none
  else if cL (aC mode seen e.At (some e.Sym) (bZ mode seen e.At 1001 ns []).1).1 = true then none
  else some ((aC mode seen e.At (some e.Sym) (bZ mode seen e.At 1001 ns []).1).1, (bZ mode seen e.At 1001 ns []).2.2 ++ fS (aC mode seen e.At (some e.Sym) (bZ mode seen e.At 1001 ns []).1).2)
theorem sm {found : List (List GOcc)} (h : 1 ≤ found.length) : found[found.length - 1]? = some (fS found) := by
  unfold fS
  rw [List.getLast?_eq_getElem?, List.getElem?_eq_getElem (by omega)]; rfl
theorem mU {t : Int} {mode seen : Int} {ev : Option Int} {es : List GEx} {ns : List GNode} (hR : j6 t es ns) (h1 : 1 ≤ ns.length) (hs : 0 ≤ seen ∧ seen ≤ 23) : ∃ e, eO e ∧ FO t (exN e) (fS (aC mode seen t ev ns).2) := by
  have pl := fC mode seen t ev ns
  have hl := sm (found := (aC mode seen t ev ns).2) (by omega)
  obtain ⟨e, he, hf⟩ := nD (mode := mode) (ev := ev) hR hs _ _ hl
  have hi : (aC mode seen t ev ns).2.length - 1 < ns.length := by omega
  obtain ⟨e', he', hx, _⟩ := hR.1.2 _ _ (List.getElem?_eq_getElem hi)
  rw [he] at he'; cases he'
  exact ⟨e, hx, hf⟩
theorem nP {t : Int} {mode seen : Int} {ev : Option Int} {es : List GEx} {ns : List GNode} (hR : j6 t es ns) (h1 : 1 ≤ ns.length) (hs : 0 ≤ seen ∧ seen ≤ 23) (hf : cL (aC mode seen t ev ns).1 = false) : (fS (aC mode seen t ev ns).2).length ≤ 40 := by
  have pl := fC mode seen t ev ns
  have hl := sm (found := (aC mode seen t ev ns).2) (by omega)
  have hi : ns.length - 1 < ns.length := by omega
  obtain ⟨p1, p2⟩ := jZ (mode := mode) (seen := seen) (t := t) (ev := ev) hR.1 (List.getElem?_eq_getElem hi)
  rw [pl.2, p2] at hl
  have hl := Option.some.inj hl
  have := sx hf _ (List.mem_of_getElem? p1)
  have h0 := (hR.2.2 _ (List.getElem_mem hi)).2.2.2.2.2.1
  have k5 := (gX (mode := mode) (seen := seen) (t := t) (ev := ev) (found := (aC mode seen t ev ns).2) (n := ns[ns.length - 1])).2.2.2.2
  rw [← hl]
  have this : (aD mode seen t ev (aC mode seen t ev ns).2 ns[ns.length - 1]).1.Many + ((aD mode seen t ev (aC mode seen t ev ns).2 ns[ns.length - 1]).2.length : Int) ≤ 40 := this
  rw [k5] at this
  omega
/-- all that is due before an event -/
theorem nZ {mode seen before : Int} {es : List GEx} (hs : 0 ≤ seen ∧ seen ≤ 23) : ∀ (f : Nat) (ns : List GNode) (out : List GOcc) (T : Int), gD T es ns → T < before → (before - T).toNat ≤ f → Ids out → out.length + 40 * f ≤ 1000000 →
    (bZ mode seen before f ns out).2.1 = false → ∃ T', T ≤ T' ∧ T' < before ∧ gD T' es (bZ mode seen before f ns out).1 ∧ (∀ n ∈ (bZ mode seen before f ns out).1, ∀ o ∈ n.Due, before ≤ o.To) ∧ Ids (bZ mode seen before f ns out).2.2 ∧ (bZ mode seen before f ns out).2.2.length ≤ 1000000
  | 0, ns, out, T, h, hT, hf, _, _, _ => by omega
  | f + 1, ns, out, T, h, hT, hf, ho, hol, hno => by
    have nl := oj ns before
    unfold bZ at hno ⊢
    by_cases hlt : ce ns before < before
    · rw [if_pos hlt] at hno ⊢
      by_cases hfu : cL (aC mode seen (ce ns before) none ns).1 = true
      · rw [if_pos hfu] at hno; cases hno
      · rw [if_neg hfu] at hno ⊢
        have hT' : T < ce ns before := by
          rcases oq ns before with q | ⟨n, q1, o, q2, q3⟩
          · omega
          · rw [q3]; exact ((h.2.2 n q1).2.2.2.1 o q2).1
        have hfu' : cL (aC mode seen (ce ns before) none ns).1 = false := by simpa using hfu
        have hR := h.ready (t := ce ns before) (by omega)
        have pi := mi (mode := mode) (ev := none) h (Int.le_of_lt hT') nl.2 hs hfu'
        obtain ⟨e, _, lf⟩ := mU (mode := mode) (ev := none) hR h.2.1.1 hs
        have ll := nP (mode := mode) (ev := none) hR h.2.1.1 hs hfu'
        obtain ⟨T', a, b, c⟩ := nZ hs f _ (out ++ fS (aC mode seen (ce ns before) none ns).2) (ce ns before) pi hlt (by omega)
          (fun o hh => by rcases List.mem_append.1 hh with q | q; exact ho o q; exact lf.2.1 o q) (by rw [List.length_append]; omega) hno
        exact ⟨T', by omega, b, c⟩
    · rw [if_neg hlt] at hno ⊢
      exact ⟨T, Int.le_refl _, hT, h, fun n hn o hh => by have := nl.2 n hn o hh; omega, ho, show out.length ≤ 1000000 by omega⟩
theorem wn {mode seen : Int} {es : List GEx} {ns ns' : List GNode} {e : GEv} {out : List GOcc} {T : Int} (h : gD T es ns) (hT : 0 ≤ T ∧ T < e.At ∧ e.At ≤ 1000) (hs : 0 ≤ seen ∧ seen ≤ 23) (hst : gq mode seen ns e = some (ns', out)) :
    gD e.At es ns' ∧ Ids out ∧ out.length ≤ 1000040 := by
  unfold gq at hst
  split at hst
  · cases hst
  split at hst
  · cases hst
  rename_i h1 h2
  cases hst
  obtain ⟨T', a, b, c, d, f, g⟩ := nZ (mode := mode) (before := e.At) hs 1001 ns [] T h hT.2.1 (by omega) (fun o hh => by simp at hh) (by simp) (by simpa using h1)
  have h2' : cL (aC mode seen e.At (some e.Sym) (bZ mode seen e.At 1001 ns []).1).1 = false := by simpa using h2
  have hR := c.ready (t := e.At) (by omega)
  obtain ⟨x, _, lf⟩ := mU (mode := mode) (ev := some e.Sym) hR c.2.1.1 hs
  have ll := nP (mode := mode) (ev := some e.Sym) hR c.2.1.1 hs h2'
  refine ⟨mi c (by omega) d hs h2', fun o hh => ?_, by rw [List.length_append]; omega⟩
  rcases List.mem_append.1 hh with q | q
  · exact f o q
  · exact lf.2.1 o q
theorem oQ {mode seen t : Int} {ev : Option Int} {es : List GEx} {nodes : List GNode} (hR : j6 t es nodes) (hs : 0 ≤ seen ∧ seen ≤ 23) (full0 : Bool) (L : Nat → List GNode → Bool → List (List GOcc) → Int → Option (List (List GOcc) × List GNode × Bool))
    (hend : ∀ N ns full found, L (N + 1) ns full found (nodes.length : Int) = some (found, ns, full))
    (hstep : ∀ (N i : Nat) (ns : List GNode) (full : Bool) (found : List (List GOcc)) (n : GNode) (e : GEx), i < nodes.length → ns.length = nodes.length → ns[i]? = some n → eO e → iX es i n e → jf t n → found.length = i → gJ t es found →
      L (N + 1) ns full found (i : Int) = L N (ns.set i (d6 (aD mode seen t ev found n))) (full || decide (40 < (d6 (aD mode seen t ev found n)).Many)) (found ++ [(aD mode seen t ev found n).2]) ((i + 1 : Nat) : Int)) :
    ∀ (d N i : Nat), i + d = nodes.length → d < N → L N ((dY mode seen t ev nodes i).1 ++ nodes.drop i) (full0 || cL (dY mode seen t ev nodes i).1) (dY mode seen t ev nodes i).2 (i : Int) = some ((aC mode seen t ev nodes).2, (aC mode seen t ev nodes).1, full0 || cL (aC mode seen t ev nodes).1) := by
  intro d
  induction d with
  | zero =>
    intro N i hi hN
    obtain ⟨N, rfl⟩ : ∃ m, N = m + 1 := ⟨N - 1, by omega⟩
    have : i = nodes.length := by omega
    subst this
    rw [hend, lv, List.drop_length, List.append_nil]
  | succ d ih =>
    intro N i hi hN
    obtain ⟨N, rfl⟩ : ∃ m, N = m + 1 := ⟨N - 1, by omega⟩
    have hlt : i < nodes.length := by omega
    have hl := gA (mode := mode) (seen := seen) (t := t) (ev := ev) (ns := nodes) (i := i) (by omega)
    obtain ⟨e, he, hx, hr⟩ := hR.1.2 i nodes[i] (List.getElem?_eq_getElem hlt)
    have hn : ((dY mode seen t ev nodes i).1 ++ nodes.drop i)[i]? = some nodes[i] := by
      rw [List.getElem?_append_right (by omega), hl.1, Nat.sub_self, List.drop_eq_getElem_cons hlt]; rfl
    rw [hstep N i _ _ _ nodes[i] e hlt (by rw [List.length_append, List.length_drop, hl.1]; omega) hn hx hr (hR.2.2 _ (List.getElem_mem _)) hl.2 (lq hR hs (by omega))]
    have := ih N (i + 1) (by omega) (by omega)
    rw [iI hlt] at this
    simp only [fV] at this
    rw [← this, List.drop_eq_getElem_cons hlt, List.set_append_right _ _ (by omega), hl.1, Nat.sub_self, List.set_cons_zero, List.append_assoc, List.singleton_append]
    congr 1
    unfold cL
    rw [List.any_append, Bool.or_assoc]
    simp
theorem ry {found : List (List GOcc)} {m : Nat} (h : found.length = m) (h1 : 1 ≤ m) (h2 : m ≤ 1000) :
    (req ((0 : Int) ≤ (IntKind.wrap .i64 (((found.length : Nat) : Int) - 1))) (req ((IntKind.wrap .i64 (((found.length : Nat) : Int) - 1)) < (found.length : Nat)) (found[(IntKind.wrap .i64 (((found.length : Nat) : Int) - 1)).toNat]?))) = some (fS found) := by
  rw [wr _ (by omega), af (by omega), af (by omega)]
  unfold fS
  rw [List.getLast?_eq_getElem?, show (((found.length : Nat) : Int) - 1).toNat = found.length - 1 by omega, List.getElem?_eq_getElem (by omega)]
  rfl
theorem sy {α β : Type} {c : Prop} [Decidable c] {x : Option α} {f : α → Option β} : (req c x).bind f = req c (x.bind f) := by
  unfold req; split <;> rfl
theorem n2_eq (k : Nat) (hk : 1000000000000 ≤ k) (g : GGraph) (t : Int) (es : List GEx) (hR : j6 t es g.Nodes) (h1 : 1 ≤ g.Nodes.length) (hs : 0 ≤ g.Seen ∧ g.Seen ≤ 23) (ht : 0 ≤ t ∧ t ≤ 100000) :
    ah.f k g t = some (fS (aC g.Mode g.Seen t none g.Nodes).2, ⟨g.Mode, (aC g.Mode g.Seen t none g.Nodes).1, g.Seen, g.Now, g.Full || cL (aC g.Mode g.Seen t none g.Nodes).1⟩) := by
  have h12 := hR.2.1
  have := oQ (mode := g.Mode) (ev := none) hR hs g.Full (ah.l1 k g t) (fun N ns full found => by rw [ah.l1, if_neg (by omega)])
    (fun N i ns full found n e hi hl hn hx hr hS hf hF => xc k hk g t N i ns full found n e es hi (by omega) hl hn hx hr hS hf hF hs ht) g.Nodes.length k 0 (by omega) (by omega)
  simp only [dY, List.take_zero, List.foldl_nil, List.drop_zero, List.nil_append, cL, List.any_nil, Bool.or_false] at this
  unfold ah.f
  rw [show ((0 : Nat) : Int) = 0 from rfl] at this
  rw [this]
  simp only [Option.bind_some]
  have hl := fC g.Mode g.Seen t none g.Nodes
  have q := congrArg (Option.bind · fun x => some (x, (⟨g.Mode, (aC g.Mode g.Seen t none g.Nodes).1, g.Seen, g.Now, g.Full || cL (aC g.Mode g.Seen t none g.Nodes).1⟩ : GGraph))) (ry hl.2 h1 (by omega))
  simp only [sy, Option.bind_some] at q
  exact q
theorem ev_eq (k : Nat) (hk : 1000000000000 ≤ k) (g : GGraph) (t : Int) (x : GEv) (es : List GEx) (hR : j6 t es g.Nodes) (h1 : 1 ≤ g.Nodes.length) (hs : 0 ≤ g.Seen ∧ g.Seen ≤ 23) (ht : 0 ≤ t ∧ t ≤ 100000) :
    ai.f k g t x = some (fS (aC g.Mode g.Seen t (some x.Sym) g.Nodes).2, ⟨g.Mode, (aC g.Mode g.Seen t (some x.Sym) g.Nodes).1, g.Seen, g.Now, g.Full || cL (aC g.Mode g.Seen t (some x.Sym) g.Nodes).1⟩, x) := by
  have h12 := hR.2.1
  have := oQ (mode := g.Mode) (ev := some x.Sym) hR hs g.Full (ai.l1 k g t x) (fun N ns full found => by rw [ai.l1, if_neg (by omega)])
    (fun N i ns full found n e hi hl hn hx hr hS hf hF => wP k hk g t x N i ns full found n e es hi (by omega) hl hn hx hr hS hf hF hs ht) g.Nodes.length k 0 (by omega) (by omega)
  simp only [dY, List.take_zero, List.foldl_nil, List.drop_zero, List.nil_append, cL, List.any_nil, Bool.or_false] at this
  unfold ai.f
  rw [show ((0 : Nat) : Int) = 0 from rfl] at this
  rw [this]
  simp only [Option.bind_some]
  have hl := fC g.Mode g.Seen t (some x.Sym) g.Nodes
  have q := congrArg (Option.bind · fun y => some (y, (⟨g.Mode, (aC g.Mode g.Seen t (some x.Sym) g.Nodes).1, g.Seen, g.Now, g.Full || cL (aC g.Mode g.Seen t (some x.Sym) g.Nodes).1⟩ : GGraph), x)) (ry hl.2 h1 (by omega))
  simp only [sy, Option.bind_some] at q
  exact q
theorem xg (k : Nat) (hk : 1000000000000 ≤ k) (n : GNode) (t : Int) (hl : n.Due.length ≤ 1000) : aN.l3 k n k t 0 = some (eK t n.Due) := by
  have := er n.Due (fun s o => some (if o.To < s then o.To else s)) (aN.l3 k n) (fun s o => if o.To < s then o.To else s) (fun _ _ => True)
    (fun N s => by rw [aN.l3, if_neg (by omega)])
    (fun N s i h => by
      rw [aN.l3, if_pos (by omega), af (by omega), Int.toNat_natCast, List.getElem?_eq_getElem h]
      simp only [Option.bind_some]
      rw [wrS i (by omega)]
      split <;> rfl)
    (fun i s h _ => ⟨rfl, trivial⟩) k t (by omega) trivial
  exact this.1
theorem xx (k : Nat) (hk : 1000000000000 ≤ k) (g : GGraph) (b : Int) (hg : g.Nodes.length ≤ 1000) (hd : ∀ n ∈ g.Nodes, n.Due.length ≤ 1000) : aN.f k g b = some (ce g.Nodes b, decide (ce g.Nodes b < b), g) := by
  have := er g.Nodes (fun s n => aN.l3 k n k s 0) (aN.l2 k g) (fun s n => eK s n.Due) (fun _ _ => True)
    (fun N s => by rw [aN.l2, if_neg (by omega)])
    (fun N s i h => by
      rw [aN.l2, if_pos (by omega), af (by omega), af (by omega), Int.toNat_natCast, List.getElem?_eq_getElem h]
      simp only [Option.bind_some]
      rw [wrS i (by omega)])
    (fun i s h _ => ⟨xg k hk _ s (hd _ (List.getElem_mem h)), trivial⟩) k b (by omega) trivial
  unfold aN.f
  rw [this.1]; rfl
theorem gD.due {T : Int} {es : List GEx} {ns : List GNode} (h : gD T es ns) : ∀ n ∈ ns, n.Due.length ≤ 1000 := fun n hn => by
  have := (h.2.2 n hn).2.2.2.2.2.2.2.2
  have := lp h n 0
  omega
theorem tN (k : Nat) (hk : 1000000000000 ≤ k) (e : GEv) (mode seen now : Int) (es : List GEx) (hs : 0 ≤ seen ∧ seen ≤ 23) (he : e.At ≤ 1000) : ∀ (f N : Nat) (ns : List GNode) (out : List GOcc) (T : Int), gD T es ns → 0 ≤ T → T < e.At → (e.At - T).toNat ≤ f → f + 1 < N → out.length + 40 * f ≤ 1000000 →
    bH.l0 k e N mode ns seen now false out = some (mode, (bZ mode seen e.At f ns out).1, seen, now, (bZ mode seen e.At f ns out).2.1, (bZ mode seen e.At f ns out).2.2)
  | 0, _, _, _, _, _, _, _, _, _, _ => by omega
  | f + 1, N, ns, out, T, h, hT0, hT, hf, hN, hol => by
    obtain ⟨N, rfl⟩ : ∃ m, N = m + 1 := ⟨N - 1, by omega⟩
    have nl := oj ns e.At
    rw [bH.l0, if_neg (by decide), xx k hk ⟨mode, ns, seen, now, false⟩ e.At (show ns.length ≤ 1000 by have := h.2.1.2; omega) h.due]
    simp only [Option.bind_some]
    unfold bZ
    by_cases hlt : ce ns e.At < e.At
    · rw [if_pos hlt, if_pos (by simpa using hlt)]
      have hT' : T < ce ns e.At := by
        rcases oq ns e.At with q | ⟨n, q1, o, q2, q3⟩
        · omega
        · rw [q3]; exact ((h.2.2 n q1).2.2.2.1 o q2).1
      have hR := h.ready (t := ce ns e.At) (by omega)
      rw [n2_eq k hk ⟨mode, ns, seen, now, false⟩ (ce ns e.At) es hR h.2.1.1 hs (by omega)]
      simp only [Option.bind_some, Bool.false_or]
      obtain ⟨x, hx, lf⟩ := mU (mode := mode) (ev := none) hR h.2.1.1 hs
      have ls := lf.small hx.2
      rw [af (by omega)]
      by_cases hfu : cL (aC mode seen (ce ns e.At) none ns).1 = true
      · rw [if_pos hfu, hfu]
        obtain ⟨N, rfl⟩ : ∃ m, N = m + 1 := ⟨N - 1, by omega⟩
        rw [bH.l0, if_pos rfl]
      · have hfu' : cL (aC mode seen (ce ns e.At) none ns).1 = false := by simpa using hfu
        rw [if_neg hfu, hfu']
        have ll := nP (mode := mode) (ev := none) hR h.2.1.1 hs hfu'
        exact tN k hk e mode seen now es hs he f N _ _ (ce ns e.At) (mi h (Int.le_of_lt hT') nl.2 hs hfu') (by omega) hlt (by omega) (by omega) (by rw [List.length_append]; omega)
    · rw [if_neg hlt, if_neg (by simpa using hlt)]
theorem wV (k : Nat) (hk : 1000000000000 ≤ k) (e : GEv) (g : GGraph) (es : List GEx) (T : Int) (h : gD T es g.Nodes) (hT : 0 ≤ T ∧ T < e.At ∧ e.At ≤ 1000) (hs : 0 ≤ g.Seen ∧ g.Seen ≤ 23) (hf : g.Full = false) :
    bH.f k g e = some (match gq g.Mode g.Seen g.Nodes e with | none => ([], ⟨g.Mode, [], g.Seen + 1, e.At, true⟩) | some r => (r.2, ⟨g.Mode, r.1, g.Seen + 1, e.At, false⟩)) := by
  unfold bH.f
  rw [hf, tN k hk e g.Mode g.Seen g.Now es hs hT.2.2 1001 k g.Nodes [] T h hT.1 hT.2.1 (by omega) (by omega) (by simp)]
  simp only [Option.bind_some]
  unfold gq
  rw [wr (g.Seen + 1) (by omega)]
  by_cases h1 : (bZ g.Mode g.Seen e.At 1001 g.Nodes []).2.1 = true
  · rw [if_pos h1, if_pos h1]
  · rw [if_neg h1, if_neg h1]
    obtain ⟨T', a, b, c, d, f, gg⟩ := nZ (mode := g.Mode) (before := e.At) hs 1001 g.Nodes [] T h hT.2.1 (by omega) (fun o hh => by simp at hh) (by simp) (by simpa using h1)
    have hR := c.ready (t := e.At) (by omega)
    rw [ev_eq k hk ⟨g.Mode, (bZ g.Mode g.Seen e.At 1001 g.Nodes []).1, g.Seen, g.Now, false⟩ e.At e es hR c.2.1.1 hs (by omega)]
    simp only [Option.bind_some, Bool.false_or]
    obtain ⟨x, hx, lf⟩ := mU (mode := g.Mode) (ev := some e.Sym) hR c.2.1.1 hs
    have ls := lf.small hx.2
    rw [af (by omega)]
    by_cases h2 : cL (aC g.Mode g.Seen e.At (some e.Sym) (bZ g.Mode g.Seen e.At 1001 g.Nodes []).1).1 = true
    · rw [if_pos h2, if_pos h2, wr (g.Seen + 1) (by omega)]
    · rw [if_neg h2, if_neg h2, wr (g.Seen + 1) (by omega)]
def Fresh (n : GNode) : Prop := n.Pair = ⟨[], []⟩ ∧ n.Span = ⟨[], []⟩ ∧ n.Due = [] ∧ n.Many = 0
theorem mv (m n : GNode) : eo m n = true ↔ m.Kind = n.Kind ∧ m.Sym = n.Sym ∧ m.N = n.N ∧ m.Kids = n.Kids := by
  unfold eo; simp
theorem xm {a b : GEx} (h1 : a.Kind = b.Kind) (h2 : a.Sym = b.Sym) (h3 : a.N = b.N) (h4 : a.Kids = b.Kids) : a = b := by
  cases a; cases b; simp only at h1 h2 h3 h4; rw [h1, h2, h3, h4]
theorem tt {α : Type} {l m : List α} {i : Nat} {x : α} (h : l[i]? = some x) : (l ++ m)[i]? = some x := by
  rw [List.getElem?_append_left (List.getElem?_eq_some_iff.1 h).1]; exact h
theorem eO.kid {e x : GEx} (h : eO e) (hx : x ∈ e.Kids) : eO x := by
  refine ⟨(dd h.1).2 x hx, ?_⟩
  have := dl hx
  have := h.2
  rw [bY] at this
  omega
def vS (es : List GEx) (ns : List GNode) (k : Nat) (r : List GNode) (ok : List GEx → Prop) : Prop := ∃ es' nx, r = ns ++ nx ∧ Rep (es ++ es') (ns ++ nx) ∧ nx.length ≤ k ∧ (∀ n ∈ nx, Fresh n) ∧ ok (es ++ es')
theorem pM {xs : List GEx} (H : ∀ x ∈ xs, ∀ es ns, Rep es ns → vS es ns (exN x) (df x ns).2 fun es => ∃ q : Nat, (df x ns).1 = (q : Int) ∧ es[q]? = some x) :
    ∀ es ns, Rep es ns → vS es ns (bD xs) (bN xs ns).2 fun es => (bN xs ns).1.length = xs.length ∧ ∀ (j : Nat) (x : GEx), xs[j]? = some x → ∃ q : Nat, (bN xs ns).1[j]? = some (q : Int) ∧ es[q]? = some x := by
  induction xs with
  | nil =>
    intro es ns h
    rw [j8]
    exact ⟨[], [], by simp, by simpa using h, by simp, by simp, rfl, fun j x hj => by simp at hj⟩
  | cons x xs ih =>
    intro es ns h
    obtain ⟨e1, n1, a1, a2, a3, a4, q, a5, a6⟩ := H x (by simp) es ns h
    obtain ⟨e2, n2, b1, b2, b3, b4, b5, b6⟩ := ih (fun y hy => H y (by simp [hy])) _ _ a2
    rw [je, ci]
    simp only
    rw [a1]
    refine ⟨e1 ++ e2, n1 ++ n2, by rw [b1, List.append_assoc], by rw [← List.append_assoc, ← List.append_assoc]; exact b2, by rw [List.length_append]; omega, fun n hn => (List.mem_append.1 hn).elim (a4 n) (b4 n), by simp [b5], fun j y hj => ?_⟩
    rw [← List.append_assoc]
    cases j with
    | zero =>
      simp only [List.getElem?_cons_zero, Option.some.injEq] at hj
      subst hj
      exact ⟨q, by rw [List.getElem?_cons_zero, a5], tt a6⟩
    | succ j =>
      rw [List.getElem?_cons_succ] at hj ⊢
      exact b6 j y hj
theorem kC : ∀ x : GEx, eO x → ∀ es ns, Rep es ns → vS es ns (exN x) (df x ns).2 fun es => ∃ q : Nat, (df x ns).1 = (q : Int) ∧ es[q]? = some x := by
  refine fA fun x ih hx es ns h => ?_
  obtain ⟨e1, n1, a1, a2, a3, a4, a5, a6⟩ := pM (fun y hy => ih y hy (hx.kid hy)) es ns h
  rw [mQ]
  unfold lP
  rw [a1]
  cases hfi : (ns ++ n1).findIdx? fun m => eo m (ec x.Kind x.Sym x.N (bN x.Kids ns).1) with
  | some i =>
    simp only
    rw [List.findIdx?_eq_some_iff_getElem] at hfi
    obtain ⟨hi, hk, _⟩ := hfi
    obtain ⟨k1, k2, k3, k4⟩ := (mv _ _).1 hk
    obtain ⟨e, he, _, hr⟩ := a2.2 i _ (List.getElem?_eq_getElem hi)
    have : e = x := by
      refine xm (hr.1.symm.trans k1) (hr.2.1.symm.trans k2) (hr.2.2.1.symm.trans k3) (List.ext_getElem? fun j => ?_)
      have hlen : e.Kids.length = x.Kids.length := by rw [← hr.2.2.2.1, k4]; exact a5
      rcases Nat.lt_or_ge j e.Kids.length with hj | hj
      · obtain ⟨q, _, q2, q3⟩ := hr.2.2.2.2 j hj
        obtain ⟨q', p1, p2⟩ := a6 j x.Kids[j] (List.getElem?_eq_getElem (by omega))
        rw [k4] at q2
        have hq : some (q' : Int) = some (q : Int) := p1.symm.trans q2
        have : q' = q := Int.ofNat.inj (Option.some.inj hq)
        subst this
        rw [← q3, p2, List.getElem?_eq_getElem (by omega)]
      · rw [List.getElem?_eq_none hj, List.getElem?_eq_none (by omega)]
    subst this
    exact ⟨e1, n1, rfl, a2, by rw [bY]; omega, a4, i, rfl, he⟩
  | none =>
    simp only
    refine ⟨e1 ++ [x], n1 ++ [ec x.Kind x.Sym x.N (bN x.Kids ns).1], by rw [List.append_assoc], ?_, by rw [bY, List.length_append, List.length_singleton]; omega, fun n hn => ?_, (ns ++ n1).length, rfl, ?_⟩
    · rw [← List.append_assoc, ← List.append_assoc]
      refine ⟨by have := a2.1; simp only [List.length_append, List.length_singleton] at this ⊢; omega, fun i n hn => ?_⟩
      rcases Nat.lt_or_ge i (ns ++ n1).length with hlt | hge
      · rw [List.getElem?_append_left hlt] at hn
        obtain ⟨e, he, hf, hr⟩ := a2.2 i n hn
        refine ⟨e, tt he, hf, hr.1, hr.2.1, hr.2.2.1, hr.2.2.2.1, fun j hj => ?_⟩
        obtain ⟨q, q1, q2, q3⟩ := hr.2.2.2.2 j hj
        refine ⟨q, q1, q2, ?_⟩
        rw [List.getElem?_append_left (by rw [a2.1]; omega)]; exact q3
      · rw [List.getElem?_append_right hge] at hn
        have : i = (ns ++ n1).length := by
          have := (List.getElem?_eq_some_iff.1 hn).1
          simp only [List.length_singleton] at this; omega
        subst this
        rw [Nat.sub_self, List.getElem?_cons_zero] at hn
        cases hn
        refine ⟨x, ?_, hx, rfl, rfl, rfl, a5, fun j hj => ?_⟩
        · rw [← a2.1, List.getElem?_append_right (Nat.le_refl _), Nat.sub_self]; rfl
        · obtain ⟨q, p1, p2⟩ := a6 j x.Kids[j] (List.getElem?_eq_getElem hj)
          have hq : q < (es ++ e1).length := (List.getElem?_eq_some_iff.1 p2).1
          refine ⟨q, by rw [← a2.1]; exact hq, p1, ?_⟩
          rw [List.getElem?_append_left hq, p2, List.getElem?_eq_getElem hj]
    · rcases List.mem_append.1 hn with q | q
      · exact a4 n q
      · rw [List.mem_singleton.1 q]; exact ⟨rfl, rfl, rfl, rfl⟩
    · rw [← List.append_assoc, ← a2.1, List.getElem?_append_right (Nat.le_refl _), Nat.sub_self]; rfl
/-- the parts of an expression, before anything has happened -/
theorem mS : Rep [] [] := ⟨rfl, fun i n h => by simp at h⟩
theorem lV {x : GEx} (hx : eO x) : ∃ es, gD 0 es (df x []).2 ∧ ∃ q : Nat, es[q]? = some x ∧ (df x []).1 = q := by
  obtain ⟨es, nx, a1, a2, a3, a4, q, a5, a6⟩ := kC x hx [] [] mS
  simp only [List.nil_append] at a1 a2 a6
  rw [a1]
  have hq := (List.getElem?_eq_some_iff.1 a6).1
  have := hx.2
  refine ⟨es, ⟨a2, ⟨by rw [← a2.1]; omega, by omega⟩, fun n hn => ?_⟩, q, a6, a5⟩
  obtain ⟨f1, f2, f3, f4⟩ := a4 n hn
  have g0 : fY [] := ⟨by simp [Asc], fun o h => by simp at h⟩
  have A0 : All (fun o => o.To ≤ (0 : Int)) [] := fun o h => by simp at h
  have mk : ∀ j, 0 ≤ fy nx n j := fun j => by
    unfold fy
    cases hq : nx[(n.Kids.getD j 0).toNat]? with
    | none => simp
    | some m => have := (a4 m (List.mem_of_getElem? hq)).2.2.2; simp [this]
  refine ⟨⟨by rw [f1, f2, f3]; exact ⟨g0, g0, g0, g0, g0⟩, by rw [f1, f2]; exact ⟨A0, A0, A0, A0⟩⟩, by rw [f4]; omega, fun _ => f3, by rw [f3]; simp, ?_⟩
  rw [f1, f2, f3]
  exact ⟨by simpa using mk 0, by simpa using mk 1, by simpa using mk 0, by split; exact (by simpa using mk 1); exact (by simpa using mk 2), by simpa using mk 0⟩
theorem vj (k : Nat) (a b : List Int) (hab : a.length = b.length) (ha : a.length ≤ 1000) : ∀ (d n i : Nat), i + d = a.length → d < n → cp.l0 k a b n (i : Int) = some (if a.drop i == b.drop i then .ok () else .error false) := by
  intro d
  induction d with
  | zero =>
    intro n i hi hn
    obtain ⟨n, rfl⟩ : ∃ m, n = m + 1 := ⟨n - 1, by omega⟩
    rw [cp.l0, if_neg (by omega), List.drop_eq_nil_of_le (by omega), List.drop_eq_nil_of_le (by omega)]; rfl
  | succ d ih =>
    intro n i hi hn
    obtain ⟨n, rfl⟩ : ∃ m, n = m + 1 := ⟨n - 1, by omega⟩
    have hlt : i < a.length := by omega
    rw [cp.l0, if_pos (by omega), af (by omega), Int.toNat_natCast, List.getElem?_eq_getElem hlt]
    simp only [Option.bind_some]
    rw [af (by omega), List.getElem?_eq_getElem (by omega)]
    simp only [Option.bind_some]
    rw [wrS i (by omega), ih n (i + 1) (by omega) (by omega), List.drop_eq_getElem_cons hlt, List.drop_eq_getElem_cons (show i < b.length by omega), List.cons_beq_cons]
    by_cases h : a[i] = b[i]
    · rw [if_pos h, h, beq_self_eq_true, Bool.true_and]
    · rw [if_neg h, beq_false_of_ne h, Bool.false_and]; rfl
theorem wZ (k : Nat) (hk : 1000000000000 ≤ k) (a b : List Int) (ha : a.length ≤ 1000) : cp.f k a b = some (a == b) := by
  unfold cp.f
  by_cases h : a.length = b.length
  · rw [if_pos (by omega)]
    have := vj k a b h ha a.length k 0 (by omega) (by omega)
    rw [show ((0 : Nat) : Int) = 0 from rfl, List.drop_zero, List.drop_zero] at this
    rw [this]
    cases hab : a == b <;> rfl
  · rw [if_neg (by omega)]
    have : (a == b) = false := by rw [beq_eq_false_iff_ne]; intro e; exact h (by rw [e])
    rw [this]
theorem xp (k : Nat) (hk : 1000000000000 ≤ k) (m n : GNode) (hm : m.Kids.length ≤ 1000) : cV.f k m n = some (eo m n) := by
  unfold cV.f eo
  rw [wZ k hk _ _ hm]
  simp only [Option.bind_some]
  by_cases h1 : m.Kind = n.Kind
  · rw [if_pos h1, h1, beq_self_eq_true, Bool.true_and]
    by_cases h2 : m.Sym = n.Sym
    · rw [if_pos h2, h2, beq_self_eq_true, Bool.true_and]
      by_cases h3 : m.N = n.N
      · rw [if_pos h3, h3, beq_self_eq_true, Bool.true_and]
      · rw [if_neg h3, beq_false_of_ne h3, Bool.false_and]
    · rw [if_neg h2, beq_false_of_ne h2, Bool.false_and]
  · rw [if_neg h1, beq_false_of_ne h1, Bool.false_and]
theorem sS (k : Nat) (g1 : GNode → Option Bool) (p : GNode → Bool) (l : List GNode) (hl : l.length ≤ 1000) (hp : ∀ x ∈ l, g1 x = some (p x)) : ∀ (d i n : Nat), i + d = l.length → d < n →
    aS.l0 k g1 l n (i : Int) = some (match (l.drop i).findIdx? p with | some j => .error (((i + j : Nat)) : Int) | none => .ok ()) := by
  intro d
  induction d with
  | zero =>
    intro i n hi hn
    obtain ⟨n, rfl⟩ : ∃ m, n = m + 1 := ⟨n - 1, by omega⟩
    rw [aS.l0, if_neg (by omega), List.drop_eq_nil_of_le (by omega)]; rfl
  | succ d ih =>
    intro i n hi hn
    obtain ⟨n, rfl⟩ : ∃ m, n = m + 1 := ⟨n - 1, by omega⟩
    have hlt : i < l.length := by omega
    rw [aS.l0, if_pos (by omega), af (by omega), Int.toNat_natCast, List.getElem?_eq_getElem hlt]
    simp only [Option.bind_some]
    rw [hp _ (List.getElem_mem hlt)]
    simp only [Option.bind_some]
    rw [wrS i (by omega), ih (i + 1) n (by omega) (by omega), List.drop_eq_getElem_cons hlt, List.findIdx?_cons]
    by_cases h : p l[i] = true
    · rw [if_pos h, if_pos h]; rfl
    · rw [if_neg h, if_neg h]
      cases (l.drop (i + 1)).findIdx? p with
      | none => rfl
      | some j => simp only [Option.map_some]; congr 3; omega
theorem uH (k : Nat) (hk : 1000000000000 ≤ k) (g1 : GNode → Option Bool) (p : GNode → Bool) (l : List GNode) (hl : l.length ≤ 1000) (hp : ∀ x ∈ l, g1 x = some (p x)) :
    aS.f g1 k l = some (match l.findIdx? p with | some j => (j : Int) | none => -1) := by
  unfold aS.f
  have := sS k g1 p l hl hp l.length 0 k (by omega) (by omega)
  rw [show ((0 : Nat) : Int) = 0 from rfl, List.drop_zero] at this
  rw [this]
  cases l.findIdx? p with
  | none => rfl
  | some j => simp
def Kids3 (ns : List GNode) : Prop := ∀ n ∈ ns, n.Kids.length ≤ 3
theorem Rep.kids3 {es : List GEx} {ns : List GNode} (h : Rep es ns) : Kids3 ns := fun n hn => by
  obtain ⟨i, hi, rfl⟩ := List.mem_iff_getElem.1 hn
  obtain ⟨e, _, hx, hr⟩ := h.2 i _ (List.getElem?_eq_getElem hi)
  rw [hr.2.2.2.1]
  rcases fP (dd hx.1).1 with ⟨_, hl⟩ | ⟨_, hl⟩ | ⟨_, hl⟩ | ⟨_, hl⟩ | ⟨_, hl⟩ | ⟨_, hl⟩ | ⟨_, hl⟩ <;> omega
/-- the program adds parts -/
theorem ta : ∀ x : GEx, eO x → ∀ (k : Nat), 1000000000000 + exN x ≤ k → ∀ (es : List GEx) (ns : List GNode) (m s n : Int) (f : Bool), Rep es ns → ns.length + exN x ≤ 100 →
    bd.f k ⟨m, ns, s, n, f⟩ x = some ((df x ns).1, ⟨m, (df x ns).2, s, n, f⟩) := by
  refine fA fun x ih hx k hk es ns m s n f h hl => ?_
  obtain ⟨k, rfl⟩ : ∃ q, k = q + 1 := ⟨k - 1, by omega⟩
  have hkl := dV x.Kids
  rw [bY] at hk hl
  have loop : ∀ (xs : List GEx) (i : Nat), xs = x.Kids.drop i → i ≤ x.Kids.length → ∀ (N : Nat) (es : List GEx) (ns : List GNode) (acc : List Int), xs.length < N → acc.length = i → Rep es ns → ns.length + bD xs ≤ 100 →
      bd.l0 k (bd.f k) x N m ns s n f acc (i : Int) = some (m, (bN xs ns).2, s, n, f, acc ++ (bN xs ns).1) := by
    intro xs
    induction xs with
    | nil =>
      intro i hi hle N es ns acc hN ha hR hb
      obtain ⟨N, rfl⟩ : ∃ q, N = q + 1 := ⟨N - 1, by simp at hN; omega⟩
      have : x.Kids.length ≤ i := by have := congrArg List.length hi; simp at this; omega
      rw [bd.l0, if_neg (by omega), j8, List.append_nil]
    | cons y ys ihl =>
      intro i hi hle N es ns acc hN ha hR hb
      obtain ⟨N, rfl⟩ : ∃ q, N = q + 1 := ⟨N - 1, by simp at hN; omega⟩
      have hlt : i < x.Kids.length := by have := congrArg List.length hi; simp at this; omega
      rw [List.drop_eq_getElem_cons hlt] at hi
      obtain ⟨rfl, rfl⟩ := List.cons.inj hi
      have hm := List.getElem_mem hlt
      have hfy := hx.kid hm
      have hny := dl hm
      rw [ci] at hb
      obtain ⟨e1, n1, a1, a2, a3, _⟩ := kC _ hfy es ns hR
      rw [bd.l0, if_pos (by omega), af (by omega), Int.toNat_natCast, List.getElem?_eq_getElem hlt]
      simp only [Option.bind_some]
      rw [ih _ hm hfy k (by omega) es ns m s n f hR (by omega)]
      simp only [Option.bind_some]
      rw [af (by omega), wrS i (by omega), ihl (i + 1) rfl (by omega) N (es ++ e1) _ _ (by simp at hN ⊢; omega) (by simp; omega) (by rw [a1]; exact a2) (by rw [a1, List.length_append]; omega), je]
      simp
  have l0 := loop x.Kids 0 rfl (by omega) k es ns [] (by omega) rfl h (by omega)
  rw [bd.f]
  simp only
  rw [show ((0 : Nat) : Int) = 0 from rfl] at l0
  rw [l0]
  simp only [Option.bind_some, List.nil_append]
  obtain ⟨e1, n1, a1, a2, a3, a4, a5, a6⟩ := pM (fun y hy => kC y (hx.kid hy)) es ns h
  have k3 := a2.kids3
  rw [mQ]
  unfold lP
  have nl : (bN x.Kids ns).2.length ≤ 100 := by rw [a1, List.length_append]; omega
  rw [uH k (by omega) (fun y0 => cV.f k y0 ⟨x.Kind, x.Sym, x.N, (bN x.Kids ns).1, ⟨[], []⟩, ⟨[], []⟩, [], 0⟩) (fun q => eo q (ec x.Kind x.Sym x.N (bN x.Kids ns).1)) _ (by omega) (fun q hq => xp k (by omega) q _ (by rw [a1] at hq; have := k3 q hq; omega))]
  simp only [Option.bind_some]
  cases (bN x.Kids ns).2.findIdx? fun q => eo q (ec x.Kind x.Sym x.N (bN x.Kids ns).1) with
  | none =>
    simp only
    rw [if_pos (by decide), af (by omega)]
    rfl
  | some j =>
    simp only
    rw [if_neg (by omega)]
theorem pZ (mode : Int) : eH.f mode = some (decide (0 ≤ mode) && decide (mode ≤ 4)) := by
  unfold eH.f
  rw [ri]; rfl
theorem oD {mode : Int} (h : 0 ≤ mode ∧ mode ≤ 4) : eH.f mode = some true := by
  rw [pZ, decide_eq_true h.1, decide_eq_true h.2]; rfl
theorem kU (k : Nat) (hk : 2000000000000 ≤ k) (x : GEx) (mode : Int) (hx : exN x ≤ 1000000) :
    eW.f k x mode = some (if eR x = true ∧ (0 ≤ mode ∧ mode ≤ 4) then ⟨mode, (df x []).2, 0, 0, false⟩ else ⟨0, [], 0, 0, false⟩) := by
  unfold eW.f
  rw [kt x (by omega) k (by omega)]
  simp only [Option.bind_some]
  by_cases h1 : eR x = true
  · rw [if_pos h1]
    have hf := fL h1
    by_cases h2 : 0 ≤ mode ∧ mode ≤ 4
    · rw [oD h2, if_pos ⟨h1, h2⟩]
      simp only [Option.bind_some, if_true]
      rw [ta x ⟨hf.2, hf.1⟩ k (by omega) [] [] mode 0 0 false mS (by simp; omega)]
      rfl
    · rw [pZ mode, if_neg (fun q => h2 q.2)]
      simp only [Option.bind_some]
      rw [if_neg (by simpa using h2)]
  · rw [if_neg h1, if_neg (fun q => h1 q.1)]
/-- all events, one after another -/
def iw (mode : Int) : List GEv → Int → List GNode → List GOcc → Option (List GOcc)
  | [], _, _, out => some out
  | e :: l, seen, ns, out => match gq mode seen ns e with
    | none => none
    | some r => iw mode l (seen + 1) r.1 (bV out r.2)
def dy (x : GEx) (mode : Int) (l : List GEv) : List GOcc × Bool := if eR x = true ∧ (0 ≤ mode ∧ mode ≤ 4) ∧ dr l = true then
    (match iw mode l 0 (df x []).2 [] with | none => ([], false) | some out => (out, true)) else ([], false)
theorem qz (k : Nat) (hk : 1000000000000 ≤ k) (mode : Int) (l : List GEv) (hl : wE l) (es : List GEx) : ∀ (d N i : Nat) (ns : List GNode) (now T : Int) (out : List GOcc), i + d = l.length → d < N → gD T es ns → 0 ≤ T → (∀ e ∈ l.drop i, T < e.At) → Asc out → Ids out → out.length ≤ i * 1000040 →
    aX.l0 k l N mode ns (i : Int) now false out (i : Int) = some (match iw mode (l.drop i) (i : Int) ns out with | none => .error ([], false) | some r => .ok r) ∧ (∀ r, iw mode (l.drop i) (i : Int) ns out = some r → Ids r ∧ r.length ≤ l.length * 1000040) := by
  intro d
  induction d with
  | zero =>
    intro N i ns now T out hi hN hG hT hlt ha hid hol
    obtain ⟨N, rfl⟩ : ∃ m, N = m + 1 := ⟨N - 1, by omega⟩
    rw [aX.l0, if_neg (by omega), List.drop_eq_nil_of_le (by omega)]
    refine ⟨rfl, fun r hr => ?_⟩
    cases hr
    have : i = l.length := by omega
    subst this
    exact ⟨hid, hol⟩
  | succ d ih =>
    intro N i ns now T out hi hN hG hT hlt ha hid hol
    obtain ⟨N, rfl⟩ : ∃ m, N = m + 1 := ⟨N - 1, by omega⟩
    have hii : i < l.length := by omega
    have h24 := hl.2.2
    have hm := List.getElem_mem hii
    have he := hl.2.1 _ hm
    have hTe := hlt l[i] (by rw [List.drop_eq_getElem_cons hii]; exact List.mem_cons_self)
    rw [List.drop_eq_getElem_cons hii]
    rw [aX.l0, if_pos (by omega), af (by omega), Int.toNat_natCast, List.getElem?_eq_getElem hii]
    simp only [Option.bind_some]
    rw [wV k hk l[i] ⟨mode, ns, i, now, false⟩ es T hG ⟨hT, hTe, he.2⟩ (by simp only; omega) rfl]
    simp only [Option.bind_some]
    unfold iw
    cases hst : gq mode (i : Int) ns l[i] with
    | none =>
      simp only
      rw [bS k hk out [] (by simp; omega) hid.few (fun o h => by simp at h) ha]
      simp only [Option.bind_some, if_true]
      exact ⟨trivial, fun r hr => by cases hr⟩
    | some p =>
      obtain ⟨ns', f⟩ := p
      simp only
      obtain ⟨g1, g2, g3⟩ := wn hG ⟨hT, hTe, he.2⟩ (by omega) hst
      rw [bS k hk out f (by omega) hid.few g2.few ha]
      simp only [Option.bind_some, Bool.false_eq_true, if_false]
      rw [wrS i (by omega), show (i : Int) + 1 = ((i + 1 : Nat) : Int) by omega]
      refine ih N (i + 1) ns' l[i].At l[i].At (bV out f) (by omega) (by omega) g1 (by omega) (fun e hm' => ?_) (dN ha) (eY hid g2) (by have := bW f out; omega)
      obtain ⟨j, hj, rfl⟩ := List.mem_iff_getElem.1 hm'
      rw [List.getElem_drop]
      exact (List.pairwise_iff_getElem.1 hl.1) i (i + 1 + j) hii (by rw [List.length_drop] at hj; omega) (by omega)
theorem jP (k : Nat) (hk : 2000000000000 ≤ k) (x : GEx) (mode : Int) (l : List GEv) (hx : exN x ≤ 1000000) (hl : l.length ≤ 1000000) : aX.f k x mode l = some (dy x mode l) := by
  unfold aX.f dy
  rw [kt x (by omega) k (by omega)]
  simp only [Option.bind_some]
  by_cases h1 : eR x = true
  · rw [if_pos h1]
    have hf := fL h1
    by_cases h2 : 0 ≤ mode ∧ mode ≤ 4
    · rw [oD h2]
      simp only [Option.bind_some, if_true]
      rw [mm k (by omega) l hl]
      simp only [Option.bind_some]
      by_cases h3 : dr l = true
      · rw [if_pos h3, if_pos ⟨h1, h2, h3⟩, kU k hk x mode hx, if_pos ⟨h1, h2⟩]
        simp only [Option.bind_some]
        have hu := nO h3
        obtain ⟨es, hG, _⟩ := lV (x := x) ⟨hf.2, hf.1⟩
        obtain ⟨q, q2⟩ := qz k (by omega) mode l hu es l.length k 0 (df x []).2 0 0 [] (by omega) (by have := hu.2.2; omega) hG (by omega) (fun e he => by have := hu.2.1 e (List.mem_of_mem_drop he); omega) (by simp [Asc]) (fun o h => by simp at h) (by simp)
        rw [show ((0 : Nat) : Int) = 0 from rfl, List.drop_zero] at q q2
        rw [q]
        cases hg : iw mode l 0 (df x []).2 [] with
        | none => rfl
        | some r =>
          simp only [Option.bind_some]
          have := q2 r hg
          have h24 := hu.2.2
          rw [tp k (by omega) r (by omega) this.1.few]
          rfl
      · rw [if_neg h3, if_neg (fun q => h3 q.2.2)]
    · rw [pZ mode, if_neg (fun q => h2 q.2.1)]
      simp only [Option.bind_some]
      rw [if_neg (by simpa using h2)]
  · rw [if_neg h1, if_neg (fun q => h1 q.1)]
theorem jx (k : Nat) (hk : 2000000000000 ≤ k) (x : GEx) (hx : exN x ≤ 1000000) : bP.f k x = some (if eR x = true then ((df x []).2.length : Int) else 0) := by
  unfold bP.f
  rw [kU k hk x 0 hx]
  simp only [Option.bind_some]
  by_cases h : eR x = true
  · rw [if_pos ⟨h, by omega⟩, if_pos h]
  · rw [if_neg (fun q => h q.1), if_neg h]; rfl
def swS (b : List Int) (s : Int) : Int := b.getD s.toNat 0
def swN (b : List Int) (n : GNode) : GNode := ⟨n.Kind, if n.Kind = 1 then swS b n.Sym else n.Sym, n.N, n.Kids, n.Pair, n.Span, n.Due, n.Many⟩
def dq (n : GNode) : Prop := 0 ≤ n.Sym ∧ n.Sym < 5
theorem tH {b : List Int} (h : bf b = true) {s t : Int} (hs : 0 ≤ s ∧ s < 5) (ht : 0 ≤ t ∧ t < 5) : swS b s = swS b t ↔ s = t := by
  refine ⟨fun e => ?_, fun e => by rw [e]⟩
  have := xC h (i := s.toNat) (j := t.toNat) (by omega) (by omega) e
  omega
theorem Rep.symOk {es : List GEx} {ns : List GNode} (h : Rep es ns) : ∀ n ∈ ns, dq n := fun n hn => by
  obtain ⟨i, hi, rfl⟩ := List.mem_iff_getElem.1 hn
  obtain ⟨e, _, hx, hr⟩ := h.2 i _ (List.getElem?_eq_getElem hi)
  obtain ⟨a, b, _⟩ := jB (dd hx.1).1
  exact ⟨by rw [hr.2.1]; exact a, by rw [hr.2.1]; exact b⟩
theorem wh {b : List Int} (h : bf b = true) {m n : GNode} (hm : dq m) (hn : dq n) : eo (swN b m) (swN b n) = eo m n := by
  rw [Bool.eq_iff_iff, mv, mv]
  unfold swN
  simp only
  constructor
  · rintro ⟨h1, h2, h3⟩
    refine ⟨h1, ?_, h3⟩
    rw [h1] at h2
    split at h2
    · exact (tH h hm hn).1 h2
    · exact h2
  · rintro ⟨h1, h2, h3⟩
    exact ⟨h1, by rw [h1, h2], h3⟩
theorem rC {b : List Int} (h : bf b = true) : ∀ x : GEx, eO x → ∀ es ns, Rep es ns → df (cU b x) (ns.map (swN b)) = ((df x ns).1, (df x ns).2.map (swN b)) := by
  refine fA fun x ih hx es ns hR => ?_
  have loop : ∀ (xs : List GEx), (∀ y ∈ xs, y ∈ x.Kids) → ∀ es ns, Rep es ns → bN (xs.map (cU b)) (ns.map (swN b)) = ((bN xs ns).1, (bN xs ns).2.map (swN b)) := by
    intro xs
    induction xs with
    | nil => intro _ es ns _; rw [List.map_nil, j8, j8]
    | cons y ys ihl =>
      intro hm es ns hR
      obtain ⟨e1, n1, a1, a2, _⟩ := kC y (hx.kid (hm y (by simp))) es ns hR
      rw [List.map_cons, je, je, ih y (hm y (by simp)) (hx.kid (hm y (by simp))) es ns hR]
      simp only
      rw [ihl (fun z hz => hm z (by simp [hz])) (es ++ e1) _ (by rw [a1]; exact a2)]
  have l0 := loop x.Kids (fun y hy => hy) es ns hR
  obtain ⟨e1, n1, a1, a2, _⟩ := pM (fun y hy => kC y (hx.kid hy)) es ns hR
  obtain ⟨s0, s5, _⟩ := jB (dd hx.1).1
  rw [mQ, mQ, gH]
  simp only
  rw [l0]
  unfold lP
  have e : (((bN x.Kids ns).2.map (swN b)).findIdx? fun m => eo m (ec x.Kind (if x.Kind = 1 then b.getD x.Sym.toNat 0 else x.Sym) x.N (bN x.Kids ns).1)) = (bN x.Kids ns).2.findIdx? fun m => eo m (ec x.Kind x.Sym x.N (bN x.Kids ns).1) := by
    rw [List.findIdx?_map]
    have hs : ∀ m ∈ (bN x.Kids ns).2, dq m := by rw [a1]; exact a2.symOk
    have : ∀ (l : List GNode), (∀ m ∈ l, dq m) → l.findIdx? ((fun m => eo m (ec x.Kind (if x.Kind = 1 then b.getD x.Sym.toNat 0 else x.Sym) x.N (bN x.Kids ns).1)) ∘ swN b) = l.findIdx? fun m => eo m (ec x.Kind x.Sym x.N (bN x.Kids ns).1) := by
      intro l
      induction l with
      | nil => intro _; rfl
      | cons m l ihm =>
        intro hl
        rw [List.findIdx?_cons, List.findIdx?_cons, ihm (fun q hq => hl q (by simp [hq]))]
        have := wh h (hl m (by simp)) (n := ec x.Kind x.Sym x.N (bN x.Kids ns).1) ⟨s0, s5⟩
        rw [show ((fun m => eo m (ec x.Kind (if x.Kind = 1 then b.getD x.Sym.toNat 0 else x.Sym) x.N (bN x.Kids ns).1)) ∘ swN b) m = eo m (ec x.Kind x.Sym x.N (bN x.Kids ns).1) from this]
    exact this _ hs
  rw [e]
  cases (bN x.Kids ns).2.findIdx? fun m => eo m (ec x.Kind x.Sym x.N (bN x.Kids ns).1) with
  | some i => rfl
  | none => simp only [List.map_append, List.length_map, List.map_cons, List.map_nil]; rfl
theorem uU {b : List Int} (h : bf b = true) {mode seen t : Int} {ev : Option Int} {found : List (List GOcc)} {n : GNode} (hn : dq n) (he : ∀ s, ev = some s → 0 ≤ s ∧ s < 5) :
    aD mode seen t (ev.map (swS b)) found (swN b n) = (swN b (aD mode seen t ev found n).1, (aD mode seen t ev found n).2) := by
  unfold aD
  by_cases k1 : n.Kind = 1
  · rw [if_pos (show (swN b n).Kind = 1 from k1), if_pos k1]
    have e : (ev.map (swS b) = some (swN b n).Sym) ↔ ev = some n.Sym := by
      unfold swN
      simp only [if_pos k1]
      cases ev with
      | none => simp
      | some s => simp only [Option.map_some, Option.some.injEq]; exact tH h (he s rfl) hn
    by_cases hq : ev = some n.Sym
    · rw [if_pos (e.2 hq), if_pos hq]
    · rw [if_neg (fun q => hq (e.1 q)), if_neg hq]
  rw [if_neg (show ¬ (swN b n).Kind = 1 from k1), if_neg k1]
  have e1 : (swN b n).Kind = n.Kind := rfl
  have e2 : (swN b n).Pair = n.Pair := rfl
  have e3 : (swN b n).Span = n.Span := rfl
  have e4 : (swN b n).Due = n.Due := rfl
  have e5 : (swN b n).N = n.N := rfl
  have e6 : ∀ j, au found (swN b n) j = au found n j := fun j => rfl
  have e7 : (swN b n).Sym = n.Sym := if_neg k1
  rw [e1, e2, e3, e4, e5, e6, e6, e6]
  have sw : ∀ (p : aP) (s : aG) (d : List GOcc), (⟨n.Kind, (swN b n).Sym, n.N, (swN b n).Kids, p, s, d, (swN b n).Many⟩ : GNode) = swN b ⟨n.Kind, n.Sym, n.N, n.Kids, p, s, d, n.Many⟩ := fun p s d => by
    unfold swN; simp only [if_neg k1]
  repeat' split
  all_goals first | rfl | (rw [sw])
theorem vq (b : List Int) (r : GNode × List GOcc) : d6 (swN b r.1, r.2) = swN b (d6 r) := rfl
theorem oS {b : List Int} (h : bf b = true) {mode seen t : Int} {ev : Option Int} (he : ∀ s, ev = some s → 0 ≤ s ∧ s < 5) (ns : List GNode) (hn : ∀ n ∈ ns, dq n) :
    aC mode seen t (ev.map (swS b)) (ns.map (swN b)) = ((aC mode seen t ev ns).1.map (swN b), (aC mode seen t ev ns).2) := by
  have : ∀ (l : List GNode) (s : List GNode × List (List GOcc)), (∀ n ∈ l, dq n) → (l.map (swN b)).foldl (fV mode seen t (ev.map (swS b))) (s.1.map (swN b), s.2) = ((l.foldl (fV mode seen t ev) s).1.map (swN b), (l.foldl (fV mode seen t ev) s).2) := by
    intro l
    induction l with
    | nil => intro s _; rfl
    | cons n l ih =>
      intro s hl
      rw [List.map_cons, List.foldl_cons, List.foldl_cons, ← ih _ (fun q hq => hl q (by simp [hq]))]
      congr 1
      unfold fV
      simp only
      rw [uU h (hl n (by simp)) he, vq, List.map_append]
      rfl
  exact this ns ([], []) hn
theorem qK (b : List Int) (ns : List GNode) : cL (ns.map (swN b)) = cL ns := by
  unfold cL; rw [List.any_map]; rfl
theorem qL (b : List Int) : ∀ (ns : List GNode) (t : Int), ce (ns.map (swN b)) t = ce ns t
  | [], _ => rfl
  | n :: ns, t => qL b ns (eK t n.Due)
theorem j5 {mode seen t : Int} {ev : Option Int} {ns : List GNode} (hn : ∀ n ∈ ns, dq n) : ∀ n ∈ (aC mode seen t ev ns).1, dq n := by
  have : ∀ (l : List GNode) (s : List GNode × List (List GOcc)), (∀ n ∈ l, dq n) → (∀ n ∈ s.1, dq n) → ∀ n ∈ (l.foldl (fV mode seen t ev) s).1, dq n := by
    intro l
    induction l with
    | nil => intro s _ hs; exact hs
    | cons n l ih =>
      intro s hl hs
      refine ih _ (fun q hq => hl q (by simp [hq])) (fun q hq => ?_)
      rcases List.mem_append.1 hq with h1 | h1
      · exact hs q h1
      · rw [List.mem_singleton.1 h1]
        have k2 := (gX (mode := mode) (seen := seen) (t := t) (ev := ev) (found := s.2) (n := n)).2.1
        have := hl n (by simp)
        exact ⟨by show 0 ≤ (aD mode seen t ev s.2 n).1.Sym; rw [k2]; exact this.1, by show (aD mode seen t ev s.2 n).1.Sym < 5; rw [k2]; exact this.2⟩
  exact this ns ([], []) hn (fun n h => by simp at h)
theorem qy {b : List Int} (h : bf b = true) {mode seen before : Int} : ∀ (f : Nat) (ns : List GNode) (out : List GOcc), (∀ n ∈ ns, dq n) →
    bZ mode seen before f (ns.map (swN b)) out = ((bZ mode seen before f ns out).1.map (swN b), (bZ mode seen before f ns out).2.1, (bZ mode seen before f ns out).2.2) ∧ ∀ n ∈ (bZ mode seen before f ns out).1, dq n
  | 0, ns, out, hn => ⟨rfl, hn⟩
  | f + 1, ns, out, hn => by
    have pt := oS h (mode := mode) (seen := seen) (t := ce ns before) (ev := none) (fun s e => by cases e) ns hn
    have ps := j5 (mode := mode) (seen := seen) (t := ce ns before) (ev := none) hn
    rw [Option.map_none] at pt
    unfold bZ
    rw [qL, pt]
    simp only
    rw [qK]
    by_cases h1 : ce ns before < before
    · rw [if_pos h1, if_pos h1]
      by_cases h2 : cL (aC mode seen (ce ns before) none ns).1 = true
      · rw [if_pos h2, if_pos h2]; exact ⟨rfl, ps⟩
      · rw [if_neg h2, if_neg h2]; exact qy h f _ _ ps
    · rw [if_neg h1, if_neg h1]; exact ⟨rfl, hn⟩
theorem vv {b : List Int} (h : bf b = true) {mode seen : Int} {ns : List GNode} {e : GEv} (hn : ∀ n ∈ ns, dq n) (he : 0 ≤ e.Sym ∧ e.Sym < 5) :
    gq mode seen (ns.map (swN b)) (fG b e) = (gq mode seen ns e).map fun r => (r.1.map (swN b), r.2) := by
  obtain ⟨d1, d2⟩ := qy h (mode := mode) (seen := seen) (before := e.At) 1001 ns [] hn
  have pt := oS h (mode := mode) (seen := seen) (t := e.At) (ev := some e.Sym) (fun s q => by cases q; exact he) _ d2
  rw [Option.map_some] at pt
  unfold gq
  show (if (bZ mode seen e.At 1001 (ns.map (swN b)) []).2.1 = true then none else if cL (aC mode seen e.At (some (swS b e.Sym)) (bZ mode seen e.At 1001 (ns.map (swN b)) []).1).1 = true then none else some ((aC mode seen e.At (some (swS b e.Sym)) (bZ mode seen e.At 1001 (ns.map (swN b)) []).1).1, (bZ mode seen e.At 1001 (ns.map (swN b)) []).2.2 ++ fS (aC mode seen e.At (some (swS b e.Sym)) (bZ mode seen e.At 1001 (ns.map (swN b)) []).1).2)) = _
  simp only [d1, pt, qK]
  by_cases h1 : (bZ mode seen e.At 1001 ns []).2.1 = true
  · rw [if_pos h1, if_pos h1]; rfl
  · rw [if_neg h1, if_neg h1]
    by_cases h2 : cL (aC mode seen e.At (some e.Sym) (bZ mode seen e.At 1001 ns []).1).1 = true
    · rw [if_pos h2, if_pos h2]; rfl
    · rw [if_neg h2, if_neg h2]; rfl
theorem wm {mode seen : Int} {ns ns' : List GNode} {e : GEv} {out : List GOcc} (hn : ∀ n ∈ ns, dq n) (hs : gq mode seen ns e = some (ns', out)) : ∀ n ∈ ns', dq n := by
  have dm : ∀ (f : Nat) (ns : List GNode) (out : List GOcc), (∀ n ∈ ns, dq n) → ∀ n ∈ (bZ mode seen e.At f ns out).1, dq n := by
    intro f
    induction f with
    | zero => intro ns out h; exact h
    | succ f ih =>
      intro ns out h
      unfold bZ
      split
      · split
        · exact j5 h
        · exact ih _ _ (j5 h)
      · exact h
  unfold gq at hs
  split at hs
  · cases hs
  split at hs
  · cases hs
  cases hs
  exact j5 (dm _ _ _ hn)
theorem qG {b : List Int} (h : bf b = true) (mode : Int) : ∀ (l : List GEv) (seen : Int) (ns : List GNode) (out : List GOcc), (∀ e ∈ l, 0 ≤ e.Sym ∧ e.Sym < 5) → (∀ n ∈ ns, dq n) →
    iw mode (l.map (fG b)) seen (ns.map (swN b)) out = iw mode l seen ns out
  | [], _, _, _, _, _ => rfl
  | e :: l, seen, ns, out, hl, hn => by
    rw [List.map_cons]
    unfold iw
    rw [vv h hn (hl e (by simp))]
    cases hs : gq mode seen ns e with
    | none => rfl
    | some r => exact qG h mode l (seen + 1) r.1 _ (fun x hx => hl x (by simp [hx])) (wm hn hs)
theorem qV {b : List Int} (h : bf b = true) {x : GEx} {mode : Int} {l : List GEv} (hx : eR x = true) (hl : dr l = true) : dy (cU b x) mode (l.map (fG b)) = dy x mode l := by
  unfold dy
  by_cases hm : 0 ≤ mode ∧ mode ≤ 4
  · rw [if_pos ⟨qa h hx, hm, o8 h hl⟩, if_pos ⟨hx, hm, hl⟩]
    have hf := fL hx
    have := rC h x ⟨hf.2, hf.1⟩ [] [] mS
    rw [List.map_nil] at this
    obtain ⟨es, hG, _⟩ := lV (x := x) ⟨hf.2, hf.1⟩
    rw [this]
    simp only
    rw [qG h mode l 0 _ [] (mP hl) hG.1.symOk]
  · rw [if_neg (fun q => hm q.2.1), if_neg (fun q => hm q.2.1)]
theorem vz {b : List Int} (h : bf b = true) {x : GEx} (hx : eR x = true) : (df (cU b x) []).2.length = (df x []).2.length := by
  have hf := fL hx
  have := rC h x ⟨hf.2, hf.1⟩ [] [] mS
  rw [List.map_nil] at this
  rw [this, List.length_map]
theorem rR (x : GEx) (mode : Int) (l : List GEv) : Ids (dy x mode l).1 ∧ (dy x mode l).1.length ≤ 24000960 := by
  have none0 : Ids ([] : List GOcc) ∧ ([] : List GOcc).length ≤ 24000960 := ⟨fun o h => by simp at h, by simp⟩
  unfold dy
  split
  · rename_i h
    have hf := fL h.1
    have hu := nO h.2.2
    obtain ⟨es, hG, _⟩ := lV (x := x) ⟨hf.2, hf.1⟩
    obtain ⟨_, q2⟩ := qz 1000000000000 (by omega) mode l hu es l.length 1000000000000 0 (df x []).2 0 0 [] (by omega) (by have := hu.2.2; omega) hG (by omega) (fun e he => by have := hu.2.1 e (List.mem_of_mem_drop he); omega) (by simp [Asc]) (fun o h => by simp at h) (by simp)
    rw [show ((0 : Nat) : Int) = 0 from rfl, List.drop_zero] at q2
    cases hg : iw mode l 0 (df x []).2 [] with
    | none => exact none0
    | some r =>
      have := q2 r hg
      have h24 := hu.2.2
      exact ⟨this.1, show r.length ≤ 24000960 by omega⟩
  · exact none0
theorem sh (k : Nat) (hk : 2000000000000 ≤ k) (l : List Int) (hl : l.length ≤ 1048576) (hb : ∀ y ∈ l, 0 ≤ y ∧ y ≤ 255) : ∃ b, eA.f k l = some b ∧ b.length ≤ 5 := by
  unfold eA.f
  obtain ⟨r, e1, e2⟩ := la l hl hb
  rw [e1]
  simp only [Option.bind_some]
  obtain ⟨b, r2, g1, g2, g3⟩ := tD k (by omega) r 0 e2 (by omega)
  rw [g1]
  exact ⟨_, rfl, g3⟩
theorem uT (k : Nat) (l : List GEv) (h : l ≠ []) : cJ.f k [] l = some false := by
  unfold cJ.f bF.f
  have : l.length ≠ 0 := fun q => h (List.length_eq_zero_iff.1 q)
  rw [if_neg (by simp; omega)]; rfl
theorem xa (k : Nat) (hk : 1000 ≤ k) (x : GEx) (b : List Int) (hb : bf b = true) : aw.l0 k (x, b) k (List.replicate 5 0) 0 = some (en b) := by
  have hl := fU hb
  have loop : ∀ (d n i : Nat) (s : List Int), i + d = 5 → d < n → s.length = 5 → aw.l0 k (x, b) n s (i : Int) = some (mY b d i s) := by
    intro d
    induction d with
    | zero =>
      intro n i s hi hn hs
      obtain ⟨n, rfl⟩ : ∃ m, n = m + 1 := ⟨n - 1, by omega⟩
      rw [aw.l0, if_neg (by simp only; omega)]; rfl
    | succ d ih =>
      intro n i s hi hn hs
      obtain ⟨n, rfl⟩ : ∃ m, n = m + 1 := ⟨n - 1, by omega⟩
      obtain ⟨y, y1, y2, y3⟩ := fQ hb (i := i) (by omega)
      rw [aw.l0, if_pos (by simp only; omega), af (by omega), Int.toNat_natCast]
      simp only [y1, Option.bind_some]
      rw [af (by omega), af (by omega), List.getElem?_eq_getElem (by omega)]
      simp only [Option.bind_some]
      rw [wrS i (by omega), ih n (i + 1) _ (by omega) (by omega) (by rw [List.length_set]; exact hs)]
      have : b.getD i 0 = y := by rw [List.getD_eq_getElem?_getD, y1]; rfl
      unfold mY
      rw [this]
      cases d <;> rfl
  have := loop 5 k 0 (List.replicate 5 0) (by omega) (by omega) (by simp)
  exact this
theorem xb (k : Nat) (hk : 1000 ≤ k) (x : GEx) (b : List Int) (hb : bf b = true) : aw.l2 k (x, b) k (List.replicate 5 0) 0 = some (en b) := by
  have hl := fU hb
  have loop : ∀ (d n i : Nat) (s : List Int), i + d = 5 → d < n → s.length = 5 → aw.l2 k (x, b) n s (i : Int) = some (mY b d i s) := by
    intro d
    induction d with
    | zero =>
      intro n i s hi hn hs
      obtain ⟨n, rfl⟩ : ∃ m, n = m + 1 := ⟨n - 1, by omega⟩
      rw [aw.l2, if_neg (by simp only; omega)]; rfl
    | succ d ih =>
      intro n i s hi hn hs
      obtain ⟨n, rfl⟩ : ∃ m, n = m + 1 := ⟨n - 1, by omega⟩
      obtain ⟨y, y1, y2, y3⟩ := fQ hb (i := i) (by omega)
      rw [aw.l2, if_pos (by simp only; omega), af (by omega), Int.toNat_natCast]
      simp only [y1, Option.bind_some]
      rw [af (by omega), af (by omega), List.getElem?_eq_getElem (by omega)]
      simp only [Option.bind_some]
      rw [wrS i (by omega), ih n (i + 1) _ (by omega) (by omega) (by rw [List.length_set]; exact hs)]
      have : b.getD i 0 = y := by rw [List.getD_eq_getElem?_getD, y1]; rfl
      unfold mY
      rw [this]
      cases d <;> rfl
  have := loop 5 k 0 (List.replicate 5 0) (by omega) (by omega) (by simp)
  exact this
theorem oP (p0 p1 : List Int) (h0 : ∀ y ∈ p0, 0 ≤ y ∧ y ≤ 255) (h1 : ∀ y ∈ p1, 0 ≤ y ∧ y ≤ 255) : ∃ k, aw.f k p0 p1 = some true := by
  obtain ⟨k, hk⟩ : ∃ k : Nat, k = 2000000000000 := ⟨_, rfl⟩
  refine ⟨k, ?_⟩
  unfold aw.f
  by_cases c0 : 1048576 < (p0.length : Int)
  · rw [if_pos c0]
  rw [if_neg c0]
  by_cases c1 : 1048576 < (p1.length : Int)
  · rw [if_pos c1]
  rw [if_neg c1]
  obtain ⟨x, b, e1, e2, e3⟩ := sd k (by omega) p0 (by omega) h0
  obtain ⟨b2, d1, d2⟩ := sh k (by omega) p1 (by omega) h1
  obtain ⟨y, mode, ev, f1, f2, f3, f4⟩ := sr k (by omega) p1 (by omega) h1
  rw [e1, d1]
  simp only [Option.bind_some]
  rw [gw k (by omega) b2 (by omega), lE k (by omega) b2 (by omega)]
  simp only [Option.bind_some]
  rw [gw k (by omega) b (by omega), lE k (by omega) b (by omega), nt x (by omega) k (by omega)]
  simp only [Option.bind_some]
  by_cases hb : bf b = true
  rotate_left
  · by_cases hb2 : bf b2 = true <;> simp [hb, hb2]
  by_cases hx : eR x = true
  rotate_left
  · by_cases hb2 : bf b2 = true <;> simp [hb, hb2, hx]
  have tx : kN x b = cU b x := by unfold kN; rw [if_pos ⟨hx, hb⟩]
  have bk := qk hb
  have tb : kN (cU b x) (en b) = x := by unfold kN; rw [if_pos ⟨qa hb hx, bk.1⟩]; exact vu hb x (fL hx).2
  have bl := fU bk.1
  have nx : exN (cU b x) ≤ 1000000 := by rw [vh]; omega
  have tl : (dk ev b).length ≤ 25 := by
    unfold dk
    split
    · rw [List.length_map]; exact f3
    · simp
  have G1 := kI k (by omega) x b (by omega) (by omega)
  have G2 := jP k (by omega) x mode ev (by omega) (by omega)
  have G3 := kM k (by omega) ev b (by omega) (by omega)
  have G4 := jP k (by omega) (cU b x) mode (dk ev b) nx (by omega)
  have G5 := kI k (by omega) (cU b x) (en b) nx (by omega)
  have G6 := wx x (by omega) k (by omega)
  have G7 := jx k (by omega) x (by omega)
  have G8 := jx k (by omega) (cU b x) nx
  have G9 := kM k (by omega) (dk ev b) (en b) (by omega) (by omega)
  have G10 := sF k (by omega) ev (by omega)
  rw [tx] at G1
  rw [tb] at G5
  rw [if_pos hx] at G7
  rw [if_pos (qa hb hx), vz hb hx] at G8
  have r1 : ∀ (α : Type) (z : Option α), req ((0 : Int) ≤ 5) z = z := fun α z => af (by omega)
  have r2 : ∀ (α : Type) (z : Option α), req ((5 : Nat) ≤ 5) z = z := fun α z => af (by omega)
  have r3 : ∀ (α : Type) (z : Option α), req (5 * 8 ≤ 140737488355328) z = z := fun α z => af (by omega)
  have L0 := xa k (by omega) x b hb
  have L2 := xb k (by omega) x b hb
  by_cases he : dr ev = true
  · have te : dk ev b = ev.map (fG b) := by unfold dk; rw [if_pos ⟨he, hb⟩]
    have te2 : dk (dk ev b) (en b) = ev := by
      rw [te]; unfold dk; rw [if_pos ⟨o8 hb he, bk.1⟩]; exact uN hb (mP he)
    have G11 := sf k ev (by omega) (by omega)
    have gi := rR x mode ev
    have G12 := qT k (dy x mode ev).1 (by omega) (fun o ho => by have := fH (gi.1 o ho); omega) (by omega)
    rw [te, qV hb hx he] at G4
    rw [te2] at G9
    rw [te] at G3 G9
    by_cases hb2 : bf b2 = true
    · simp only [hb, hb2, hx, if_true, L0, G1, f1, G2, G3, G4, G5, G6, G7, G8, G9, G10, G11, G12, he, r1, r2, r3, Option.bind_some]
      cases (dy x mode ev).2 <;> simp
    · simp only [hb, hb2, hx, if_true, if_false, Bool.false_eq_true, L2, G1, f1, G2, G3, G4, G5, G6, G7, G8, G9, G10, G11, G12, he, r1, r2, r3, Option.bind_some]
      cases (dy x mode ev).2 <;> simp
  · have te : dk ev b = [] := by unfold dk; rw [if_neg (fun q => he q.1)]
    have hn : ev ≠ [] := fun q => he (by rw [q]; decide)
    have te2 : dk ([] : List GEv) (en b) = [] := by unfold dk; split <;> rfl
    have G11 := uT k ev hn
    have hl0 : ¬ (((ev.length : Nat) : Int) = 0) := fun q => hn (List.length_eq_zero_iff.1 (by omega))
    rw [te] at G3 G4 G9
    rw [te2] at G9
    by_cases hb2 : bf b2 = true
    · simp only [hb, hb2, hx, if_true, if_false, Bool.false_eq_true, L0, G1, f1, G2, G3, G4, G5, G6, G7, G8, G9, G10, G11, he, hl0, r1, r2, r3, Option.bind_some]
    · simp only [hb, hb2, hx, if_true, if_false, Bool.false_eq_true, L2, G1, f1, G2, G3, G4, G5, G6, G7, G8, G9, G10, G11, he, hl0, r1, r2, r3, Option.bind_some]
end Go.Proofs.YtlbnmldopjadoaaGreat
