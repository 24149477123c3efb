/- The row of FnExactMeanUsed, out of the statement about data. -/
import Derived.Test.YtdhlbpgjcfdofaaGreatC5
import Derived.Test.YtdhlbpgjcfdofaaGreatRows
import Derived.WalkKit
import Derived.ProofKit
import Derived.OpenShut
import Derived.ShutString
import Derived.ChangeOld
import Derived.Below
import Derived.SizedLaws
namespace Go.Proofs.YtdhlbpgjcfdofaaGreat.fnExactMeanUsed
open Go Go.Vm Go.ChangeShapes Go.WideShapes Go.ChangeAt Go.RowKit
set_option linter.unusedVariables false
theorem sh_3 {n : Nat} {cs : List A} (h : Sh E n 3 cs) : ∃ x : Int, cs = [.lit (.int .i64 x)] ∧ (Lit.int .i64 x).wf = true := by
  cases n with
  | zero => exact h.elim
  | succ n =>
  simp only [Sh, show (E.info 3).td = .int .i64 from rfl] at h
  exact h
mutual
def w_GEx : GEx → Prop
  | ⟨a0, a1, a2, a3⟩ => (Lit.int .i64 a0).wf = true ∧ (Lit.int .i64 a1).wf = true ∧ (Lit.int .i64 a2).wf = true ∧ (a3.length * 48 ≤ reachBytes ∧ w_GExs a3)
def w_GExs : List GEx → Prop
  | [] => True
  | x :: xs => w_GEx x ∧ w_GExs xs
end
theorem w_GExs_iff : ∀ l : List GEx, w_GExs l ↔ ∀ x ∈ l, w_GEx x
  | [] => by simp [w_GExs]
  | x :: xs => by simp [w_GExs, w_GExs_iff xs]
theorem sh_rec49 : ∀ (n : Nat) (cs : List A), (Sh E n 49 cs → ∃ x : GEx, cs = c_GEx x ∧ w_GEx x) ∧ (Sh E n 47 cs → ∃ x : List GEx, cs = [.tree (r_GEx x)] ∧ (x.length * 48 ≤ reachBytes ∧ w_GExs x)) := by
  intro n
  induction n using Nat.strongRecOn with
  | _ n ih =>
  intro cs
  cases n with
  | zero => exact ⟨fun h => h.elim, fun h => h.elim⟩
  | succ n =>
  constructor
  · intro h
    simp only [Sh, show (E.info 49).td = .struct [(0, 3), (1, 3), (2, 3), (3, 47)] from rfl, ShF] at h
    obtain ⟨p0, q0, rfl, h0, p1, q1, rfl, h1, p2, q2, rfl, h2, p3, q3, rfl, h3, rfl⟩ := h
    obtain ⟨x0, rfl, w0⟩ := sh_3 h0
    obtain ⟨x1, rfl, w1⟩ := sh_3 h1
    obtain ⟨x2, rfl, w2⟩ := sh_3 h2
    obtain ⟨x3, rfl, w3⟩ := (ih n (by omega) _).2 h3
    exact ⟨⟨x0, x1, x2, x3⟩, by simp [c_GEx], by simp only [w_GEx]; exact ⟨w0, w1, w2, w3⟩⟩
  · intro h
    simp only [Sh, show (E.info 47).td = .slice 49 from rfl] at h
    obtain ⟨rows, rfl, h1, h2⟩ := h
    obtain ⟨l, e, hl⟩ := rows_all (c := c_GEx) (W := w_GEx) (fun r hr => by obtain ⟨x, e, w⟩ := (ih n (by omega) _).1 (h2 r hr); exact ⟨x, e, w⟩)
    refine ⟨l, by rw [e, r_GEx_map], ?_, (w_GExs_iff l).2 hl⟩
    rw [e, List.length_map] at h1
    exact h1
theorem sh_49 {n : Nat} {cs : List A} (h : Sh E n 49 cs) : ∃ x : GEx, cs = c_GEx x ∧ w_GEx x := (sh_rec49 n cs).1 h
theorem sh_47 {n : Nat} {cs : List A} (h : Sh E n 47 cs) : ∃ x : List GEx, cs = [.tree (r_GEx x)] ∧ (x.length * 48 ≤ reachBytes ∧ w_GExs x) := (sh_rec49 n cs).2 h
def w_GEv (x : GEv) : Prop := (Lit.int .i64 x.Sym).wf = true ∧ (Lit.int .i64 x.At).wf = true ∧ (Lit.int .i64 x.Val).wf = true
theorem sh_101 {n : Nat} {cs : List A} (h : Sh E n 101 cs) : ∃ x : GEv, cs = c_GEv x ∧ w_GEv x := by
  cases n with
  | zero => exact h.elim
  | succ n =>
  simp only [Sh, show (E.info 101).td = .struct [(0, 3), (1, 3), (2, 3)] from rfl, ShF] at h
  obtain ⟨p0, q0, rfl, h0, p1, q1, rfl, h1, p2, q2, rfl, h2, rfl⟩ := h
  obtain ⟨x0, rfl, w0⟩ := sh_3 h0
  obtain ⟨x1, rfl, w1⟩ := sh_3 h1
  obtain ⟨x2, rfl, w2⟩ := sh_3 h2
  exact ⟨⟨x0, x1, x2⟩, by simp [c_GEv], w0, w1, w2⟩
theorem sh_50 {n : Nat} {cs : List A} (h : Sh E n 50 cs) : ∃ x : List GEv, cs = [.tree (r_GEv x)] ∧ (x.length * 24 ≤ reachBytes ∧ ∀ y ∈ x, w_GEv y) := by
  cases n with
  | zero => exact h.elim
  | succ n =>
  simp only [Sh, show (E.info 50).td = .slice 101 from rfl] at h
  obtain ⟨rows, rfl, h1, h2⟩ := h
  obtain ⟨l, e, hl⟩ := rows_all (c := c_GEv) (W := fun y => w_GEv y) (fun r hr => by obtain ⟨x, e, w⟩ := sh_101 (h2 r hr); exact ⟨x, e, w⟩)
  refine ⟨l, by rw [e]; rfl, ?_, hl⟩
  rw [e, List.length_map] at h1
  exact h1
/-- the one statement about data alone -/
def Pure : Prop := ∀ (p0 : GEx) (p1 : Int) (p2 : List GEv), w_GEx p0 → (Lit.int .i64 p1).wf = true → (p2.length * 24 ≤ reachBytes ∧ ∀ y ∈ p2, w_GEv y) → ∃ k, laws_FnExactMeanUsed.f k p0 p1 p2 = some true
theorem own : ownKnob Tryz.prog.godebug = none := by kernel_rfl
theorem laidOut : laidOutB Tryz.prog = true := by kernel_rfl
theorem supp : suppB E [49, 3, 47, 50, 101] = true := by kernel_rfl
set_option maxRecDepth 100000 in
theorem lifted (pure : Pure) (os : Os) (started : os.Started) (H : Type) (enc : TypeId × Value → H) :
    ReturnsInHanded {} Tryz.checked os 11 .any (Rows.fnExactMeanUsedSpec.pre6 enc Tryz.prog Tryz.f11 Rows.fnExactMeanUsedRow.domain false) (Rows.fnExactMeanUsedSpec.post enc Tryz.prog Tryz.f11 false true false false) := by
  refine returnsInHanded_of_change_sized (C := Tryz.checked) own started (by kernel_rfl) Tryz.func11
    (ChangeSpec.witness6 (enc := enc) (C := Tryz.checked) false ⟨#[], #[.agg #[.int .i64 0, .int .i64 0, .int .i64 0, .slice none 0 0], .int .i64 0, .slice none 0 0], []⟩ 8 (by kernel_rfl) (by kernel_rfl) (by kernel_rfl) (by kernel_rfl)) ?_
  intro W base args ds gs before hval0 hW hcnd hsz0 _
  have hsz : (DataW.weightsEach Tryz.prog (Tryz.f11.params.toList ++ Rows.fnExactMeanUsedSpec.plain.varTypes Tryz.prog) (ds ++ gs)).all (· ≤ reachBytes) = true := hsz0
  have hval : ∀ (j : Nat) t v, Tryz.f11.params[j]? = some t → args[j]? = some v → Value.okWide Tryz.prog W .any base t v := hval0
  have hW' := hW
  obtain ⟨p, q, hA0, hV, rfl, hfz, hnd⟩ := hW
  have hA : DataW.TrodAll enc Tryz.prog W 0 (fun _ => true) true Tryz.f11.params.toList args.toList ds p := hA0
  rw [Tryz.params11] at hA hval
  have hargs := hA
  obtain ⟨v0, vs0, d0, ds0, p0, q0, hargs, rfl, rfl, h0, r0⟩ := trodAll_cons hA
  obtain ⟨v1, vs1, d1, ds1, p1, q1, rfl, rfl, rfl, h1, r1⟩ := trodAll_cons r0
  obtain ⟨v2, vs2, d2, ds2, p2, q2, rfl, rfl, rfl, h2, r2⟩ := trodAll_cons r1
  obtain ⟨rfl, rfl, rfl⟩ := trodAll_nil r2
  obtain rfl : args = #[v0, v1, v2] := by cases args; simp_all
  obtain ⟨rfl, rfl⟩ := trodVars_none hV
  have lt0 : ∀ x ∈ p0, x.block < W.heap.size := by obtain ⟨m, hm⟩ := h0; exact DataW.trod_lt m _ _ _ hm
  obtain ⟨b0, rfl, _⟩ := okWide_struct Tryz.underlying49 (hval 0 49 v0 rfl rfl)
  have hw0 : ∀ n ∈ d0.weights Tryz.prog 49, n ≤ reachBytes := fun n hn => by
    have := List.all_eq_true.1 hsz n (DataW.weights_mem_each (j := 0) (t := 49) (d := d0) rfl rfl n hn)
    simpa using this
  obtain ⟨x0, e0, w0⟩ : ∃ x : GEx, CR W (fun b => b < W.heap.size) none (.agg [iA x.Kind, iA x.Sym, iA x.N, tA (r_GEx x.Kids)]) (.agg b0) Set.no ∧ w_GEx x := by
    obtain ⟨m, hm⟩ := h0
    obtain ⟨cs2, s1, s2⟩ := trod_sh eok supp m 49 _ _ (by decide) hm hw0
    obtain ⟨x, rfl, hx⟩ := sh_49 s1
    obtain ⟨y0, y1, y2, y3⟩ := x
    simp only [c_GEx] at s2
    exact ⟨⟨y0, y1, y2, y3⟩, by simp only [CR]; exact ⟨b0.toList, by simp, s2⟩, hx⟩
  have lt1 : ∀ x ∈ p1, x.block < W.heap.size := by obtain ⟨m, hm⟩ := h1; exact DataW.trod_lt m _ _ _ hm
  obtain ⟨b1, rfl⟩ := okWide_int Tryz.underlying3 (hval 1 3 v1 rfl rfl)
  have hw1 : ∀ n ∈ d1.weights Tryz.prog 3, n ≤ reachBytes := fun n hn => by
    have := List.all_eq_true.1 hsz n (DataW.weights_mem_each (j := 1) (t := 3) (d := d1) rfl rfl n hn)
    simpa using this
  obtain ⟨x1, e1, w1⟩ : ∃ x : Int, CR W (fun b => b < W.heap.size) none (iA x) (.int .i64 b1) Set.no ∧ (Lit.int .i64 x).wf = true := by
    obtain ⟨m, hm⟩ := h1
    obtain ⟨cs2, s1, s2⟩ := trod_sh eok supp m 3 _ _ (by decide) hm hw1
    obtain ⟨x, rfl, hx⟩ := sh_3 s1
    obtain ⟨c, e, hc⟩ := ValsR.single s2
    cases e
    exact ⟨x, hc, hx⟩
  have lt2 : ∀ x ∈ p2, x.block < W.heap.size := by obtain ⟨m, hm⟩ := h2; exact DataW.trod_lt m _ _ _ hm
  obtain ⟨b2, len2, cap2, rfl⟩ := okWide_slice Tryz.underlying50 (hval 2 50 v2 rfl rfl)
  have hw2 : ∀ n ∈ d2.weights Tryz.prog 50, n ≤ reachBytes := fun n hn => by
    have := List.all_eq_true.1 hsz n (DataW.weights_mem_each (j := 2) (t := 50) (d := d2) rfl rfl n hn)
    simpa using this
  obtain ⟨x2, e2, w2⟩ : ∃ x : List GEv, CR W (fun b => b < W.heap.size) none (tA (r_GEv x)) (.slice b2 len2 cap2) Set.no ∧ (x.length * 24 ≤ reachBytes ∧ ∀ y ∈ x, w_GEv y) := by
    obtain ⟨m, hm⟩ := h2
    obtain ⟨cs2, s1, s2⟩ := trod_sh eok supp m 50 _ _ (by decide) hm hw2
    obtain ⟨x, rfl, hx⟩ := sh_50 s1
    obtain ⟨c, e, hc⟩ := ValsR.single s2
    cases e
    exact ⟨x, hc, hx⟩
  obtain ⟨k, hp⟩ := pure x0 x1 x2 w0 w1 w2
  have hvals : ValsR W (fun b => b < W.heap.size) none [.agg [iA x0.Kind, iA x0.Sym, iA x0.N, tA (r_GEx x0.Kids)], iA x1, tA (r_GEv x2)] [.agg b0, .int .i64 b1, .slice b2 len2 cap2] Set.no := by
    simp only [ValsR]
    exact ⟨Set.no, Set.no, e0, ⟨Set.no, Set.no, e1, ⟨Set.no, Set.no, e2, True.intro, Set.le_refl _, Set.le_refl _, Set.no_dis _⟩, Set.le_refl _, Set.le_refl _, Set.no_dis _⟩, Set.le_refl _, Set.le_refl _, Set.no_dis _⟩
  refine Calls.mono' ((c_laws_FnExactMeanUsed .mk hp).2 W (fun b => b < W.heap.size) Set.no _ hvals (Set.no_dis _) (fun _ h => h) (fun _ z => z.elim)) ?_
  intro e W' hq
  cases e with
  | panicked _ => exact hq.elim
  | outgrown => exact hq.elim
  | returned v =>
  obtain ⟨imm', T1, T2, _, _, hr, _, _, _, _, _, hkeep, hgrow, hos, hout, htape, _⟩ := hq
  have hv : v = .bool true := by simpa only [CR] using hr
  subst hv
  have bel : RowKit.Below W.heap.size W W' := ⟨hos, htape, hout, hgrow, fun b hb => hkeep b hb (fun z => z)⟩
  exact ⟨_, rfl, _, _, _, [], _, [], hW', trodAll_mk1 (shut_bool Tryz.underlying4 _), (trodAll_cons_mk (Below.trod laidOut (by kernel_rfl) (of_decide_eq_true (by kernel_rfl)) h0 bel lt0) (trodAll_cons_mk (Below.trod laidOut (by kernel_rfl) (of_decide_eq_true (by kernel_rfl)) h1 bel lt1) (trodAll_cons_mk (Below.trod laidOut (by kernel_rfl) (of_decide_eq_true (by kernel_rfl)) h2 bel lt2) trodAll_mk0))), rfl, bel.frame _, fun h => by cases h⟩
theorem over (pure : Pure) : Rows.fnExactMeanUsedRow.holds Tryz.pinned (OpenSpec.ofChange Rows.fnExactMeanUsedSpec) :=
  OpenClaim.holds_of_wide 11 Tryz.f11 rfl rfl rfl rfl rfl rfl rfl ⟨rfl, rfl, rfl, rfl, rfl⟩ rfl rfl rfl rfl rfl (by kernel_rfl) Tryz.func11 (by kernel_rfl)
    (of_decide_eq_true (by kernel_rfl)) (by unfold Func.isWrapper; first | (rw [if_pos (by decide +kernel)]; kernel_rfl) | (rw [if_neg (by decide +kernel)]; exact ⟨rfl, rfl⟩))
    (fun os started H enc _ => lifted pure os started H enc)
end Go.Proofs.YtdhlbpgjcfdofaaGreat.fnExactMeanUsed
