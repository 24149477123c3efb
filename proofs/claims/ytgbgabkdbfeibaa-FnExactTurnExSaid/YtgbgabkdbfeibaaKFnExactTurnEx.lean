/- The row of FnExactTurnEx, out of the statement about data. -/
import Derived.Test.YtgbgabkdbfeibaaC1
import Derived.Test.YtgbgabkdbfeibaaRows
import Derived.WalkKit
import Derived.ProofKit
import Derived.OpenShut
import Derived.ShutString
import Derived.ChangeOld
import Derived.Below
import Derived.SizedLaws
namespace Go.Proofs.Ytgbgabkdbfeibaa.fnExactTurnEx
open Go Go.Vm Go.ChangeShapes Go.WideShapes Go.ChangeAt Go.RowKit
set_option linter.unusedVariables false
theorem sh_3 {n : Nat} {cs : List A} (h : Sh E n 3 cs) : ∃ x : Int, cs = [.lit (.int .i64 x)] ∧ (Lit.int .i64 x).wf = true := by
  cases n with
  | zero => exact h.elim
  | succ n =>
  simp only [Sh, show (E.info 3).td = .int .i64 from rfl] at h
  exact h
mutual
def w_GEx : GEx → Prop
  | ⟨a0, a1, a2, a3⟩ => (Lit.int .i64 a0).wf = true ∧ (Lit.int .i64 a1).wf = true ∧ (Lit.int .i64 a2).wf = true ∧ (a3.length * 48 ≤ reachBytes ∧ w_GExs a3)
def w_GExs : List GEx → Prop
  | [] => True
  | x :: xs => w_GEx x ∧ w_GExs xs
end
theorem w_GExs_iff : ∀ l : List GEx, w_GExs l ↔ ∀ x ∈ l, w_GEx x
  | [] => by simp [w_GExs]
  | x :: xs => by simp [w_GExs, w_GExs_iff xs]
theorem sh_rec49 : ∀ (n : Nat) (cs : List A), (Sh E n 49 cs → ∃ x : GEx, cs = c_GEx x ∧ w_GEx x) ∧ (Sh E n 47 cs → ∃ x : List GEx, cs = [.tree (r_GEx x)] ∧ (x.length * 48 ≤ reachBytes ∧ w_GExs x)) := by
  intro n
  induction n using Nat.strongRecOn with
  | _ n ih =>
  intro cs
  cases n with
  | zero => exact ⟨fun h => h.elim, fun h => h.elim⟩
  | succ n =>
  constructor
  · intro h
    simp only [Sh, show (E.info 49).td = .struct [(0, 3), (1, 3), (2, 3), (3, 47)] from rfl, ShF] at h
    obtain ⟨p0, q0, rfl, h0, p1, q1, rfl, h1, p2, q2, rfl, h2, p3, q3, rfl, h3, rfl⟩ := h
    obtain ⟨x0, rfl, w0⟩ := sh_3 h0
    obtain ⟨x1, rfl, w1⟩ := sh_3 h1
    obtain ⟨x2, rfl, w2⟩ := sh_3 h2
    obtain ⟨x3, rfl, w3⟩ := (ih n (by omega) _).2 h3
    exact ⟨⟨x0, x1, x2, x3⟩, by simp [c_GEx], by simp only [w_GEx]; exact ⟨w0, w1, w2, w3⟩⟩
  · intro h
    simp only [Sh, show (E.info 47).td = .slice 49 from rfl] at h
    obtain ⟨rows, rfl, h1, h2⟩ := h
    obtain ⟨l, e, hl⟩ := rows_all (c := c_GEx) (W := w_GEx) (fun r hr => by obtain ⟨x, e, w⟩ := (ih n (by omega) _).1 (h2 r hr); exact ⟨x, e, w⟩)
    refine ⟨l, by rw [e, r_GEx_map], ?_, (w_GExs_iff l).2 hl⟩
    rw [e, List.length_map] at h1
    exact h1
theorem sh_49 {n : Nat} {cs : List A} (h : Sh E n 49 cs) : ∃ x : GEx, cs = c_GEx x ∧ w_GEx x := (sh_rec49 n cs).1 h
theorem sh_47 {n : Nat} {cs : List A} (h : Sh E n 47 cs) : ∃ x : List GEx, cs = [.tree (r_GEx x)] ∧ (x.length * 48 ≤ reachBytes ∧ w_GExs x) := (sh_rec49 n cs).2 h
theorem sh_30 {n : Nat} {cs : List A} (h : Sh E n 30 cs) : ∃ x : List Int, cs = [.tree (r_Int x)] ∧ (x.length * 8 ≤ reachBytes ∧ ∀ y ∈ x, (Lit.int .i64 y).wf = true) := by
  cases n with
  | zero => exact h.elim
  | succ n =>
  simp only [Sh, show (E.info 30).td = .slice 3 from rfl] at h
  obtain ⟨rows, rfl, h1, h2⟩ := h
  obtain ⟨l, e, hl⟩ := rows_all (c := c_Int) (W := fun y => (Lit.int .i64 y).wf = true) (fun r hr => by obtain ⟨x, e, w⟩ := sh_3 (h2 r hr); exact ⟨x, e, w⟩)
  refine ⟨l, by rw [e]; rfl, ?_, hl⟩
  rw [e, List.length_map] at h1
  exact h1
/-- the one statement about data alone -/
def Pure : Prop := ∀ (p0 : GEx) (p1 : List Int), w_GEx p0 → (p1.length * 8 ≤ reachBytes ∧ ∀ y ∈ p1, (Lit.int .i64 y).wf = true) → ∃ k, laws_FnExactTurnEx.f k p0 p1 = some true
theorem own : ownKnob Try.prog.godebug = none := by kernel_rfl
theorem laidOut : laidOutB Try.prog = true := by kernel_rfl
theorem supp : suppB E [49, 3, 47, 30] = true := by kernel_rfl
set_option maxRecDepth 100000 in
theorem lifted (pure : Pure) (os : Os) (started : os.Started) (H : Type) (enc : TypeId × Value → H) :
    ReturnsInHanded {} Try.checked os 6 .any (Rows.fnExactTurnExSpec.pre6 enc Try.prog Try.f6 Rows.fnExactTurnExRow.domain false) (Rows.fnExactTurnExSpec.post enc Try.prog Try.f6 false true false false) := by
  refine returnsInHanded_of_change_sized (C := Try.checked) own started (by kernel_rfl) Try.func6
    (ChangeSpec.witness6 (enc := enc) (C := Try.checked) false ⟨#[], #[.agg #[.int .i64 0, .int .i64 0, .int .i64 0, .slice none 0 0], .slice none 0 0], []⟩ 8 (by kernel_rfl) (by kernel_rfl) (by kernel_rfl) (by kernel_rfl)) ?_
  intro W base args ds gs before hval0 hW hcnd hsz0 _
  have hsz : (DataW.weightsEach Try.prog (Try.f6.params.toList ++ Rows.fnExactTurnExSpec.plain.varTypes Try.prog) (ds ++ gs)).all (· ≤ reachBytes) = true := hsz0
  have hval : ∀ (j : Nat) t v, Try.f6.params[j]? = some t → args[j]? = some v → Value.okWide Try.prog W .any base t v := hval0
  have hW' := hW
  obtain ⟨p, q, hA0, hV, rfl, hfz, hnd⟩ := hW
  have hA : DataW.TrodAll enc Try.prog W 0 (fun _ => true) true Try.f6.params.toList args.toList ds p := hA0
  rw [Try.params6] at hA hval
  have hargs := hA
  obtain ⟨v0, vs0, d0, ds0, p0, q0, hargs, rfl, rfl, h0, r0⟩ := trodAll_cons hA
  obtain ⟨v1, vs1, d1, ds1, p1, q1, rfl, rfl, rfl, h1, r1⟩ := trodAll_cons r0
  obtain ⟨rfl, rfl, rfl⟩ := trodAll_nil r1
  obtain rfl : args = #[v0, v1] := by cases args; simp_all
  obtain ⟨rfl, rfl⟩ := trodVars_none hV
  have lt0 : ∀ x ∈ p0, x.block < W.heap.size := by obtain ⟨m, hm⟩ := h0; exact DataW.trod_lt m _ _ _ hm
  obtain ⟨b0, rfl, _⟩ := okWide_struct Try.underlying49 (hval 0 49 v0 rfl rfl)
  have hw0 : ∀ n ∈ d0.weights Try.prog 49, n ≤ reachBytes := fun n hn => by
    have := List.all_eq_true.1 hsz n (DataW.weights_mem_each (j := 0) (t := 49) (d := d0) rfl rfl n hn)
    simpa using this
  obtain ⟨x0, e0, w0⟩ : ∃ x : GEx, CR W (fun b => b < W.heap.size) none (.agg [.lit (.int .i64 x.Kind), .lit (.int .i64 x.Sym), .lit (.int .i64 x.N), .tree (r_GEx x.Kids)]) (.agg b0) Set.no ∧ w_GEx x := by
    obtain ⟨m, hm⟩ := h0
    obtain ⟨cs2, s1, s2⟩ := trod_sh eok supp m 49 _ _ (by decide) hm hw0
    obtain ⟨x, rfl, hx⟩ := sh_49 s1
    obtain ⟨y0, y1, y2, y3⟩ := x
    simp only [c_GEx] at s2
    exact ⟨⟨y0, y1, y2, y3⟩, by simp only [CR]; exact ⟨b0.toList, by simp, s2⟩, hx⟩
  have lt1 : ∀ x ∈ p1, x.block < W.heap.size := by obtain ⟨m, hm⟩ := h1; exact DataW.trod_lt m _ _ _ hm
  obtain ⟨b1, len1, cap1, rfl⟩ := okWide_slice Try.underlying30 (hval 1 30 v1 rfl rfl)
  have hw1 : ∀ n ∈ d1.weights Try.prog 30, n ≤ reachBytes := fun n hn => by
    have := List.all_eq_true.1 hsz n (DataW.weights_mem_each (j := 1) (t := 30) (d := d1) rfl rfl n hn)
    simpa using this
  obtain ⟨x1, e1, w1⟩ : ∃ x : List Int, CR W (fun b => b < W.heap.size) none (.tree (r_Int x)) (.slice b1 len1 cap1) Set.no ∧ (x.length * 8 ≤ reachBytes ∧ ∀ y ∈ x, (Lit.int .i64 y).wf = true) := by
    obtain ⟨m, hm⟩ := h1
    obtain ⟨cs2, s1, s2⟩ := trod_sh eok supp m 30 _ _ (by decide) hm hw1
    obtain ⟨x, rfl, hx⟩ := sh_30 s1
    obtain ⟨c, e, hc⟩ := ValsR.single s2
    cases e
    exact ⟨x, hc, hx⟩
  obtain ⟨k, hp⟩ := pure x0 x1 w0 w1
  have hvals : ValsR W (fun b => b < W.heap.size) none [.agg [.lit (.int .i64 x0.Kind), .lit (.int .i64 x0.Sym), .lit (.int .i64 x0.N), .tree (r_GEx x0.Kids)], .tree (r_Int x1)] [.agg b0, .slice b1 len1 cap1] Set.no := by
    simp only [ValsR]
    exact ⟨Set.no, Set.no, e0, ⟨Set.no, Set.no, e1, True.intro, Set.le_refl _, Set.le_refl _, Set.no_dis _⟩, Set.le_refl _, Set.le_refl _, Set.no_dis _⟩
  refine Calls.mono' ((c_laws_FnExactTurnEx hp).2 W (fun b => b < W.heap.size) Set.no _ hvals (Set.no_dis _) (fun _ h => h) (fun _ z => z.elim)) ?_
  intro e W' hq
  cases e with
  | panicked _ => exact hq.elim
  | outgrown => exact hq.elim
  | returned v =>
  obtain ⟨imm', T1, T2, _, _, hr, _, _, _, _, _, hkeep, hgrow, hos, hout, htape, _⟩ := hq
  have hv : v = .bool true := by simpa only [CR] using hr
  subst hv
  have bel : RowKit.Below W.heap.size W W' := ⟨hos, htape, hout, hgrow, fun b hb => hkeep b hb (fun z => z)⟩
  exact ⟨_, rfl, _, _, _, [], _, [], hW', trodAll_mk1 (shut_bool Try.underlying4 _), (trodAll_cons_mk (Below.trod laidOut (by kernel_rfl) (of_decide_eq_true (by kernel_rfl)) h0 bel lt0) (trodAll_cons_mk (Below.trod laidOut (by kernel_rfl) (of_decide_eq_true (by kernel_rfl)) h1 bel lt1) trodAll_mk0)), rfl, bel.frame _, fun h => by cases h⟩
theorem over (pure : Pure) : Rows.fnExactTurnExRow.holds Try.pinned (OpenSpec.ofChange Rows.fnExactTurnExSpec) :=
  OpenClaim.holds_of_wide 6 Try.f6 rfl rfl rfl rfl rfl rfl rfl ⟨rfl, rfl, rfl, rfl, rfl⟩ rfl rfl rfl rfl rfl (by kernel_rfl) Try.func6 (by kernel_rfl)
    (of_decide_eq_true (by kernel_rfl)) (by unfold Func.isWrapper; first | (rw [if_pos (by decide +kernel)]; kernel_rfl) | (rw [if_neg (by decide +kernel)]; exact ⟨rfl, rfl⟩))
    (fun os started H enc _ => lifted pure os started H enc)
end Go.Proofs.Ytgbgabkdbfeibaa.fnExactTurnEx
