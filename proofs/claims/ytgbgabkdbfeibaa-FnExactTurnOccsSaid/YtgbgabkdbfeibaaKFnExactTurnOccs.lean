/- The row of FnExactTurnOccs, out of the statement about data. -/
import Derived.Test.YtgbgabkdbfeibaaC1
import Derived.Test.YtgbgabkdbfeibaaRows
import Derived.WalkKit
import Derived.ProofKit
import Derived.OpenShut
import Derived.ShutString
import Derived.ChangeOld
import Derived.Below
import Derived.SizedLaws
namespace Go.Proofs.Ytgbgabkdbfeibaa.fnExactTurnOccs
open Go Go.Vm Go.ChangeShapes Go.WideShapes Go.ChangeAt Go.RowKit
set_option linter.unusedVariables false
theorem sh_3 {n : Nat} {cs : List A} (h : Sh E n 3 cs) : ∃ x : Int, cs = [.lit (.int .i64 x)] ∧ (Lit.int .i64 x).wf = true := by
  cases n with
  | zero => exact h.elim
  | succ n =>
  simp only [Sh, show (E.info 3).td = .int .i64 from rfl] at h
  exact h
theorem sh_30 {n : Nat} {cs : List A} (h : Sh E n 30 cs) : ∃ x : List Int, cs = [.tree (r_Int x)] ∧ (x.length * 8 ≤ reachBytes ∧ ∀ y ∈ x, (Lit.int .i64 y).wf = true) := by
  cases n with
  | zero => exact h.elim
  | succ n =>
  simp only [Sh, show (E.info 30).td = .slice 3 from rfl] at h
  obtain ⟨rows, rfl, h1, h2⟩ := h
  obtain ⟨l, e, hl⟩ := rows_all (c := c_Int) (W := fun y => (Lit.int .i64 y).wf = true) (fun r hr => by obtain ⟨x, e, w⟩ := sh_3 (h2 r hr); exact ⟨x, e, w⟩)
  refine ⟨l, by rw [e]; rfl, ?_, hl⟩
  rw [e, List.length_map] at h1
  exact h1
def w_GOcc (x : GOcc) : Prop := (Lit.int .i64 x.From).wf = true ∧ (Lit.int .i64 x.To).wf = true ∧ (x.Ids.length * 8 ≤ reachBytes ∧ ∀ y ∈ x.Ids, (Lit.int .i64 y).wf = true)
theorem sh_90 {n : Nat} {cs : List A} (h : Sh E n 90 cs) : ∃ x : GOcc, cs = c_GOcc x ∧ w_GOcc x := by
  cases n with
  | zero => exact h.elim
  | succ n =>
  simp only [Sh, show (E.info 90).td = .struct [(0, 3), (1, 3), (2, 30)] from rfl, ShF] at h
  obtain ⟨p0, q0, rfl, h0, p1, q1, rfl, h1, p2, q2, rfl, h2, rfl⟩ := h
  obtain ⟨x0, rfl, w0⟩ := sh_3 h0
  obtain ⟨x1, rfl, w1⟩ := sh_3 h1
  obtain ⟨x2, rfl, w2⟩ := sh_30 h2
  exact ⟨⟨x0, x1, x2⟩, by simp [c_GOcc], w0, w1, w2⟩
theorem sh_59 {n : Nat} {cs : List A} (h : Sh E n 59 cs) : ∃ x : List GOcc, cs = [.tree (r_GOcc x)] ∧ (x.length * 40 ≤ reachBytes ∧ ∀ y ∈ x, w_GOcc y) := by
  cases n with
  | zero => exact h.elim
  | succ n =>
  simp only [Sh, show (E.info 59).td = .slice 90 from rfl] at h
  obtain ⟨rows, rfl, h1, h2⟩ := h
  obtain ⟨l, e, hl⟩ := rows_all (c := c_GOcc) (W := fun y => w_GOcc y) (fun r hr => by obtain ⟨x, e, w⟩ := sh_90 (h2 r hr); exact ⟨x, e, w⟩)
  refine ⟨l, by rw [e]; rfl, ?_, hl⟩
  rw [e, List.length_map] at h1
  exact h1
/-- the one statement about data alone -/
def Pure : Prop := ∀ (p0 : List GOcc) (p1 : Int), (p0.length * 40 ≤ reachBytes ∧ ∀ y ∈ p0, w_GOcc y) → (Lit.int .i64 p1).wf = true → ∃ k, laws_FnExactTurnOccs.f k p0 p1 = some true
theorem own : ownKnob Try.prog.godebug = none := by kernel_rfl
theorem laidOut : laidOutB Try.prog = true := by kernel_rfl
theorem supp : suppB E [59, 90, 3, 30] = true := by kernel_rfl
set_option maxRecDepth 100000 in
theorem lifted (pure : Pure) (os : Os) (started : os.Started) (H : Type) (enc : TypeId × Value → H) :
    ReturnsInHanded {} Try.checked os 7 .any (Rows.fnExactTurnOccsSpec.pre6 enc Try.prog Try.f7 Rows.fnExactTurnOccsRow.domain false) (Rows.fnExactTurnOccsSpec.post enc Try.prog Try.f7 false true false false) := by
  refine returnsInHanded_of_change_sized (C := Try.checked) own started (by kernel_rfl) Try.func7
    (ChangeSpec.witness6 (enc := enc) (C := Try.checked) false ⟨#[], #[.slice none 0 0, .int .i64 0], []⟩ 8 (by kernel_rfl) (by kernel_rfl) (by kernel_rfl) (by kernel_rfl)) ?_
  intro W base args ds gs before hval0 hW hcnd hsz0 _
  have hsz : (DataW.weightsEach Try.prog (Try.f7.params.toList ++ Rows.fnExactTurnOccsSpec.plain.varTypes Try.prog) (ds ++ gs)).all (· ≤ reachBytes) = true := hsz0
  have hval : ∀ (j : Nat) t v, Try.f7.params[j]? = some t → args[j]? = some v → Value.okWide Try.prog W .any base t v := hval0
  have hW' := hW
  obtain ⟨p, q, hA0, hV, rfl, hfz, hnd⟩ := hW
  have hA : DataW.TrodAll enc Try.prog W 0 (fun _ => true) true Try.f7.params.toList args.toList ds p := hA0
  rw [Try.params7] at hA hval
  have hargs := hA
  obtain ⟨v0, vs0, d0, ds0, p0, q0, hargs, rfl, rfl, h0, r0⟩ := trodAll_cons hA
  obtain ⟨v1, vs1, d1, ds1, p1, q1, rfl, rfl, rfl, h1, r1⟩ := trodAll_cons r0
  obtain ⟨rfl, rfl, rfl⟩ := trodAll_nil r1
  obtain rfl : args = #[v0, v1] := by cases args; simp_all
  obtain ⟨rfl, rfl⟩ := trodVars_none hV
  have lt0 : ∀ x ∈ p0, x.block < W.heap.size := by obtain ⟨m, hm⟩ := h0; exact DataW.trod_lt m _ _ _ hm
  obtain ⟨b0, len0, cap0, rfl⟩ := okWide_slice Try.underlying59 (hval 0 59 v0 rfl rfl)
  have hw0 : ∀ n ∈ d0.weights Try.prog 59, n ≤ reachBytes := fun n hn => by
    have := List.all_eq_true.1 hsz n (DataW.weights_mem_each (j := 0) (t := 59) (d := d0) rfl rfl n hn)
    simpa using this
  obtain ⟨x0, e0, w0⟩ : ∃ x : List GOcc, CR W (fun b => b < W.heap.size) none (.tree (r_GOcc x)) (.slice b0 len0 cap0) Set.no ∧ (x.length * 40 ≤ reachBytes ∧ ∀ y ∈ x, w_GOcc y) := by
    obtain ⟨m, hm⟩ := h0
    obtain ⟨cs2, s1, s2⟩ := trod_sh eok supp m 59 _ _ (by decide) hm hw0
    obtain ⟨x, rfl, hx⟩ := sh_59 s1
    obtain ⟨c, e, hc⟩ := ValsR.single s2
    cases e
    exact ⟨x, hc, hx⟩
  have lt1 : ∀ x ∈ p1, x.block < W.heap.size := by obtain ⟨m, hm⟩ := h1; exact DataW.trod_lt m _ _ _ hm
  obtain ⟨b1, rfl⟩ := okWide_int Try.underlying3 (hval 1 3 v1 rfl rfl)
  have hw1 : ∀ n ∈ d1.weights Try.prog 3, n ≤ reachBytes := fun n hn => by
    have := List.all_eq_true.1 hsz n (DataW.weights_mem_each (j := 1) (t := 3) (d := d1) rfl rfl n hn)
    simpa using this
  obtain ⟨x1, e1, w1⟩ : ∃ x : Int, CR W (fun b => b < W.heap.size) none (.lit (.int .i64 x)) (.int .i64 b1) Set.no ∧ (Lit.int .i64 x).wf = true := by
    obtain ⟨m, hm⟩ := h1
    obtain ⟨cs2, s1, s2⟩ := trod_sh eok supp m 3 _ _ (by decide) hm hw1
    obtain ⟨x, rfl, hx⟩ := sh_3 s1
    obtain ⟨c, e, hc⟩ := ValsR.single s2
    cases e
    exact ⟨x, hc, hx⟩
  obtain ⟨k, hp⟩ := pure x0 x1 w0 w1
  have hvals : ValsR W (fun b => b < W.heap.size) none [.tree (r_GOcc x0), .lit (.int .i64 x1)] [.slice b0 len0 cap0, .int .i64 b1] Set.no := by
    simp only [ValsR]
    exact ⟨Set.no, Set.no, e0, ⟨Set.no, Set.no, e1, True.intro, Set.le_refl _, Set.le_refl _, Set.no_dis _⟩, Set.le_refl _, Set.le_refl _, Set.no_dis _⟩
  refine Calls.mono' ((c_laws_FnExactTurnOccs hp).2 W (fun b => b < W.heap.size) Set.no _ hvals (Set.no_dis _) (fun _ h => h) (fun _ z => z.elim)) ?_
  intro e W' hq
  cases e with
  | panicked _ => exact hq.elim
  | outgrown => exact hq.elim
  | returned v =>
  obtain ⟨imm', T1, T2, _, _, hr, _, _, _, _, _, hkeep, hgrow, hos, hout, htape, _⟩ := hq
  have hv : v = .bool true := by simpa only [CR] using hr
  subst hv
  have bel : RowKit.Below W.heap.size W W' := ⟨hos, htape, hout, hgrow, fun b hb => hkeep b hb (fun z => z)⟩
  exact ⟨_, rfl, _, _, _, [], _, [], hW', trodAll_mk1 (shut_bool Try.underlying4 _), (trodAll_cons_mk (Below.trod laidOut (by kernel_rfl) (of_decide_eq_true (by kernel_rfl)) h0 bel lt0) (trodAll_cons_mk (Below.trod laidOut (by kernel_rfl) (of_decide_eq_true (by kernel_rfl)) h1 bel lt1) trodAll_mk0)), rfl, bel.frame _, fun h => by cases h⟩
theorem over (pure : Pure) : Rows.fnExactTurnOccsRow.holds Try.pinned (OpenSpec.ofChange Rows.fnExactTurnOccsSpec) :=
  OpenClaim.holds_of_wide 7 Try.f7 rfl rfl rfl rfl rfl rfl rfl ⟨rfl, rfl, rfl, rfl, rfl⟩ rfl rfl rfl rfl rfl (by kernel_rfl) Try.func7 (by kernel_rfl)
    (of_decide_eq_true (by kernel_rfl)) (by unfold Func.isWrapper; first | (rw [if_pos (by decide +kernel)]; kernel_rfl) | (rw [if_neg (by decide +kernel)]; exact ⟨rfl, rfl⟩))
    (fun os started H enc _ => lifted pure os started H enc)
end Go.Proofs.Ytgbgabkdbfeibaa.fnExactTurnOccs
