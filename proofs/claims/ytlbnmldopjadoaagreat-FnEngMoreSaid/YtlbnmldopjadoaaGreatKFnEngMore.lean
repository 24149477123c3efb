/- The row of FnEngMore, out of the statement about data. -/
import Derived.Test.YtlbnmldopjadoaaGreatC5
import Derived.Test.YtlbnmldopjadoaaGreatRows
import Derived.WalkKit
import Derived.ProofKit
import Derived.OpenShut
import Derived.ShutString
import Derived.ChangeOld
import Derived.Below
import Derived.SizedLaws
namespace Go.Proofs.YtlbnmldopjadoaaGreat.fnEngMore
open Go Go.Vm Go.ChangeShapes Go.WideShapes Go.ChangeAt Go.RowKit
set_option linter.unusedVariables false
theorem sh_5 {n : Nat} {cs : List A} (h : Sh E n 5 cs) : ∃ x : Int, cs = [.lit (.int .u8 x)] ∧ (Lit.int .u8 x).wf = true := by
  cases n with
  | zero => exact h.elim
  | succ n =>
  simp only [Sh, show (E.info 5).td = .int .u8 from rfl] at h
  exact h
theorem Bo {n : Nat} {cs : List A} (h : Sh E n 22 cs) : ∃ x : List Int, cs = [.tree (jy x)] ∧ (x.length * 1 ≤ reachBytes ∧ ∀ y ∈ x, (Lit.int .u8 y).wf = true) := by
  cases n with
  | zero => exact h.elim
  | succ n =>
  simp only [Sh, show (E.info 22).td = .slice 5 from rfl] at h
  obtain ⟨rows, rfl, h1, h2⟩ := h
  obtain ⟨l, e, hl⟩ := ww (c := c_Iu8) (W := fun y => (Lit.int .u8 y).wf = true) (fun r hr => by obtain ⟨x, e, w⟩ := sh_5 (h2 r hr); exact ⟨x, e, w⟩)
  refine ⟨l, by rw [e]; rfl, ?_, hl⟩
  rw [e, List.length_map] at h1
  exact h1
/-- the one statement about data alone -/
def CE : Prop := ∀ (p0 : List Int) (p1 : List Int), (p0.length * 1 ≤ reachBytes ∧ ∀ y ∈ p0, (Lit.int .u8 y).wf = true) → (p1.length * 1 ≤ reachBytes ∧ ∀ y ∈ p1, (Lit.int .u8 y).wf = true) → ∃ k, aU.f k p0 p1 = some true
theorem own : ownKnob Tryz.prog.godebug = none := by kernel_rfl
theorem xI : laidOutB Tryz.prog = true := by kernel_rfl
theorem Cs : Bk E [22, 5] = true := by kernel_rfl
set_option maxRecDepth 100000 in
theorem lifted (pure : CE) (os : Os) (started : os.Started) (H : Type) (enc : TypeId × Value → H) :
    ReturnsInHanded {} Tryz.checked os 6 .any (Rows.fnEngMoreSpec.pre6 enc Tryz.prog Tryz.f6 Rows.fnEngMoreRow.domain false) (Rows.fnEngMoreSpec.post enc Tryz.prog Tryz.f6 false true false false) := by
  refine returnsInHanded_of_change_sized (C := Tryz.checked) own started (by kernel_rfl) Tryz.func6
    (ChangeSpec.witness6 (enc := enc) (C := Tryz.checked) false ⟨#[], #[.slice none 0 0, .slice none 0 0], []⟩ 8 (by kernel_rfl) (by kernel_rfl) (by kernel_rfl) (by kernel_rfl)) ?_
  intro W base args ds gs before hval0 hW hcnd hsz0 _
  have hsz : (DataW.weightsEach Tryz.prog (Tryz.f6.params.toList ++ Rows.fnEngMoreSpec.plain.varTypes Tryz.prog) (ds ++ gs)).all (· ≤ reachBytes) = true := hsz0
  have hval : ∀ (j : Nat) t v, Tryz.f6.params[j]? = some t → args[j]? = some v → Value.okWide Tryz.prog W .any base t v := hval0
  have hW' := hW
  obtain ⟨p, q, hA0, hV, rfl, hfz, hnd⟩ := hW
  have hA : DataW.TrodAll enc Tryz.prog W 0 (fun _ => true) true Tryz.f6.params.toList args.toList ds p := hA0
  rw [Tryz.params6] at hA hval
  have hargs := hA
  obtain ⟨v0, vs0, d0, ds0, p0, q0, hargs, rfl, rfl, h0, r0⟩ := trodAll_cons hA
  obtain ⟨v1, vs1, d1, ds1, p1, q1, rfl, rfl, rfl, h1, r1⟩ := trodAll_cons r0
  obtain ⟨rfl, rfl, rfl⟩ := trodAll_nil r1
  obtain rfl : args = #[v0, v1] := by cases args; simp_all
  obtain ⟨rfl, rfl⟩ := trodVars_none hV
  have lt0 : ∀ x ∈ p0, x.block < W.heap.size := by obtain ⟨m, hm⟩ := h0; exact DataW.trod_lt m _ _ _ hm
  obtain ⟨b0, len0, cap0, rfl⟩ := okWide_slice Tryz.underlying22 (hval 0 22 v0 rfl rfl)
  have hw0 : ∀ n ∈ d0.weights Tryz.prog 22, n ≤ reachBytes := fun n hn => by
    have := List.all_eq_true.1 hsz n (DataW.weights_mem_each (j := 0) (t := 22) (d := d0) rfl rfl n hn)
    simpa using this
  obtain ⟨x0, e0, w0⟩ : ∃ x : List Int, CR W (fun b => b < W.heap.size) none (tA (jy x)) (.slice b0 len0 cap0) Set.no ∧ (x.length * 1 ≤ reachBytes ∧ ∀ y ∈ x, (Lit.int .u8 y).wf = true) := by
    obtain ⟨m, hm⟩ := h0
    obtain ⟨cs2, s1, s2⟩ := pV eok Cs m 22 _ _ (by decide) hm hw0
    obtain ⟨x, rfl, hx⟩ := Bo s1
    obtain ⟨c, e, hc⟩ := af.single s2
    cases e
    exact ⟨x, hc, hx⟩
  have lt1 : ∀ x ∈ p1, x.block < W.heap.size := by obtain ⟨m, hm⟩ := h1; exact DataW.trod_lt m _ _ _ hm
  obtain ⟨b1, len1, cap1, rfl⟩ := okWide_slice Tryz.underlying22 (hval 1 22 v1 rfl rfl)
  have hw1 : ∀ n ∈ d1.weights Tryz.prog 22, n ≤ reachBytes := fun n hn => by
    have := List.all_eq_true.1 hsz n (DataW.weights_mem_each (j := 1) (t := 22) (d := d1) rfl rfl n hn)
    simpa using this
  obtain ⟨x1, e1, w1⟩ : ∃ x : List Int, CR W (fun b => b < W.heap.size) none (tA (jy x)) (.slice b1 len1 cap1) Set.no ∧ (x.length * 1 ≤ reachBytes ∧ ∀ y ∈ x, (Lit.int .u8 y).wf = true) := by
    obtain ⟨m, hm⟩ := h1
    obtain ⟨cs2, s1, s2⟩ := pV eok Cs m 22 _ _ (by decide) hm hw1
    obtain ⟨x, rfl, hx⟩ := Bo s1
    obtain ⟨c, e, hc⟩ := af.single s2
    cases e
    exact ⟨x, hc, hx⟩
  obtain ⟨k, hp⟩ := pure x0 x1 w0 w1
  have hvals : af W (fun b => b < W.heap.size) none [tA (jy x0), tA (jy x1)] [.slice b0 len0 cap0, .slice b1 len1 cap1] Set.no := by
    simp only [af]
    exact ⟨Set.no, Set.no, e0, ⟨Set.no, Set.no, e1, True.intro, Set.le_refl _, Set.le_refl _, Set.no_dis _⟩, Set.le_refl _, Set.le_refl _, Set.no_dis _⟩
  refine Calls.mono' ((rq .mk hp).2 W (fun b => b < W.heap.size) Set.no _ hvals (Set.no_dis _) (fun _ h => h) (fun _ z => z.elim)) ?_
  intro e W' hq
  cases e with
  | panicked _ => exact hq.elim
  | outgrown => exact hq.elim
  | returned v =>
  obtain ⟨imm', T1, T2, _, _, hr, _, _, _, _, _, hkeep, hgrow, hos, hout, htape, _⟩ := hq
  have hv : v = .bool true := by simpa only [CR] using hr
  subst hv
  have bel : RowKit.Below W.heap.size W W' := ⟨hos, htape, hout, hgrow, fun b hb => hkeep b hb (fun z => z)⟩
  exact ⟨_, rfl, _, _, _, [], _, [], hW', trodAll_mk1 (shut_bool Tryz.underlying4 _), (trodAll_cons_mk (Below.trod xI (by kernel_rfl) (of_decide_eq_true (by kernel_rfl)) h0 bel lt0) (trodAll_cons_mk (Below.trod xI (by kernel_rfl) (of_decide_eq_true (by kernel_rfl)) h1 bel lt1) trodAll_mk0)), rfl, bel.frame _, fun h => by cases h⟩
theorem dv {a b : Bool} (h : a = true) (g : b = true) : (a && b) = true := by rw [h, g]; rfl
theorem fact0 : (Rows.fnEngMoreRow.wf (OpenSpec.ofChange Rows.fnEngMoreSpec)) = true := by kernel_rfl
theorem fact1 : (laidOutB Tryz.prog) = true := by kernel_rfl
theorem fact2 : (mapsRowed Tryz.prog) = true := by kernel_rfl
theorem fact3 : (Tryz.f6.params.all (Tryz.prog.readableRec ·)) = true := by kernel_rfl
theorem fact4 : (namedTie Tryz.prog Rows.fnEngMoreRow.named Rows.fnEngMoreSpec.vars) = true := by kernel_rfl
theorem fact5 : ((Rows.fnEngMoreRow.stops == [])) = true := by kernel_rfl
theorem fact6 : ((Tryz.prog.stops == [])) = true := by kernel_rfl
theorem fact7 : ((Rows.fnEngMoreRow.knobs == [])) = true := by kernel_rfl
theorem fact8 : ((Tryz.prog.stopKnobs == [])) = true := by kernel_rfl
theorem fact9 : ((Rows.fnEngMoreRow.inPlace == Tryz.prog.inPlace (6 : FuncId))) = true := by kernel_rfl
theorem B2 : ((Rows.fnEngMoreRow.unfollowed == Tryz.prog.unfollowed (6 : FuncId))) = true := by kernel_rfl
theorem CU : ((Rows.fnEngMoreRow.recurses == Tryz.prog.recurses (6 : FuncId))) = true := by kernel_rfl
theorem CB : ((Rows.fnEngMoreRow.named == Tryz.prog.varsNamed (6 : FuncId))) = true := by kernel_rfl
theorem Ct : ((Rows.fnEngMoreRow.maps == (Tryz.f6.params.toList ++ Rows.fnEngMoreSpec.plain.varTypes Tryz.prog).any (Tryz.prog.mapsRec ·))) = true := by kernel_rfl
theorem Cp : ((Rows.fnEngMoreRow.ifaces == (Tryz.f6.params.toList ++ Rows.fnEngMoreSpec.plain.varTypes Tryz.prog).any (Tryz.prog.ifacesRec ·))) = true := by kernel_rfl
theorem CJ : ((Rows.fnEngMoreRow.mapsOut == Tryz.prog.mapsAmong Tryz.f6.resultTypes.toList)) = true := by kernel_rfl
theorem Cn : ((Rows.fnEngMoreRow.loops == (Tryz.f6.params.toList ++ Rows.fnEngMoreSpec.plain.varTypes Tryz.prog).any (Tryz.prog.loopsFrom ·))) = true := by kernel_rfl
theorem CK : ((Rows.fnEngMoreRow.wideKeys == (Tryz.f6.params.toList ++ Rows.fnEngMoreSpec.plain.varTypes Tryz.prog ++ Tryz.f6.resultTypes.toList).any (Tryz.prog.wideKeysFrom ·))) = true := by kernel_rfl
theorem CQ : (Rows.fnEngMoreSpec.vars.all (Tryz.prog.varReadable ·)) = true := by kernel_rfl
theorem Cw : (Tryz.f6.resultTypes.all (fun t => Tryz.prog.readableRec t && decide (t < Tryz.prog.types.size))) = true := by kernel_rfl
theorem Cq : ((Rows.fnEngMoreRow.ifacesOut == Tryz.f6.resultTypes.toList.any (Tryz.prog.ifacesRec ·))) = true := by kernel_rfl
theorem Cz : ((Rows.fnEngMoreRow.loopsOut == Tryz.f6.resultTypes.toList.any (Tryz.prog.loopsFrom ·))) = true := by kernel_rfl
theorem CG : ((Rows.fnEngMoreRow.plainKeys == Tryz.prog.plainKeys)) = true := by kernel_rfl
theorem Cy : (Rows.fnEngMoreRow.shortTexts.isNone) = true := by kernel_rfl
theorem CH : (Tryz.prog.stopsHeard) = true := by kernel_rfl
theorem Ce : (Tryz.prog.mayEnter) = true := by kernel_rfl
theorem Ck : ((Rows.fnEngMoreRow.lifted == Tryz.prog.liftsFinal)) = true := by kernel_rfl
theorem Cj : ((Tryz.prog.make == some Rows.fnEngMoreRow.make)) = true := by kernel_rfl
theorem Co : ((Rows.fnEngMoreRow.kinds == (if Rows.fnEngMoreRow.domain.isEmpty then [] else Tryz.f6.params.toList.map fun t => match Tryz.prog.underlying t with | some (.int k) => some k | _ => none))) = true := by kernel_rfl
theorem B3 : ((Rows.fnEngMoreRow.pinned == Rows.fnEngMoreRow.pinnedBy)) = true := by kernel_rfl
theorem Cm : ((Rows.fnEngMoreRow.veiled == (Tryz.f6.params.toList ++ Rows.fnEngMoreSpec.plain.varTypes Tryz.prog ++ Tryz.f6.resultTypes.toList).any (Tryz.prog.veiledRec ·))) = true := by kernel_rfl
theorem CI : (Rows.fnEngMoreRow.veiledFits Tryz.prog Tryz.f6.params.toList (Tryz.f6.params.toList ++ Rows.fnEngMoreSpec.plain.varTypes Tryz.prog ++ Tryz.f6.resultTypes.toList)) = true := by kernel_rfl
set_option maxRecDepth 100000 in
theorem CP : joinedFacts Tryz.prog 6 Tryz.f6 Rows.fnEngMoreSpec Rows.fnEngMoreRow = true := dv (dv (dv (dv (dv (dv (dv (dv (dv (dv (dv (dv (dv (dv (dv (dv (dv (dv (dv (dv (dv (dv (dv (dv (dv (dv (dv (dv (dv (dv (dv fact0 fact1) fact2) fact3) fact4) fact5) fact6) fact7) fact8) fact9) B2) CU) CB) Ct) Cp) CJ) Cn) CK) CQ) Cw) Cq) Cz) CG) Cy) CH) Ce) Ck) Cj) Co) B3) Cm) CI
theorem over (pure : CE) : Rows.fnEngMoreRow.holds Tryz.pinned (OpenSpec.ofChange Rows.fnEngMoreSpec) :=
  OpenClaim.holds_of_wide 6 Tryz.f6 rfl rfl rfl rfl rfl rfl rfl ⟨rfl, rfl, rfl, rfl, rfl⟩ rfl rfl rfl rfl rfl (by kernel_rfl) Tryz.func6 CP
    (of_decide_eq_true (by kernel_rfl)) (by unfold Func.isWrapper; first | (rw [if_pos (by decide +kernel)]; kernel_rfl) | (rw [if_neg (by decide +kernel)]; exact ⟨rfl, rfl⟩))
    (fun os started H enc _ => lifted pure os started H enc)
end Go.Proofs.YtlbnmldopjadoaaGreat.fnEngMore
