/- The row of FnEngOne, out of the statement about data. -/
import Derived.Test.YtlbnmldopjadoaaGreatC5
import Derived.Test.YtlbnmldopjadoaaGreatRows
import Derived.WalkKit
import Derived.ProofKit
import Derived.OpenShut
import Derived.ShutString
import Derived.ChangeOld
import Derived.Below
import Derived.SizedLaws
namespace Go.Proofs.YtlbnmldopjadoaaGreat.fnEngOne
open Go Go.Vm Go.ChangeShapes Go.WideShapes Go.ChangeAt Go.RowKit
set_option linter.unusedVariables false
theorem sh_5 {n : Nat} {cs : List A} (h : Sh E n 5 cs) : ∃ x : Int, cs = [.lit (.int .u8 x)] ∧ (Lit.int .u8 x).wf = true := by
  cases n with
  | zero => exact h.elim
  | succ n =>
  simp only [Sh, show (E.info 5).td = .int .u8 from rfl] at h
  exact h
theorem AU {n : Nat} {cs : List A} (h : Sh E n 22 cs) : ∃ x : List Int, cs = [.tree (jj x)] ∧ (x.length * 1 ≤ reachBytes ∧ ∀ y ∈ x, (Lit.int .u8 y).wf = true) := by
  cases n with
  | zero => exact h.elim
  | succ n =>
  simp only [Sh, show (E.info 22).td = .slice 5 from rfl] at h
  obtain ⟨rows, rfl, h1, h2⟩ := h
  obtain ⟨l, e, hl⟩ := we (c := c_Iu8) (W := fun y => (Lit.int .u8 y).wf = true) (fun r hr => by obtain ⟨x, e, w⟩ := sh_5 (h2 r hr); exact ⟨x, e, w⟩)
  refine ⟨l, by rw [e]; rfl, ?_, hl⟩
  rw [e, List.length_map] at h1
  exact h1
/-- the one statement about data alone -/
def Cc : Prop := ∀ (p0 : List Int) (p1 : List Int), (p0.length * 1 ≤ reachBytes ∧ ∀ y ∈ p0, (Lit.int .u8 y).wf = true) → (p1.length * 1 ≤ reachBytes ∧ ∀ y ∈ p1, (Lit.int .u8 y).wf = true) → ∃ k, aV.f k p0 p1 = some true
theorem own : ownKnob Tryz.prog.godebug = none := by kernel_rfl
theorem xm : laidOutB Tryz.prog = true := by kernel_rfl
theorem B0 : AP E [22, 5] = true := by kernel_rfl
set_option maxRecDepth 100000 in
theorem lifted (pure : Cc) (os : Os) (started : os.Started) (H : Type) (enc : TypeId × Value → H) :
    ReturnsInHanded {} Tryz.checked os 5 .any (Rows.fnEngOneSpec.pre6 enc Tryz.prog Tryz.f5 Rows.fnEngOneRow.domain false) (Rows.fnEngOneSpec.post enc Tryz.prog Tryz.f5 false true false false) := by
  refine returnsInHanded_of_change_sized (C := Tryz.checked) own started (by kernel_rfl) Tryz.func5
    (ChangeSpec.witness6 (enc := enc) (C := Tryz.checked) false ⟨#[], #[.slice none 0 0, .slice none 0 0], []⟩ 8 (by kernel_rfl) (by kernel_rfl) (by kernel_rfl) (by kernel_rfl)) ?_
  intro W base args ds gs before hval0 hW hcnd hsz0 _
  have hsz : (DataW.weightsEach Tryz.prog (Tryz.f5.params.toList ++ Rows.fnEngOneSpec.plain.varTypes Tryz.prog) (ds ++ gs)).all (· ≤ reachBytes) = true := hsz0
  have hval : ∀ (j : Nat) t v, Tryz.f5.params[j]? = some t → args[j]? = some v → Value.okWide Tryz.prog W .any base t v := hval0
  have hW' := hW
  obtain ⟨p, q, hA0, hV, rfl, hfz, hnd⟩ := hW
  have hA : DataW.TrodAll enc Tryz.prog W 0 (fun _ => true) true Tryz.f5.params.toList args.toList ds p := hA0
  rw [Tryz.params5] at hA hval
  have hargs := hA
  obtain ⟨v0, vs0, d0, ds0, p0, q0, hargs, rfl, rfl, h0, r0⟩ := trodAll_cons hA
  obtain ⟨v1, vs1, d1, ds1, p1, q1, rfl, rfl, rfl, h1, r1⟩ := trodAll_cons r0
  obtain ⟨rfl, rfl, rfl⟩ := trodAll_nil r1
  obtain rfl : args = #[v0, v1] := by cases args; simp_all
  obtain ⟨rfl, rfl⟩ := trodVars_none hV
  have lt0 : ∀ x ∈ p0, x.block < W.heap.size := by obtain ⟨m, hm⟩ := h0; exact DataW.trod_lt m _ _ _ hm
  obtain ⟨b0, len0, cap0, rfl⟩ := okWide_slice Tryz.underlying22 (hval 0 22 v0 rfl rfl)
  have hw0 : ∀ n ∈ d0.weights Tryz.prog 22, n ≤ reachBytes := fun n hn => by
    have := List.all_eq_true.1 hsz n (DataW.weights_mem_each (j := 0) (t := 22) (d := d0) rfl rfl n hn)
    simpa using this
  obtain ⟨x0, e0, w0⟩ : ∃ x : List Int, CR W (fun b => b < W.heap.size) none (tA (jj x)) (.slice b0 len0 cap0) Set.no ∧ (x.length * 1 ≤ reachBytes ∧ ∀ y ∈ x, (Lit.int .u8 y).wf = true) := by
    obtain ⟨m, hm⟩ := h0
    obtain ⟨cs2, s1, s2⟩ := pN eok B0 m 22 _ _ (by decide) hm hw0
    obtain ⟨x, rfl, hx⟩ := AU s1
    obtain ⟨c, e, hc⟩ := af.single s2
    cases e
    exact ⟨x, hc, hx⟩
  have lt1 : ∀ x ∈ p1, x.block < W.heap.size := by obtain ⟨m, hm⟩ := h1; exact DataW.trod_lt m _ _ _ hm
  obtain ⟨b1, len1, cap1, rfl⟩ := okWide_slice Tryz.underlying22 (hval 1 22 v1 rfl rfl)
  have hw1 : ∀ n ∈ d1.weights Tryz.prog 22, n ≤ reachBytes := fun n hn => by
    have := List.all_eq_true.1 hsz n (DataW.weights_mem_each (j := 1) (t := 22) (d := d1) rfl rfl n hn)
    simpa using this
  obtain ⟨x1, e1, w1⟩ : ∃ x : List Int, CR W (fun b => b < W.heap.size) none (tA (jj x)) (.slice b1 len1 cap1) Set.no ∧ (x.length * 1 ≤ reachBytes ∧ ∀ y ∈ x, (Lit.int .u8 y).wf = true) := by
    obtain ⟨m, hm⟩ := h1
    obtain ⟨cs2, s1, s2⟩ := pN eok B0 m 22 _ _ (by decide) hm hw1
    obtain ⟨x, rfl, hx⟩ := AU s1
    obtain ⟨c, e, hc⟩ := af.single s2
    cases e
    exact ⟨x, hc, hx⟩
  obtain ⟨k, hp⟩ := pure x0 x1 w0 w1
  have hvals : af W (fun b => b < W.heap.size) none [tA (jj x0), tA (jj x1)] [.slice b0 len0 cap0, .slice b1 len1 cap1] Set.no := by
    simp only [af]
    exact ⟨Set.no, Set.no, e0, ⟨Set.no, Set.no, e1, True.intro, Set.le_refl _, Set.le_refl _, Set.no_dis _⟩, Set.le_refl _, Set.le_refl _, Set.no_dis _⟩
  refine Calls.mono' ((rW .mk hp).2 W (fun b => b < W.heap.size) Set.no _ hvals (Set.no_dis _) (fun _ h => h) (fun _ z => z.elim)) ?_
  intro e W' hq
  cases e with
  | panicked _ => exact hq.elim
  | outgrown => exact hq.elim
  | returned v =>
  obtain ⟨imm', T1, T2, _, _, hr, _, _, _, _, _, hkeep, hgrow, hos, hout, htape, _⟩ := hq
  have hv : v = .bool true := by simpa only [CR] using hr
  subst hv
  have bel : RowKit.Below W.heap.size W W' := ⟨hos, htape, hout, hgrow, fun b hb => hkeep b hb (fun z => z)⟩
  exact ⟨_, rfl, _, _, _, [], _, [], hW', trodAll_mk1 (shut_bool Tryz.underlying4 _), (trodAll_cons_mk (Below.trod xm (by kernel_rfl) (of_decide_eq_true (by kernel_rfl)) h0 bel lt0) (trodAll_cons_mk (Below.trod xm (by kernel_rfl) (of_decide_eq_true (by kernel_rfl)) h1 bel lt1) trodAll_mk0)), rfl, bel.frame _, fun h => by cases h⟩
theorem dj {a b : Bool} (h : a = true) (g : b = true) : (a && b) = true := by rw [h, g]; rfl
theorem fact0 : (Rows.fnEngOneRow.wf (OpenSpec.ofChange Rows.fnEngOneSpec)) = true := by kernel_rfl
theorem fact1 : (laidOutB Tryz.prog) = true := by kernel_rfl
theorem fact2 : (mapsRowed Tryz.prog) = true := by kernel_rfl
theorem fact3 : (Tryz.f5.params.all (Tryz.prog.readableRec ·)) = true := by kernel_rfl
theorem fact4 : (namedTie Tryz.prog Rows.fnEngOneRow.named Rows.fnEngOneSpec.vars) = true := by kernel_rfl
theorem fact5 : ((Rows.fnEngOneRow.stops == [])) = true := by kernel_rfl
theorem fact6 : ((Tryz.prog.stops == [])) = true := by kernel_rfl
theorem fact7 : ((Rows.fnEngOneRow.knobs == [])) = true := by kernel_rfl
theorem fact8 : ((Tryz.prog.stopKnobs == [])) = true := by kernel_rfl
theorem fact9 : ((Rows.fnEngOneRow.inPlace == Tryz.prog.inPlace (5 : FuncId))) = true := by kernel_rfl
theorem Bz : ((Rows.fnEngOneRow.unfollowed == Tryz.prog.unfollowed (5 : FuncId))) = true := by kernel_rfl
theorem Cq : ((Rows.fnEngOneRow.recurses == Tryz.prog.recurses (5 : FuncId))) = true := by kernel_rfl
theorem B9 : ((Rows.fnEngOneRow.named == Tryz.prog.varsNamed (5 : FuncId))) = true := by kernel_rfl
theorem B1 : ((Rows.fnEngOneRow.maps == (Tryz.f5.params.toList ++ Rows.fnEngOneSpec.plain.varTypes Tryz.prog).any (Tryz.prog.mapsRec ·))) = true := by kernel_rfl
theorem BX : ((Rows.fnEngOneRow.ifaces == (Tryz.f5.params.toList ++ Rows.fnEngOneSpec.plain.varTypes Tryz.prog).any (Tryz.prog.ifacesRec ·))) = true := by kernel_rfl
theorem Cg : ((Rows.fnEngOneRow.mapsOut == Tryz.prog.mapsAmong Tryz.f5.resultTypes.toList)) = true := by kernel_rfl
theorem BV : ((Rows.fnEngOneRow.loops == (Tryz.f5.params.toList ++ Rows.fnEngOneSpec.plain.varTypes Tryz.prog).any (Tryz.prog.loopsFrom ·))) = true := by kernel_rfl
theorem Ch : ((Rows.fnEngOneRow.wideKeys == (Tryz.f5.params.toList ++ Rows.fnEngOneSpec.plain.varTypes Tryz.prog ++ Tryz.f5.resultTypes.toList).any (Tryz.prog.wideKeysFrom ·))) = true := by kernel_rfl
theorem Cn : (Rows.fnEngOneSpec.vars.all (Tryz.prog.varReadable ·)) = true := by kernel_rfl
theorem B4 : (Tryz.f5.resultTypes.all (fun t => Tryz.prog.readableRec t && decide (t < Tryz.prog.types.size))) = true := by kernel_rfl
theorem BY : ((Rows.fnEngOneRow.ifacesOut == Tryz.f5.resultTypes.toList.any (Tryz.prog.ifacesRec ·))) = true := by kernel_rfl
theorem B7 : ((Rows.fnEngOneRow.loopsOut == Tryz.f5.resultTypes.toList.any (Tryz.prog.loopsFrom ·))) = true := by kernel_rfl
theorem Cd : ((Rows.fnEngOneRow.plainKeys == Tryz.prog.plainKeys)) = true := by kernel_rfl
theorem B6 : (Rows.fnEngOneRow.shortTexts.isNone) = true := by kernel_rfl
theorem Ce : (Tryz.prog.stopsHeard) = true := by kernel_rfl
theorem BL : (Tryz.prog.mayEnter) = true := by kernel_rfl
theorem BS : ((Rows.fnEngOneRow.lifted == Tryz.prog.liftsFinal)) = true := by kernel_rfl
theorem BR : ((Tryz.prog.make == some Rows.fnEngOneRow.make)) = true := by kernel_rfl
theorem BW : ((Rows.fnEngOneRow.kinds == (if Rows.fnEngOneRow.domain.isEmpty then [] else Tryz.f5.params.toList.map fun t => match Tryz.prog.underlying t with | some (.int k) => some k | _ => none))) = true := by kernel_rfl
theorem BB : ((Rows.fnEngOneRow.pinned == Rows.fnEngOneRow.pinnedBy)) = true := by kernel_rfl
theorem BU : ((Rows.fnEngOneRow.veiled == (Tryz.f5.params.toList ++ Rows.fnEngOneSpec.plain.varTypes Tryz.prog ++ Tryz.f5.resultTypes.toList).any (Tryz.prog.veiledRec ·))) = true := by kernel_rfl
theorem Cf : (Rows.fnEngOneRow.veiledFits Tryz.prog Tryz.f5.params.toList (Tryz.f5.params.toList ++ Rows.fnEngOneSpec.plain.varTypes Tryz.prog ++ Tryz.f5.resultTypes.toList)) = true := by kernel_rfl
set_option maxRecDepth 100000 in
theorem Cm : joinedFacts Tryz.prog 5 Tryz.f5 Rows.fnEngOneSpec Rows.fnEngOneRow = true := dj (dj (dj (dj (dj (dj (dj (dj (dj (dj (dj (dj (dj (dj (dj (dj (dj (dj (dj (dj (dj (dj (dj (dj (dj (dj (dj (dj (dj (dj (dj fact0 fact1) fact2) fact3) fact4) fact5) fact6) fact7) fact8) fact9) Bz) Cq) B9) B1) BX) Cg) BV) Ch) Cn) B4) BY) B7) Cd) B6) Ce) BL) BS) BR) BW) BB) BU) Cf
theorem over (pure : Cc) : Rows.fnEngOneRow.holds Tryz.pinned (OpenSpec.ofChange Rows.fnEngOneSpec) :=
  OpenClaim.holds_of_wide 5 Tryz.f5 rfl rfl rfl rfl rfl rfl rfl ⟨rfl, rfl, rfl, rfl, rfl⟩ rfl rfl rfl rfl rfl (by kernel_rfl) Tryz.func5 Cm
    (of_decide_eq_true (by kernel_rfl)) (by unfold Func.isWrapper; first | (rw [if_pos (by decide +kernel)]; kernel_rfl) | (rw [if_neg (by decide +kernel)]; exact ⟨rfl, rfl⟩))
    (fun os started H enc _ => lifted pure os started H enc)
end Go.Proofs.YtlbnmldopjadoaaGreat.fnEngOne
