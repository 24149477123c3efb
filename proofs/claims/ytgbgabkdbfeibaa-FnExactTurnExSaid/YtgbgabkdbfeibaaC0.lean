/- The functions of this program do what the plain ones do. -/
import Derived.Test.YtgbgabkdbfeibaaN
import Derived.Test.YtgbgabkdbfeibaaVE
namespace Go.Proofs.Ytgbgabkdbfeibaa
open Go Go.Vm
set_option linter.unusedVariables false
noncomputable abbrev P : Program := Try.prog
theorem c_laws_szEvS {p0 : List GEv} {p1 : Int} {r : Int} (hh : laws_szEvS.f p0 p1 = some r) : FunW P 8 [.tree (r_GEv p0), .lit (.int .i64 p1)] [.hole, .hole] (.lit (.int .i64 r)) := by
  unfold laws_szEvS.f at hh
  refine fun_go2 eok mixed (ts := [(4, none)]) (rm := [.own]) (gs := [1000000, 1000001]) (pm := [.skip, .skip]) Try.func8 (by kernel_rfl) (by kernel_rfl) (by kernel_rfl) ?_
  intro Fn LW len cast toNat wrap add sub mul bin lt eq At set part app fz' rep nadd nmax ssize sext sget scat seq slt Wide Flat Ones Room r' post' hC hF hr hp
  generalize he_GEv : r_GEv = qGEv
  cbv
  replace hh := if_or hh
  rcases hh with ⟨b1, hh⟩ | ⟨b1, hh⟩
  · have f2 : (lt (wrap .i64 (sub p1 (cast (len (qGEv p0))))) 0) = true := by cases hC; subst he_GEv; first | exact decide_eq_true b1 | (simp; done) | (simp; omega) | (simp at b1 ⊢; omega) | (simp at b1 ⊢; exact b1)
    rw [f2]; cbv
    subst hr hp
    cases hh
    cases hC; subst he_GEv; first | (simp; done) | (simp <;> first | rfl | omega | grind)
  · have f2 : (lt (wrap .i64 (sub p1 (cast (len (qGEv p0))))) 0) = false := by cases hC; subst he_GEv; first | exact decide_eq_false b1 | (simp; done) | (simp; omega) | (simp at b1 ⊢; omega) | (simp at b1 ⊢; exact b1)
    rw [f2]; cbv
    subst hr hp
    cases hh
    cases hC; subst he_GEv; first | (simp; done) | (simp <;> first | rfl | omega | grind)

theorem c_laws_toEv {p0 : GEv} {r : GEv} (hh : laws_toEv.f p0 = some r) : FunW P 40 [.agg [.lit (.int .i64 p0.Sym), .lit (.int .i64 p0.At), .lit (.int .i64 p0.Val)]] [.hole] (.agg [.lit (.int .i64 r.Sym), .lit (.int .i64 r.At), .lit (.int .i64 r.Val)]) := by
  obtain ⟨p0_Sym, p0_At, p0_Val⟩ := p0
  unfold laws_toEv.f at hh
  refine fun_go2 eok mixed (ts := [(2, some 67)]) (rm := [.own]) (gs := [1000000]) (pm := [.skip]) Try.func40 (by kernel_rfl) (by kernel_rfl) (by kernel_rfl) ?_
  intro Fn LW len cast toNat wrap add sub mul bin lt eq At set part app fz' rep nadd nmax ssize sext sget scat seq slt Wide Flat Ones Room r' post' hC hF hr hp
  cbv
  subst hr hp
  cases hh
  cases hC; first | (simp; done) | (simp <;> first | rfl | omega | grind)

theorem c_laws_toEvS {k : Nat} {p0 : List GEv} {r : List GEv} (hh : laws_toEvS.f k p0 = some r) : FunW P 10 [.tree (r_GEv p0)] [.hole] (.inl 3 (r_GEv r)) := by
  unfold laws_toEvS.f at hh
  refine fun_go2 eok mixed (ts := [(2, none)]) (rm := [.own]) (gs := [1000000]) (pm := [.skip]) Try.func10 (by kernel_rfl) (by kernel_rfl) (by kernel_rfl) ?_
  intro Fn LW len cast toNat wrap add sub mul bin lt eq At set part app fz' rep nadd nmax ssize sext sget scat seq slt Wide Flat Ones Room r' post' hC hF hr hp
  generalize he_GEv : r_GEv = qGEv
  cbv
  replace hh := req_some hh
  obtain ⟨h1, hh⟩ := hh
  replace hh := req_some hh
  obtain ⟨h2, hh⟩ := hh
  replace hh := req_some hh
  obtain ⟨h3, hh⟩ := hh
  refine ⟨⟨(by cases hC; subst he_GEv; exact decide_eq_false (Int.not_lt.2 (by first | exact h1 | (simp; done) | (simp; omega) | (simp at h1 ⊢; omega) | (simp at h1 ⊢; exact h1)))), (by cases hC; subst he_GEv; exact decide_eq_false (Int.not_lt.2 (by first | exact h2 | (simp; done) | (simp; omega) | (simp at h2 ⊢; omega) | (simp at h2 ⊢; exact h2)))), (by cases hC; subst he_GEv; first | exact h3 | (simp; done) | (simp; omega) | (simp at h3 ⊢; omega) | (simp at h3 ⊢; exact h3))⟩, ?_⟩
  replace hh := bind_some hh
  obtain ⟨o1, hl1, hq1⟩ := hh
  refine loop_go3 hC eok mixed
    (fun s : Nat × (List GEv) × Int × Unit => match s with | (_, s16, s17, _) => (⟨[(0, .tree (qGEv p0)), (3, .ref (7, 0) 1 0 (len (qGEv s16))), (4, .lit (.int .i64 s17))], [((7, 0), .arr 1 3 (qGEv s16))]⟩ : St))
    (fun s : Nat × (List GEv) × Int × Unit => laws_toEvS.l0 k p0 s.1 s.2.1 s.2.2.1 = some o1)
    (fun s => s.1) (fun _ => .exit 0)
    (fun x : List GEv => match x with | x30 => (⟨[(3, .ref (7, 0) 1 0 (len (qGEv x30)))], [((7, 0), .arr 1 3 (qGEv x30))]⟩ : St))
    (fun x : List GEv => some (x) = some o1)
    (_, _, _, ()) hl1 ?_ ?_ ?_
  · rintro ⟨n, t0, t1, ⟨⟩⟩ e1
    refine cov_of [((7, 0), (7, 0))] ?_
    cbv
    all_goals (have e1_0 := congrArg (fun s => s.2.1) e1; dsimp only at e1_0; subst e1_0; have e1_1 := congrArg (fun s => s.2.2.1) e1; dsimp only at e1_1; subst e1_1; cases hC; subst he_GEv; (first | (simp; done) | (simp <;> first | rfl | omega | grind)))
  · rintro x30 hx
    have hx := Option.some.inj hx
    subst hx
    have hh := hq1
    cbv
    subst hr hp
    cases hh
    cases hC; subst he_GEv; first | (simp; done) | (simp <;> first | rfl | omega | grind)
  · rintro ⟨n, s16, s17, ⟨⟩⟩ N1 D1 hh hN1 hD1 hQ1
    replace hN1 := fun σ' n' a0 a1 (h : laws_toEvS.l0 k p0 n' a0 a1 = some o1) => hN1 σ' (n', a0, a1, ()) h
    replace hD1 := fun σ' (a0 : List GEv) (h : some (a0) = some o1) => hD1 σ' a0 h
    cases n with
    | zero => dsimp only at hh; unfold laws_toEvS.l0 at hh; cases hh
    | succ n =>
    dsimp only at hh
    unfold laws_toEvS.l0 at hh
    cbv
    replace hh := if_or hh
    rcases hh with ⟨b31, hh⟩ | ⟨b31, hh⟩
    · have f32 : (lt s17 (cast (len (qGEv p0)))) = true := by cases hC; subst he_GEv; first | exact decide_eq_true b31 | (simp; done) | (simp; omega) | (simp at b31 ⊢; omega) | (simp at b31 ⊢; exact b31)
      rw [f32]; cbv
      replace hh := req_some hh
      obtain ⟨h33, hh⟩ := hh
      replace hh := bind_some hh
      obtain ⟨⟨e34_Sym, e34_At, e34_Val⟩, h35, hh⟩ := hh
      refine ⟨[.lit (.int .i64 e34_Sym), .lit (.int .i64 e34_At), .lit (.int .i64 e34_Val)], (by cases hC; subst he_GEv; exact decide_eq_false (Int.not_lt.2 (by first | exact h33 | (simp; done) | (simp; omega) | (simp at h33 ⊢; omega) | (simp at h33 ⊢; exact h33)))), (by cases hC; subst he_GEv; first | exact r_GEv_get h35 | simp [h35]), ?_⟩
      cbv
      replace hh := bind_some hh
      obtain ⟨⟨x37_Sym, x37_At, x37_Val⟩, h36, hh⟩ := hh
      have f38 := c_laws_toEv h36
      try rw [he_GEv] at f38
      refine ⟨_, _, hF _ _ _ _ _ _ f38 (by cases hC; subst he_GEv; simp) rfl, ?_⟩
      cbv
      replace hh := req_some hh
      obtain ⟨h39, hh⟩ := hh
      replace hh := req_some hh
      obtain ⟨h40, hh⟩ := hh
      replace h40 : s17 < (s16.length : Nat) := h40
      refine ⟨(by cases hC; subst he_GEv; exact decide_eq_false (Int.not_lt.2 (by first | exact h39 | (simp; done) | (simp; omega) | (simp at h39 ⊢; omega) | (simp at h39 ⊢; exact h39)))), (by cases hC; subst he_GEv; exact decide_eq_true (by first | exact h40 | (simp; done) | (simp; omega) | (simp at h40 ⊢; omega) | (simp at h40 ⊢; exact h40))), ?_⟩
      replace hh := bind_some hh
      obtain ⟨⟨e41_Sym, e41_At, e41_Val⟩, h42, hh⟩ := hh
      refine ⟨[.lit (.int .i64 e41_Sym), .lit (.int .i64 e41_At), .lit (.int .i64 e41_Val)], (by cases hC; subst he_GEv; first | exact r_GEv_get h42 | (simp [h42]; done) | (have q := r_GEv_get h42; rw [r_GEv_map] at q; simpa [List.map] using q)), ?_⟩
      cbv
      refine hN1 _ _ _ _ hh (Nat.lt_succ_self _) ?_
      rintro ⟨n, t0, t1, ⟨⟩⟩ e1
      refine cov_of [((7, 0), (7, 0))] ?_
      cbv
      all_goals (have e1_0 := congrArg (fun s => s.2.1) e1; dsimp only at e1_0; subst e1_0; have e1_1 := congrArg (fun s => s.2.2.1) e1; dsimp only at e1_1; subst e1_1; cases hC; subst he_GEv; (first | (simp; done) | (simp <;> first | rfl | omega | grind)))
    · have f32 : (lt s17 (cast (len (qGEv p0)))) = false := by cases hC; subst he_GEv; first | exact decide_eq_false b31 | (simp; done) | (simp; omega) | (simp at b31 ⊢; omega) | (simp at b31 ⊢; exact b31)
      rw [f32]; cbv
      refine hD1 _ _ hh ?_
      rintro t0 e1
      refine cov_of [((7, 0), (7, 0))] ?_
      cbv
      all_goals (subst e1; cases hC; subst he_GEv; (first | (simp; done) | (simp <;> first | rfl | omega | grind)))

theorem c_spec_EvOk {p0 : GEv} {r : Bool} (hh : spec_EvOk.f p0 = some r) : FunW P 72 [.agg [.lit (.int .i64 p0.Sym), .lit (.int .i64 p0.At), .lit (.int .i64 p0.Val)]] [.hole] (.lit (.bool r)) := by
  obtain ⟨p0_Sym, p0_At, p0_Val⟩ := p0
  unfold spec_EvOk.f at hh
  refine fun_go2 eok mixed (ts := [(2, none)]) (rm := [.own]) (gs := [1000000]) (pm := [.skip]) Try.func72 (by kernel_rfl) (by kernel_rfl) (by kernel_rfl) ?_
  intro Fn LW len cast toNat wrap add sub mul bin lt eq At set part app fz' rep nadd nmax ssize sext sget scat seq slt Wide Flat Ones Room r' post' hC hF hr hp
  cbv
  replace hh := if_or hh
  rcases hh with ⟨b1, hh⟩ | ⟨b1, hh⟩
  · have f2 : (lt p0_Sym 0) = true := by cases hC; exact decide_eq_true b1
    rw [f2]; cbv
    subst hr hp
    cases hh
    cases hC; first | (simp; done) | (simp <;> first | rfl | omega | grind)
  · have f2 : (lt p0_Sym 0) = false := by cases hC; exact decide_eq_false b1
    rw [f2]; cbv
    replace hh := if_or hh
    rcases hh with ⟨b3, hh⟩ | ⟨b3, hh⟩
    · have f4 : (lt p0_Sym 5) = true := by cases hC; exact decide_eq_true b3
      rw [f4]; cbv
      replace hh := if_or hh
      rcases hh with ⟨b5, hh⟩ | ⟨b5, hh⟩
      · have f6 : (lt p0_At 1) = true := by cases hC; exact decide_eq_true b5
        rw [f6]; cbv
        subst hr hp
        cases hh
        cases hC; first | (simp; done) | (simp <;> first | rfl | omega | grind)
      · have f6 : (lt p0_At 1) = false := by cases hC; exact decide_eq_false b5
        rw [f6]; cbv
        replace hh := if_or hh
        rcases hh with ⟨b7, hh⟩ | ⟨b7, hh⟩
        · have f8 : (lt 1000 p0_At) = true := by cases hC; exact decide_eq_true b7
          rw [f8]; cbv
          subst hr hp
          cases hh
          cases hC; first | (simp; done) | (simp <;> first | rfl | omega | grind)
        · have f8 : (lt 1000 p0_At) = false := by cases hC; exact decide_eq_false b7
          rw [f8]; cbv
          replace hh := if_or hh
          rcases hh with ⟨b9, hh⟩ | ⟨b9, hh⟩
          · have f10 : (lt p0_Val 0) = true := by cases hC; exact decide_eq_true b9
            rw [f10]; cbv
            subst hr hp
            cases hh
            cases hC; first | (simp; done) | (simp <;> first | rfl | omega | grind)
          · have f10 : (lt p0_Val 0) = false := by cases hC; exact decide_eq_false b9
            rw [f10]; cbv
            subst hr hp
            cases hh
            cases hC; first | (simp; done) | (simp <;> first | rfl | omega | grind)
    · have f4 : (lt p0_Sym 5) = false := by cases hC; exact decide_eq_false b3
      rw [f4]; cbv
      subst hr hp
      cases hh
      cases hC; first | (simp; done) | (simp <;> first | rfl | omega | grind)

theorem c_spec_EvsOk {k : Nat} {p0 : List GEv} {r : Bool} (hh : spec_EvsOk.f k p0 = some r) : FunW P 38 [.tree (r_GEv p0)] [.hole] (.lit (.bool r)) := by
  unfold spec_EvsOk.f at hh
  refine fun_go2 eok mixed (ts := [(2, none)]) (rm := [.own]) (gs := [1000000]) (pm := [.skip]) Try.func38 (by kernel_rfl) (by kernel_rfl) (by kernel_rfl) ?_
  intro Fn LW len cast toNat wrap add sub mul bin lt eq At set part app fz' rep nadd nmax ssize sext sget scat seq slt Wide Flat Ones Room r' post' hC hF hr hp
  generalize he_GEv : r_GEv = qGEv
  cbv
  replace hh := if_or hh
  rcases hh with ⟨b1, hh⟩ | ⟨b1, hh⟩
  · have f2 : (lt 24 (cast (len (qGEv p0)))) = true := by cases hC; subst he_GEv; first | exact decide_eq_true b1 | (simp; done) | (simp; omega) | (simp at b1 ⊢; omega) | (simp at b1 ⊢; exact b1)
    rw [f2]; cbv
    subst hr hp
    cases hh
    cases hC; subst he_GEv; first | (simp; done) | (simp <;> first | rfl | omega | grind)
  · have f2 : (lt 24 (cast (len (qGEv p0)))) = false := by cases hC; subst he_GEv; first | exact decide_eq_false b1 | (simp; done) | (simp; omega) | (simp at b1 ⊢; omega) | (simp at b1 ⊢; exact b1)
    rw [f2]; cbv
    replace hh := bind_some hh
    obtain ⟨o1, hl1, hq1⟩ := hh
    refine loop_go3 hC eok mixed
      (fun s : Nat × Int × Unit => match s with | (_, s23, _) => (⟨[(0, .tree (qGEv p0)), (3, .lit (.int .i64 s23))], []⟩ : St))
      (fun s : Nat × Int × Unit => spec_EvsOk.l0 k p0 s.1 s.2.1 = some o1)
      (fun s => s.1) (fun _ => .exit 0)
      (fun x : Unit => match x with | _ => (⟨[], []⟩ : St))
      (fun x : Unit => some (.ok x) = some o1)
      (_, _, ()) hl1 ?_ ?_ ?_
    · rintro ⟨n, t0, ⟨⟩⟩ e1
      refine cov_of [] ?_
      cbv
      all_goals (have e1_0 := congrArg (fun s => s.2.1) e1; dsimp only at e1_0; subst e1_0; cases hC; subst he_GEv; (first | (simp; done) | (simp <;> first | rfl | omega | grind)))
    · rintro ⟨⟩ hx
      have hx := Option.some.inj hx
      subst hx
      have hh := hq1
      cbv
      subst hr hp
      cases hh
      cases hC; subst he_GEv; first | (simp; done) | (simp <;> first | rfl | omega | grind)
    · rintro ⟨n, s23, ⟨⟩⟩ N1 D1 hh hN1 hD1 hQ1
      replace hN1 := fun σ' n' a0 (h : spec_EvsOk.l0 k p0 n' a0 = some o1) => hN1 σ' (n', a0, ()) h
      replace hD1 := fun σ'  (h : some (Except.ok ()) = some o1) => hD1 σ' () h
      cases n with
      | zero => dsimp only at hh; unfold spec_EvsOk.l0 at hh; cases hh
      | succ n =>
      dsimp only at hh
      unfold spec_EvsOk.l0 at hh
      cbv
      replace hh := if_or hh
      rcases hh with ⟨b44, hh⟩ | ⟨b44, hh⟩
      · have f45 : (lt s23 (cast (len (qGEv p0)))) = true := by cases hC; subst he_GEv; first | exact decide_eq_true b44 | (simp; done) | (simp; omega) | (simp at b44 ⊢; omega) | (simp at b44 ⊢; exact b44)
        rw [f45]; cbv
        replace hh := req_some hh
        obtain ⟨h46, hh⟩ := hh
        replace hh := bind_some hh
        obtain ⟨⟨e47_Sym, e47_At, e47_Val⟩, h48, hh⟩ := hh
        refine ⟨[.lit (.int .i64 e47_Sym), .lit (.int .i64 e47_At), .lit (.int .i64 e47_Val)], (by cases hC; subst he_GEv; exact decide_eq_false (Int.not_lt.2 (by first | exact h46 | (simp; done) | (simp; omega) | (simp at h46 ⊢; omega) | (simp at h46 ⊢; exact h46)))), (by cases hC; subst he_GEv; first | exact r_GEv_get h48 | simp [h48]), ?_⟩
        cbv
        replace hh := bind_some hh
        obtain ⟨x50, h49, hh⟩ := hh
        have f51 := c_spec_EvOk h49
        try rw [he_GEv] at f51
        refine ⟨_, _, hF _ _ _ _ _ _ f51 (by cases hC; subst he_GEv; simp) rfl, ?_⟩
        cbv
        replace hh := if_or hh
        rcases hh with ⟨b52, hh⟩ | ⟨b52, hh⟩
        · have f53 : x50 = true := by exact b52
          rw [f53]; cbv
          replace hh := if_or hh
          rcases hh with ⟨b54, hh⟩ | ⟨b54, hh⟩
          · have f55 : (lt 0 s23) = true := by cases hC; exact decide_eq_true b54
            rw [f55]; cbv
            replace hh := req_some hh
            obtain ⟨h56, hh⟩ := hh
            replace hh := bind_some hh
            obtain ⟨⟨e57_Sym, e57_At, e57_Val⟩, h58, hh⟩ := hh
            refine ⟨[.lit (.int .i64 e57_Sym), .lit (.int .i64 e57_At), .lit (.int .i64 e57_Val)], (by cases hC; subst he_GEv; exact decide_eq_false (Int.not_lt.2 (by first | exact h56 | (simp; done) | (simp; omega) | (simp at h56 ⊢; omega) | (simp at h56 ⊢; exact h56)))), (by cases hC; subst he_GEv; first | exact r_GEv_get h58 | simp [h58]), ?_⟩
            cbv
            replace hh := req_some hh
            obtain ⟨h59, hh⟩ := hh
            replace hh := bind_some hh
            obtain ⟨⟨e60_Sym, e60_At, e60_Val⟩, h61, hh⟩ := hh
            refine ⟨[.lit (.int .i64 e60_Sym), .lit (.int .i64 e60_At), .lit (.int .i64 e60_Val)], (by cases hC; subst he_GEv; exact decide_eq_false (Int.not_lt.2 (by first | exact h59 | (simp; done) | (simp; omega) | (simp at h59 ⊢; omega) | (simp at h59 ⊢; exact h59)))), (by cases hC; subst he_GEv; first | exact r_GEv_get h61 | simp [h61]), ?_⟩
            cbv
            replace hh := if_or hh
            rcases hh with ⟨b62, hh⟩ | ⟨b62, hh⟩
            · have f63 : (lt e60_At e57_At) = true := by cases hC; exact decide_eq_true b62
              rw [f63]; cbv
              refine hN1 _ _ _ hh (Nat.lt_succ_self _) ?_
              rintro ⟨n, t0, ⟨⟩⟩ e1
              refine cov_of [] ?_
              cbv
              all_goals (have e1_0 := congrArg (fun s => s.2.1) e1; dsimp only at e1_0; subst e1_0; cases hC; subst he_GEv; (first | (simp; done) | (simp <;> first | rfl | omega | grind)))
            · have f63 : (lt e60_At e57_At) = false := by cases hC; exact decide_eq_false b62
              rw [f63]; cbv
              cases hh
              have hh : some _ = some _ := hq1
              refine hQ1 _ _ ?_
              cbv
              subst hr hp
              cases hh
              cases hC; subst he_GEv; first | (simp; done) | (simp <;> first | rfl | omega | grind)
          · have f55 : (lt 0 s23) = false := by cases hC; exact decide_eq_false b54
            rw [f55]; cbv
            refine hN1 _ _ _ hh (Nat.lt_succ_self _) ?_
            rintro ⟨n, t0, ⟨⟩⟩ e1
            refine cov_of [] ?_
            cbv
            all_goals (have e1_0 := congrArg (fun s => s.2.1) e1; dsimp only at e1_0; subst e1_0; cases hC; subst he_GEv; (first | (simp; done) | (simp <;> first | rfl | omega | grind)))
        · have f53 : x50 = false := by exact Bool.eq_false_iff.2 b52
          rw [f53]; cbv
          cases hh
          have hh : some _ = some _ := hq1
          refine hQ1 _ _ ?_
          cbv
          subst hr hp
          cases hh
          cases hC; subst he_GEv; first | (simp; done) | (simp <;> first | rfl | omega | grind)
      · have f45 : (lt s23 (cast (len (qGEv p0)))) = false := by cases hC; subst he_GEv; first | exact decide_eq_false b44 | (simp; done) | (simp; omega) | (simp at b44 ⊢; omega) | (simp at b44 ⊢; exact b44)
        rw [f45]; cbv
        refine hD1 _  hh ?_
        rintro ⟨⟩ e1
        refine cov_of [] ?_
        cbv
        all_goals (cases hC; subst he_GEv; (first | (simp; done) | (simp <;> first | rfl | omega | grind)))

theorem c_spec_l6End {p0 : List GEv} {r : Int} (hh : spec_l6End.f p0 = some r) : FunW P 39 [.tree (r_GEv p0)] [.hole] (.lit (.int .i64 r)) := by
  unfold spec_l6End.f at hh
  refine fun_go2 eok mixed (ts := [(2, none)]) (rm := [.own]) (gs := [1000000]) (pm := [.skip]) Try.func39 (by kernel_rfl) (by kernel_rfl) (by kernel_rfl) ?_
  intro Fn LW len cast toNat wrap add sub mul bin lt eq At set part app fz' rep nadd nmax ssize sext sget scat seq slt Wide Flat Ones Room r' post' hC hF hr hp
  generalize he_GEv : r_GEv = qGEv
  cbv
  replace hh := if_or hh
  rcases hh with ⟨b1, hh⟩ | ⟨b1, hh⟩
  · have f2 : (eq (cast (len (qGEv p0))) 0) = true := by cases hC; subst he_GEv; first | exact beq_iff_eq.2 b1 | (simp; done) | (simp; omega) | (simp at b1 ⊢; omega) | (simp at b1 ⊢; exact b1)
    rw [f2]; cbv
    subst hr hp
    cases hh
    cases hC; subst he_GEv; first | (simp; done) | (simp <;> first | rfl | omega | grind)
  · have f2 : (eq (cast (len (qGEv p0))) 0) = false := by cases hC; subst he_GEv; first | exact beq_false_of_ne b1 | (simp; done) | (simp; omega) | (simp at b1 ⊢; omega) | (simp at b1 ⊢; exact b1)
    rw [f2]; cbv
    replace hh := req_some hh
    obtain ⟨h3, hh⟩ := hh
    replace hh := bind_some hh
    obtain ⟨⟨e4_Sym, e4_At, e4_Val⟩, h5, hh⟩ := hh
    refine ⟨[.lit (.int .i64 e4_Sym), .lit (.int .i64 e4_At), .lit (.int .i64 e4_Val)], (by cases hC; subst he_GEv; exact decide_eq_false (Int.not_lt.2 (by first | exact h3 | (simp; done) | (simp; omega) | (simp at h3 ⊢; omega) | (simp at h3 ⊢; exact h3)))), (by cases hC; subst he_GEv; first | exact r_GEv_get h5 | simp [h5]), ?_⟩
    cbv
    subst hr hp
    cases hh
    cases hC; subst he_GEv; first | (simp; done) | (simp <;> first | rfl | omega | grind)

theorem c_spec_TurnLate {k : Nat} {p0 : List GEv} {p1 : Int} {r : List GEv} (hh : spec_TurnLate.f k p0 p1 = some r) : FunW P 9 [.tree (r_GEv p0), .lit (.int .i64 p1)] [.hole, .hole] (.inl 3 (r_GEv r)) := by
  unfold spec_TurnLate.f at hh
  refine fun_go2 eok mixed (ts := [(4, none)]) (rm := [.own]) (gs := [1000000, 1000001]) (pm := [.skip, .skip]) Try.func9 (by kernel_rfl) (by kernel_rfl) (by kernel_rfl) ?_
  intro Fn LW len cast toNat wrap add sub mul bin lt eq At set part app fz' rep nadd nmax ssize sext sget scat seq slt Wide Flat Ones Room r' post' hC hF hr hp
  generalize he_GEv : r_GEv = qGEv
  cbv
  replace hh := bind_some hh
  obtain ⟨x2, h1, hh⟩ := hh
  have f3 := c_spec_EvsOk h1
  try rw [he_GEv] at f3
  refine ⟨_, _, hF _ _ _ _ _ _ f3 (by cases hC; subst he_GEv; simp) rfl, ?_⟩
  cbv
  replace hh := if_or hh
  rcases hh with ⟨b4, hh⟩ | ⟨b4, hh⟩
  · have f5 : x2 = true := by exact b4
    rw [f5]; cbv
    replace hh := if_or hh
    rcases hh with ⟨b6, hh⟩ | ⟨b6, hh⟩
    · have f7 : (lt p1 0) = true := by cases hC; exact decide_eq_true b6
      rw [f7]; cbv
      subst hr hp
      cases hh
      cases hC; subst he_GEv; first | (simp; done) | (simp <;> first | rfl | omega | grind)
    · have f7 : (lt p1 0) = false := by cases hC; exact decide_eq_false b6
      rw [f7]; cbv
      replace hh := if_or hh
      rcases hh with ⟨b8, hh⟩ | ⟨b8, hh⟩
      · have f9 : (lt 1000 p1) = true := by cases hC; exact decide_eq_true b8
        rw [f9]; cbv
        subst hr hp
        cases hh
        cases hC; subst he_GEv; first | (simp; done) | (simp <;> first | rfl | omega | grind)
      · have f9 : (lt 1000 p1) = false := by cases hC; exact decide_eq_false b8
        rw [f9]; cbv
        replace hh := bind_some hh
        obtain ⟨x11, h10, hh⟩ := hh
        have f12 := c_spec_l6End h10
        try rw [he_GEv] at f12
        refine ⟨_, _, hF _ _ _ _ _ _ f12 (by cases hC; subst he_GEv; simp) rfl, ?_⟩
        cbv
        replace hh := if_or hh
        rcases hh with ⟨b13, hh⟩ | ⟨b13, hh⟩
        · have f14 : (lt 1000 (wrap .i64 (add x11 p1))) = true := by cases hC; exact decide_eq_true b13
          rw [f14]; cbv
          subst hr hp
          cases hh
          cases hC; subst he_GEv; first | (simp; done) | (simp <;> first | rfl | omega | grind)
        · have f14 : (lt 1000 (wrap .i64 (add x11 p1))) = false := by cases hC; exact decide_eq_false b13
          rw [f14]; cbv
          replace hh := bind_some hh
          obtain ⟨o1, hl1, hq1⟩ := hh
          refine loop_go3 hC eok mixed
            (fun s : Nat × (List GEv) × Int × Unit => match s with | (_, s21, s22, _) => (⟨[(0, .tree (qGEv p0)), (1, .lit (.int .i64 p1)), (5, .ref (8, 0) 1 0 (len (qGEv s21))), (6, .lit (.int .i64 s22))], [((8, 0), .arr 1 3 (qGEv s21))]⟩ : St))
            (fun s : Nat × (List GEv) × Int × Unit => spec_TurnLate.l0 k p0 p1 s.1 s.2.1 s.2.2.1 = some o1)
            (fun s => s.1) (fun _ => .exit 0)
            (fun x : List GEv => match x with | x29 => (⟨[(5, .ref (8, 0) 1 0 (len (qGEv x29)))], [((8, 0), .arr 1 3 (qGEv x29))]⟩ : St))
            (fun x : List GEv => some (x) = some o1)
            (_, _, _, ()) hl1 ?_ ?_ ?_
          · rintro ⟨n, t0, t1, ⟨⟩⟩ e1
            refine cov_of [((8, 0), (8, 0))] ?_
            cbv
            all_goals (have e1_0 := congrArg (fun s => s.2.1) e1; dsimp only at e1_0; subst e1_0; have e1_1 := congrArg (fun s => s.2.2.1) e1; dsimp only at e1_1; subst e1_1; cases hC; subst he_GEv; (first | (simp; done) | (simp <;> first | rfl | omega | grind)))
          · rintro x29 hx
            have hx := Option.some.inj hx
            subst hx
            have hh := hq1
            cbv
            subst hr hp
            cases hh
            cases hC; subst he_GEv; first | (simp; done) | (simp <;> first | rfl | omega | grind)
          · rintro ⟨n, s21, s22, ⟨⟩⟩ N1 D1 hh hN1 hD1 hQ1
            replace hN1 := fun σ' n' a0 a1 (h : spec_TurnLate.l0 k p0 p1 n' a0 a1 = some o1) => hN1 σ' (n', a0, a1, ()) h
            replace hD1 := fun σ' (a0 : List GEv) (h : some (a0) = some o1) => hD1 σ' a0 h
            cases n with
            | zero => dsimp only at hh; unfold spec_TurnLate.l0 at hh; cases hh
            | succ n =>
            dsimp only at hh
            unfold spec_TurnLate.l0 at hh
            cbv
            replace hh := if_or hh
            rcases hh with ⟨b30, hh⟩ | ⟨b30, hh⟩
            · have f31 : (lt s22 (cast (len (qGEv p0)))) = true := by cases hC; subst he_GEv; first | exact decide_eq_true b30 | (simp; done) | (simp; omega) | (simp at b30 ⊢; omega) | (simp at b30 ⊢; exact b30)
              rw [f31]; cbv
              replace hh := req_some hh
              obtain ⟨h32, hh⟩ := hh
              replace hh := bind_some hh
              obtain ⟨⟨e33_Sym, e33_At, e33_Val⟩, h34, hh⟩ := hh
              refine ⟨[.lit (.int .i64 e33_Sym), .lit (.int .i64 e33_At), .lit (.int .i64 e33_Val)], (by cases hC; subst he_GEv; exact decide_eq_false (Int.not_lt.2 (by first | exact h32 | (simp; done) | (simp; omega) | (simp at h32 ⊢; omega) | (simp at h32 ⊢; exact h32)))), (by cases hC; subst he_GEv; first | exact r_GEv_get h34 | simp [h34]), ?_⟩
              cbv
              replace hh := req_some hh
              obtain ⟨h35, hh⟩ := hh
              refine ⟨⟨(by cases hC; subst he_GEv; simp), (by cases hC; subst he_GEv; first | exact r_GEv_ones _ | (simp [ocell]; done))⟩, ?_⟩
              refine ⟨⟨(by cases hC; subst he_GEv; first | (simp; done) | (simp; first | omega | (simp only [natc] at *; omega))), by cases hC; subst he_GEv; first | exact h35 | (simp; done) | (simp; omega) | (simp at h35 ⊢; omega) | (simp at h35 ⊢; exact h35)⟩, ?_⟩
              refine hN1 _ _ _ _ hh (Nat.lt_succ_self _) ?_
              rintro ⟨n, t0, t1, ⟨⟩⟩ e1
              refine cov_of [((8, 0), (46, 0))] ?_
              cbv
              all_goals (have e1_0 := congrArg (fun s => s.2.1) e1; dsimp only at e1_0; subst e1_0; have e1_1 := congrArg (fun s => s.2.2.1) e1; dsimp only at e1_1; subst e1_1; cases hC; subst he_GEv; (first | (simp; done) | (simp <;> first | rfl | omega | grind)))
            · have f31 : (lt s22 (cast (len (qGEv p0)))) = false := by cases hC; subst he_GEv; first | exact decide_eq_false b30 | (simp; done) | (simp; omega) | (simp at b30 ⊢; omega) | (simp at b30 ⊢; exact b30)
              rw [f31]; cbv
              refine hD1 _ _ hh ?_
              rintro t0 e1
              refine cov_of [((8, 0), (8, 0))] ?_
              cbv
              all_goals (subst e1; cases hC; subst he_GEv; (first | (simp; done) | (simp <;> first | rfl | omega | grind)))
  · have f5 : x2 = false := by exact Bool.eq_false_iff.2 b4
    rw [f5]; cbv
    subst hr hp
    cases hh
    cases hC; subst he_GEv; first | (simp; done) | (simp <;> first | rfl | omega | grind)
theorem c_spec_TurnLate_L0 {k : Nat} {p0 : List GEv} {p1 : Int} {r : List GEv} (hh : spec_TurnLate.f k p0 p1 = some r) : FunW P 9 [.inl 3 (r_GEv p0), .lit (.int .i64 p1)] [.inl 3 (r_GEv p0), .hole] (.inl 3 (r_GEv r)) :=
  (c_spec_TurnLate hh).lend (r_GEv_ownd _) (.lend (congrArg A.tree (r_GEv_fz _).symm) (.same rfl .nil))

theorem c_impl_in {p0 : Int} {p1 : Int} {p2 : Int} {r : Bool} (hh : impl_in.f p0 p1 p2 = some r) : FunW P 42 [.lit (.int .i64 p0), .lit (.int .i64 p1), .lit (.int .i64 p2)] [.hole, .hole, .hole] (.lit (.bool r)) := by
  unfold impl_in.f at hh
  refine fun_go2 eok mixed (ts := [(6, none)]) (rm := [.own]) (gs := [1000000, 1000001, 1000002]) (pm := [.skip, .skip, .skip]) Try.func42 (by kernel_rfl) (by kernel_rfl) (by kernel_rfl) ?_
  intro Fn LW len cast toNat wrap add sub mul bin lt eq At set part app fz' rep nadd nmax ssize sext sget scat seq slt Wide Flat Ones Room r' post' hC hF hr hp
  cbv
  replace hh := if_or hh
  rcases hh with ⟨b1, hh⟩ | ⟨b1, hh⟩
  · have f2 : (lt p0 p1) = true := by cases hC; exact decide_eq_true b1
    rw [f2]; cbv
    subst hr hp
    cases hh
    cases hC; first | (simp; done) | (simp <;> first | rfl | omega | grind)
  · have f2 : (lt p0 p1) = false := by cases hC; exact decide_eq_false b1
    rw [f2]; cbv
    subst hr hp
    cases hh
    cases hC; first | (simp; done) | (simp <;> first | rfl | omega | grind)

theorem c_impl_isSym {p0 : Int} {r : Bool} (hh : impl_isSym.f p0 = some r) : FunW P 74 [.lit (.int .i64 p0)] [.hole] (.lit (.bool r)) := by
  unfold impl_isSym.f at hh
  refine fun_go2 eok mixed (ts := [(2, none)]) (rm := [.own]) (gs := [1000000]) (pm := [.skip]) Try.func74 (by kernel_rfl) (by kernel_rfl) (by kernel_rfl) ?_
  intro Fn LW len cast toNat wrap add sub mul bin lt eq At set part app fz' rep nadd nmax ssize sext sget scat seq slt Wide Flat Ones Room r' post' hC hF hr hp
  cbv
  replace hh := bind_some hh
  obtain ⟨x2, h1, hh⟩ := hh
  have f3 := c_impl_in h1
  refine ⟨_, _, hF _ _ _ _ _ _ f3 (by cases hC; simp) rfl, ?_⟩
  cbv
  subst hr hp
  cases hh
  cases hC; first | (simp; done) | (simp <;> first | rfl | omega | grind)

theorem c_impl_EvOk {p0 : GEv} {r : Bool} (hh : impl_EvOk.f p0 = some r) : FunW P 73 [.agg [.lit (.int .i64 p0.Sym), .lit (.int .i64 p0.At), .lit (.int .i64 p0.Val)]] [.hole] (.lit (.bool r)) := by
  obtain ⟨p0_Sym, p0_At, p0_Val⟩ := p0
  unfold impl_EvOk.f at hh
  refine fun_go2 eok mixed (ts := [(2, none)]) (rm := [.own]) (gs := [1000000]) (pm := [.skip]) Try.func73 (by kernel_rfl) (by kernel_rfl) (by kernel_rfl) ?_
  intro Fn LW len cast toNat wrap add sub mul bin lt eq At set part app fz' rep nadd nmax ssize sext sget scat seq slt Wide Flat Ones Room r' post' hC hF hr hp
  cbv
  replace hh := bind_some hh
  obtain ⟨x2, h1, hh⟩ := hh
  have f3 := c_impl_isSym h1
  refine ⟨_, _, hF _ _ _ _ _ _ f3 (by cases hC; simp) rfl, ?_⟩
  cbv
  replace hh := if_or hh
  rcases hh with ⟨b4, hh⟩ | ⟨b4, hh⟩
  · have f5 : x2 = true := by exact b4
    rw [f5]; cbv
    replace hh := bind_some hh
    obtain ⟨x7, h6, hh⟩ := hh
    have f8 := c_impl_in h6
    refine ⟨_, _, hF _ _ _ _ _ _ f8 (by cases hC; simp) rfl, ?_⟩
    cbv
    replace hh := if_or hh
    rcases hh with ⟨b9, hh⟩ | ⟨b9, hh⟩
    · have f10 : x7 = true := by exact b9
      rw [f10]; cbv
      replace hh := bind_some hh
      obtain ⟨x12, h11, hh⟩ := hh
      have f13 := c_impl_in h11
      refine ⟨_, _, hF _ _ _ _ _ _ f13 (by cases hC; simp) rfl, ?_⟩
      cbv
      subst hr hp
      cases hh
      cases hC; first | (simp; done) | (simp <;> first | rfl | omega | grind)
    · have f10 : x7 = false := by exact Bool.eq_false_iff.2 b9
      rw [f10]; cbv
      subst hr hp
      cases hh
      cases hC; first | (simp; done) | (simp <;> first | rfl | omega | grind)
  · have f5 : x2 = false := by exact Bool.eq_false_iff.2 b4
    rw [f5]; cbv
    subst hr hp
    cases hh
    cases hC; first | (simp; done) | (simp <;> first | rfl | omega | grind)

theorem c_impl_EvsOk {k : Nat} {p0 : List GEv} {r : Bool} (hh : impl_EvsOk.f k p0 = some r) : FunW P 41 [.tree (r_GEv p0)] [.hole] (.lit (.bool r)) := by
  unfold impl_EvsOk.f at hh
  refine fun_go2 eok mixed (ts := [(2, none)]) (rm := [.own]) (gs := [1000000]) (pm := [.skip]) Try.func41 (by kernel_rfl) (by kernel_rfl) (by kernel_rfl) ?_
  intro Fn LW len cast toNat wrap add sub mul bin lt eq At set part app fz' rep nadd nmax ssize sext sget scat seq slt Wide Flat Ones Room r' post' hC hF hr hp
  generalize he_GEv : r_GEv = qGEv
  cbv
  replace hh := bind_some hh
  obtain ⟨o1, hl1, hq1⟩ := hh
  refine loop_go3 hC eok mixed
    (fun s : Nat × Int × Unit => match s with | (_, s18, _) => (⟨[(0, .tree (qGEv p0)), (5, .tree (qGEv p0)), (6, .lit (.int .i64 (cast (len (qGEv p0))))), (7, .lit (.int .i64 s18))], []⟩ : St))
    (fun s : Nat × Int × Unit => impl_EvsOk.l0 k p0 s.1 s.2.1 = some o1)
    (fun s => s.1) (fun _ => .exit 0)
    (fun x : Unit => match x with | _ => (⟨[(0, .tree (qGEv p0))], []⟩ : St))
    (fun x : Unit => some (.ok x) = some o1)
    (_, _, ()) hl1 ?_ ?_ ?_
  · rintro ⟨n, t0, ⟨⟩⟩ e1
    refine cov_of [] ?_
    cbv
    all_goals (have e1_0 := congrArg (fun s => s.2.1) e1; dsimp only at e1_0; subst e1_0; cases hC; subst he_GEv; (first | (simp; done) | (simp <;> first | rfl | omega | grind)))
  · rintro ⟨⟩ hx
    have hx := Option.some.inj hx
    subst hx
    have hh := hq1
    cbv
    subst hr hp
    cases hh
    cases hC; subst he_GEv; first | (simp; done) | (simp <;> first | rfl | omega | grind)
  · rintro ⟨n, s18, ⟨⟩⟩ N1 D1 hh hN1 hD1 hQ1
    replace hN1 := fun σ' n' a0 (h : impl_EvsOk.l0 k p0 n' a0 = some o1) => hN1 σ' (n', a0, ()) h
    replace hD1 := fun σ'  (h : some (Except.ok ()) = some o1) => hD1 σ' () h
    cases n with
    | zero => dsimp only at hh; unfold impl_EvsOk.l0 at hh; cases hh
    | succ n =>
    dsimp only at hh
    unfold impl_EvsOk.l0 at hh
    cbv
    replace hh := if_or hh
    rcases hh with ⟨b36, hh⟩ | ⟨b36, hh⟩
    · have f37 : (lt s18 (cast (len (qGEv p0)))) = true := by cases hC; subst he_GEv; first | exact decide_eq_true b36 | (simp; done) | (simp; omega) | (simp at b36 ⊢; omega) | (simp at b36 ⊢; exact b36)
      rw [f37]; cbv
      replace hh := req_some hh
      obtain ⟨h38, hh⟩ := hh
      replace hh := bind_some hh
      obtain ⟨⟨e39_Sym, e39_At, e39_Val⟩, h40, hh⟩ := hh
      refine ⟨[.lit (.int .i64 e39_Sym), .lit (.int .i64 e39_At), .lit (.int .i64 e39_Val)], (by cases hC; subst he_GEv; exact decide_eq_false (Int.not_lt.2 (by first | exact h38 | (simp; done) | (simp; omega) | (simp at h38 ⊢; omega) | (simp at h38 ⊢; exact h38)))), (by cases hC; subst he_GEv; first | exact r_GEv_get h40 | simp [h40]), ?_⟩
      cbv
      replace hh := bind_some hh
      obtain ⟨x42, h41, hh⟩ := hh
      have f43 := c_impl_EvOk h41
      try rw [he_GEv] at f43
      refine ⟨_, _, hF _ _ _ _ _ _ f43 (by cases hC; subst he_GEv; simp) rfl, ?_⟩
      cbv
      replace hh := if_or hh
      rcases hh with ⟨b44, hh⟩ | ⟨b44, hh⟩
      · have f45 : x42 = true := by exact b44
        rw [f45]; cbv
        replace hh := if_or hh
        rcases hh with ⟨b46, hh⟩ | ⟨b46, hh⟩
        · have f47 : (lt 0 s18) = true := by cases hC; exact decide_eq_true b46
          rw [f47]; cbv
          replace hh := req_some hh
          obtain ⟨h48, hh⟩ := hh
          replace hh := bind_some hh
          obtain ⟨⟨e49_Sym, e49_At, e49_Val⟩, h50, hh⟩ := hh
          refine ⟨[.lit (.int .i64 e49_Sym), .lit (.int .i64 e49_At), .lit (.int .i64 e49_Val)], (by cases hC; subst he_GEv; exact decide_eq_false (Int.not_lt.2 (by first | exact h48 | (simp; done) | (simp; omega) | (simp at h48 ⊢; omega) | (simp at h48 ⊢; exact h48)))), (by cases hC; subst he_GEv; first | exact r_GEv_get h50 | simp [h50]), ?_⟩
          cbv
          replace hh := if_or hh
          rcases hh with ⟨b51, hh⟩ | ⟨b51, hh⟩
          · have f52 : (lt e49_At e39_At) = true := by cases hC; exact decide_eq_true b51
            rw [f52]; cbv
            refine hN1 _ _ _ hh (Nat.lt_succ_self _) ?_
            rintro ⟨n, t0, ⟨⟩⟩ e1
            refine cov_of [] ?_
            cbv
            all_goals (have e1_0 := congrArg (fun s => s.2.1) e1; dsimp only at e1_0; subst e1_0; cases hC; subst he_GEv; (first | (simp; done) | (simp <;> first | rfl | omega | grind)))
          · have f52 : (lt e49_At e39_At) = false := by cases hC; exact decide_eq_false b51
            rw [f52]; cbv
            cases hh
            have hh : some _ = some _ := hq1
            refine hQ1 _ _ ?_
            cbv
            subst hr hp
            cases hh
            cases hC; subst he_GEv; first | (simp; done) | (simp <;> first | rfl | omega | grind)
        · have f47 : (lt 0 s18) = false := by cases hC; exact decide_eq_false b46
          rw [f47]; cbv
          refine hN1 _ _ _ hh (Nat.lt_succ_self _) ?_
          rintro ⟨n, t0, ⟨⟩⟩ e1
          refine cov_of [] ?_
          cbv
          all_goals (have e1_0 := congrArg (fun s => s.2.1) e1; dsimp only at e1_0; subst e1_0; cases hC; subst he_GEv; (first | (simp; done) | (simp <;> first | rfl | omega | grind)))
      · have f45 : x42 = false := by exact Bool.eq_false_iff.2 b44
        rw [f45]; cbv
        cases hh
        have hh : some _ = some _ := hq1
        refine hQ1 _ _ ?_
        cbv
        subst hr hp
        cases hh
        cases hC; subst he_GEv; first | (simp; done) | (simp <;> first | rfl | omega | grind)
    · have f37 : (lt s18 (cast (len (qGEv p0)))) = false := by cases hC; subst he_GEv; first | exact decide_eq_false b36 | (simp; done) | (simp; omega) | (simp at b36 ⊢; omega) | (simp at b36 ⊢; exact b36)
      rw [f37]; cbv
      refine hD1 _  hh ?_
      rintro ⟨⟩ e1
      refine cov_of [] ?_
      cbv
      all_goals (cases hC; subst he_GEv; (first | (simp; done) | (simp <;> first | rfl | omega | grind)))

theorem c_impl_now {p0 : List GEv} {r : Int} (hh : impl_now.f p0 = some r) : FunW P 43 [.tree (r_GEv p0)] [.hole] (.lit (.int .i64 r)) := by
  unfold impl_now.f at hh
  refine fun_go2 eok mixed (ts := [(2, none)]) (rm := [.own]) (gs := [1000000]) (pm := [.skip]) Try.func43 (by kernel_rfl) (by kernel_rfl) (by kernel_rfl) ?_
  intro Fn LW len cast toNat wrap add sub mul bin lt eq At set part app fz' rep nadd nmax ssize sext sget scat seq slt Wide Flat Ones Room r' post' hC hF hr hp
  generalize he_GEv : r_GEv = qGEv
  cbv
  replace hh := if_or hh
  rcases hh with ⟨b1, hh⟩ | ⟨b1, hh⟩
  · have f2 : (eq (cast (len (qGEv p0))) 0) = true := by cases hC; subst he_GEv; first | exact beq_iff_eq.2 b1 | (simp; done) | (simp; omega) | (simp at b1 ⊢; omega) | (simp at b1 ⊢; exact b1)
    rw [f2]; cbv
    subst hr hp
    cases hh
    cases hC; subst he_GEv; first | (simp; done) | (simp <;> first | rfl | omega | grind)
  · have f2 : (eq (cast (len (qGEv p0))) 0) = false := by cases hC; subst he_GEv; first | exact beq_false_of_ne b1 | (simp; done) | (simp; omega) | (simp at b1 ⊢; omega) | (simp at b1 ⊢; exact b1)
    rw [f2]; cbv
    replace hh := req_some hh
    obtain ⟨h3, hh⟩ := hh
    replace hh := bind_some hh
    obtain ⟨⟨e4_Sym, e4_At, e4_Val⟩, h5, hh⟩ := hh
    refine ⟨[.lit (.int .i64 e4_Sym), .lit (.int .i64 e4_At), .lit (.int .i64 e4_Val)], (by cases hC; subst he_GEv; exact decide_eq_false (Int.not_lt.2 (by first | exact h3 | (simp; done) | (simp; omega) | (simp at h3 ⊢; omega) | (simp at h3 ⊢; exact h3)))), (by cases hC; subst he_GEv; first | exact r_GEv_get h5 | simp [h5]), ?_⟩
    cbv
    subst hr hp
    cases hh
    cases hC; subst he_GEv; first | (simp; done) | (simp <;> first | rfl | omega | grind)

theorem c_impl_cloneEvs {p0 : List GEv} {r : List GEv} (hh : impl_cloneEvs.f p0 = some r) : FunW P 44 [.tree (r_GEv p0)] [.hole] (.inl 3 (r_GEv r)) := by
  unfold impl_cloneEvs.f at hh
  refine fun_go2 eok mixed (ts := [(2, none)]) (rm := [.own]) (gs := [1000000]) (pm := [.skip]) Try.func44 (by kernel_rfl) (by kernel_rfl) (by kernel_rfl) ?_
  intro Fn LW len cast toNat wrap add sub mul bin lt eq At set part app fz' rep nadd nmax ssize sext sget scat seq slt Wide Flat Ones Room r' post' hC hF hr hp
  generalize he_GEv : r_GEv = qGEv
  cbv
  replace hh := req_some hh
  obtain ⟨h1, hh⟩ := hh
  refine ⟨⟨(by cases hC; subst he_GEv; first | exact r_GEv_wide _ | (simp; done)), (by cases hC; subst he_GEv; first | exact r_GEv_ones _ | (simp; done))⟩, ?_⟩
  refine ⟨by cases hC; subst he_GEv; first | exact h1 | (simp; done) | (simp; omega) | (simp at h1 ⊢; omega) | (simp at h1 ⊢; exact h1), ?_⟩
  subst hr hp
  cases hh
  cases hC; subst he_GEv; first | (simp; done) | (simp <;> first | rfl | omega | grind)

theorem c_impl_TurnLate {k : Nat} {p0 : List GEv} {p1 : Int} {r : List GEv} (hh : impl_TurnLate.f k p0 p1 = some r) : FunW P 11 [.tree (r_GEv p0), .lit (.int .i64 p1)] [.hole, .hole] (.inl 3 (r_GEv r)) := by
  unfold impl_TurnLate.f at hh
  refine fun_go2 eok mixed (ts := [(4, none)]) (rm := [.own]) (gs := [1000000, 1000001]) (pm := [.skip, .skip]) Try.func11 (by kernel_rfl) (by kernel_rfl) (by kernel_rfl) ?_
  intro Fn LW len cast toNat wrap add sub mul bin lt eq At set part app fz' rep nadd nmax ssize sext sget scat seq slt Wide Flat Ones Room r' post' hC hF hr hp
  generalize he_GEv : r_GEv = qGEv
  cbv
  replace hh := bind_some hh
  obtain ⟨x2, h1, hh⟩ := hh
  have f3 := c_impl_EvsOk h1
  try rw [he_GEv] at f3
  refine ⟨_, _, hF _ _ _ _ _ _ f3 (by cases hC; subst he_GEv; simp) rfl, ?_⟩
  cbv
  replace hh := if_or hh
  rcases hh with ⟨b4, hh⟩ | ⟨b4, hh⟩
  · have f5 : x2 = true := by exact b4
    rw [f5]; cbv
    replace hh := bind_some hh
    obtain ⟨x7, h6, hh⟩ := hh
    have f8 := c_impl_in h6
    try rw [he_GEv] at f8
    refine ⟨_, _, hF _ _ _ _ _ _ f8 (by cases hC; subst he_GEv; simp) rfl, ?_⟩
    cbv
    replace hh := if_or hh
    rcases hh with ⟨b9, hh⟩ | ⟨b9, hh⟩
    · have f10 : x7 = true := by exact b9
      rw [f10]; cbv
      replace hh := bind_some hh
      obtain ⟨x12, h11, hh⟩ := hh
      have f13 := c_impl_now h11
      try rw [he_GEv] at f13
      refine ⟨_, _, hF _ _ _ _ _ _ f13 (by cases hC; subst he_GEv; simp) rfl, ?_⟩
      cbv
      replace hh := if_or hh
      rcases hh with ⟨b14, hh⟩ | ⟨b14, hh⟩
      · have f15 : (lt 1000 (wrap .i64 (add x12 p1))) = true := by cases hC; exact decide_eq_true b14
        rw [f15]; cbv
        refine ⟨3, ?_⟩
        cbv
        subst hr hp
        cases hh
        cases hC; subst he_GEv; first | (simp; done) | (simp <;> first | rfl | omega | grind)
      · have f15 : (lt 1000 (wrap .i64 (add x12 p1))) = false := by cases hC; exact decide_eq_false b14
        rw [f15]; cbv
        replace hh := bind_some hh
        obtain ⟨x17, h16, hh⟩ := hh
        have f18 := c_impl_cloneEvs h16
        try rw [he_GEv] at f18
        refine ⟨_, _, hF _ _ _ _ _ _ f18 (by cases hC; subst he_GEv; simp) rfl, ?_⟩
        cbv
        replace hh := bind_some hh
        obtain ⟨o1, hl1, hq1⟩ := hh
        refine loop_go3 hC eok mixed
          (fun s : Nat × (List GEv) × Int × Unit => match s with | (_, s27, s28, _) => (⟨[(1, .lit (.int .i64 p1)), (5, .ref (23, 0) 1 0 (len (qGEv s27))), (25, .lit (.int .i64 (cast (len (qGEv x17))))), (26, .lit (.int .i64 s28))], [((23, 0), .arr 1 3 (qGEv s27))]⟩ : St))
          (fun s : Nat × (List GEv) × Int × Unit => impl_TurnLate.l0 k p1 x17 s.1 s.2.1 s.2.2.1 = some o1)
          (fun s => s.1) (fun _ => .exit 0)
          (fun x : List GEv => match x with | x37 => (⟨[(5, .ref (23, 0) 1 0 (len (qGEv x37)))], [((23, 0), .arr 1 3 (qGEv x37))]⟩ : St))
          (fun x : List GEv => some (x) = some o1)
          (_, _, _, ()) hl1 ?_ ?_ ?_
        · rintro ⟨n, t0, t1, ⟨⟩⟩ e1
          refine cov_of [((23, 0), (23, 0))] ?_
          cbv
          all_goals (have e1_0 := congrArg (fun s => s.2.1) e1; dsimp only at e1_0; subst e1_0; have e1_1 := congrArg (fun s => s.2.2.1) e1; dsimp only at e1_1; subst e1_1; cases hC; subst he_GEv; (first | (simp; done) | (simp <;> first | rfl | omega | grind)))
        · rintro x37 hx
          have hx := Option.some.inj hx
          subst hx
          have hh := hq1
          cbv
          subst hr hp
          cases hh
          cases hC; subst he_GEv; first | (simp; done) | (simp <;> first | rfl | omega | grind)
        · rintro ⟨n, s27, s28, ⟨⟩⟩ N1 D1 hh hN1 hD1 hQ1
          replace hN1 := fun σ' n' a0 a1 (h : impl_TurnLate.l0 k p1 x17 n' a0 a1 = some o1) => hN1 σ' (n', a0, a1, ()) h
          replace hD1 := fun σ' (a0 : List GEv) (h : some (a0) = some o1) => hD1 σ' a0 h
          cases n with
          | zero => dsimp only at hh; unfold impl_TurnLate.l0 at hh; cases hh
          | succ n =>
          dsimp only at hh
          unfold impl_TurnLate.l0 at hh
          cbv
          replace hh := if_or hh
          rcases hh with ⟨b38, hh⟩ | ⟨b38, hh⟩
          · have f39 : (lt s28 (cast (len (qGEv x17)))) = true := by cases hC; subst he_GEv; first | exact decide_eq_true b38 | (simp; done) | (simp; omega) | (simp at b38 ⊢; omega) | (simp at b38 ⊢; exact b38)
            rw [f39]; cbv
            replace hh := req_some hh
            obtain ⟨h40, hh⟩ := hh
            replace hh := req_some hh
            obtain ⟨h41, hh⟩ := hh
            replace h41 : s28 < (s27.length : Nat) := h41
            refine ⟨(by cases hC; subst he_GEv; exact decide_eq_false (Int.not_lt.2 (by first | exact h40 | (simp; done) | (simp; omega) | (simp at h40 ⊢; omega) | (simp at h40 ⊢; exact h40)))), (by cases hC; subst he_GEv; exact decide_eq_true (by first | exact h41 | (simp; done) | (simp; omega) | (simp at h41 ⊢; omega) | (simp at h41 ⊢; exact h41))), ?_⟩
            replace hh := bind_some hh
            obtain ⟨⟨e42_Sym, e42_At, e42_Val⟩, h43, hh⟩ := hh
            refine ⟨[.lit (.int .i64 e42_Sym), .lit (.int .i64 e42_At), .lit (.int .i64 e42_Val)], (by cases hC; subst he_GEv; first | exact r_GEv_get h43 | (simp [h43]; done) | (have q := r_GEv_get h43; rw [r_GEv_map] at q; simpa [List.map] using q)), ?_⟩
            cbv
            replace hh := req_some hh
            obtain ⟨h44, hh⟩ := hh
            replace hh := req_some hh
            obtain ⟨h45, hh⟩ := hh
            replace h45 : s28 < (s27.length : Nat) := h45
            refine ⟨(by cases hC; subst he_GEv; exact decide_eq_false (Int.not_lt.2 (by first | exact h44 | (simp; done) | (simp; omega) | (simp at h44 ⊢; omega) | (simp at h44 ⊢; exact h44)))), (by cases hC; subst he_GEv; exact decide_eq_true (by first | exact h45 | (simp; done) | (simp; omega) | (simp at h45 ⊢; omega) | (simp at h45 ⊢; exact h45))), ?_⟩
            refine ⟨[.lit (.int .i64 e42_Sym), .lit (.int .i64 e42_At), .lit (.int .i64 e42_Val)], (by cases hC; subst he_GEv; first | exact r_GEv_get h43 | (simp [h43]; done) | (have q := r_GEv_get h43; rw [r_GEv_map] at q; simpa [List.map] using q)), ?_⟩
            cbv
            refine hN1 _ _ _ _ hh (Nat.lt_succ_self _) ?_
            rintro ⟨n, t0, t1, ⟨⟩⟩ e1
            refine cov_of [((23, 0), (23, 0))] ?_
            cbv
            all_goals (have e1_0 := congrArg (fun s => s.2.1) e1; dsimp only at e1_0; subst e1_0; have e1_1 := congrArg (fun s => s.2.2.1) e1; dsimp only at e1_1; subst e1_1; cases hC; subst he_GEv; (first | (simp; done) | (simp <;> first | rfl | omega | grind)))
          · have f39 : (lt s28 (cast (len (qGEv x17)))) = false := by cases hC; subst he_GEv; first | exact decide_eq_false b38 | (simp; done) | (simp; omega) | (simp at b38 ⊢; omega) | (simp at b38 ⊢; exact b38)
            rw [f39]; cbv
            refine hD1 _ _ hh ?_
            rintro t0 e1
            refine cov_of [((23, 0), (23, 0))] ?_
            cbv
            all_goals (subst e1; cases hC; subst he_GEv; (first | (simp; done) | (simp <;> first | rfl | omega | grind)))
    · have f10 : x7 = false := by exact Bool.eq_false_iff.2 b9
      rw [f10]; cbv
      refine ⟨3, ?_⟩
      cbv
      subst hr hp
      cases hh
      cases hC; subst he_GEv; first | (simp; done) | (simp <;> first | rfl | omega | grind)
  · have f5 : x2 = false := by exact Bool.eq_false_iff.2 b4
    rw [f5]; cbv
    refine ⟨3, ?_⟩
    cbv
    subst hr hp
    cases hh
    cases hC; subst he_GEv; first | (simp; done) | (simp <;> first | rfl | omega | grind)
theorem c_impl_TurnLate_L0 {k : Nat} {p0 : List GEv} {p1 : Int} {r : List GEv} (hh : impl_TurnLate.f k p0 p1 = some r) : FunW P 11 [.inl 3 (r_GEv p0), .lit (.int .i64 p1)] [.inl 3 (r_GEv p0), .hole] (.inl 3 (r_GEv r)) :=
  (c_impl_TurnLate hh).lend (r_GEv_ownd _) (.lend (congrArg A.tree (r_GEv_fz _).symm) (.same rfl .nil))

theorem c_laws_eqEv {p0 : GEv} {p1 : GEv} {r : Bool} (hh : laws_eqEv.f p0 p1 = some r) : FunW P 45 [.agg [.lit (.int .i64 p0.Sym), .lit (.int .i64 p0.At), .lit (.int .i64 p0.Val)], .agg [.lit (.int .i64 p1.Sym), .lit (.int .i64 p1.At), .lit (.int .i64 p1.Val)]] [.hole, .hole] (.lit (.bool r)) := by
  obtain ⟨p0_Sym, p0_At, p0_Val⟩ := p0
  obtain ⟨p1_Sym, p1_At, p1_Val⟩ := p1
  unfold laws_eqEv.f at hh
  refine fun_go2 eok mixed (ts := [(4, none)]) (rm := [.own]) (gs := [1000000, 1000001]) (pm := [.skip, .skip]) Try.func45 (by kernel_rfl) (by kernel_rfl) (by kernel_rfl) ?_
  intro Fn LW len cast toNat wrap add sub mul bin lt eq At set part app fz' rep nadd nmax ssize sext sget scat seq slt Wide Flat Ones Room r' post' hC hF hr hp
  cbv
  replace hh := if_or hh
  rcases hh with ⟨b1, hh⟩ | ⟨b1, hh⟩
  · have f2 : (eq p0_Sym p1_Sym) = true := by cases hC; exact beq_iff_eq.2 b1
    rw [f2]; cbv
    replace hh := if_or hh
    rcases hh with ⟨b3, hh⟩ | ⟨b3, hh⟩
    · have f4 : (eq p0_At p1_At) = true := by cases hC; exact beq_iff_eq.2 b3
      rw [f4]; cbv
      replace hh := if_or hh
      rcases hh with ⟨b5, hh⟩ | ⟨b5, hh⟩
      · have f6 : (eq p0_Val p1_Val) = true := by cases hC; exact beq_iff_eq.2 b5
        rw [f6]; cbv
        subst hr hp
        cases hh
        cases hC; first | (simp; done) | (simp <;> first | rfl | omega | grind)
      · have f6 : (eq p0_Val p1_Val) = false := by cases hC; exact beq_false_of_ne b5
        rw [f6]; cbv
        subst hr hp
        cases hh
        cases hC; first | (simp; done) | (simp <;> first | rfl | omega | grind)
    · have f4 : (eq p0_At p1_At) = false := by cases hC; exact beq_false_of_ne b3
      rw [f4]; cbv
      subst hr hp
      cases hh
      cases hC; first | (simp; done) | (simp <;> first | rfl | omega | grind)
  · have f2 : (eq p0_Sym p1_Sym) = false := by cases hC; exact beq_false_of_ne b1
    rw [f2]; cbv
    subst hr hp
    cases hh
    cases hC; first | (simp; done) | (simp <;> first | rfl | omega | grind)

theorem c_laws_eqEvS {k : Nat} {p0 : List GEv} {p1 : List GEv} {r : Bool} (hh : laws_eqEvS.f k p0 p1 = some r) : FunW P 12 [.tree (r_GEv p0), .tree (r_GEv p1)] [.hole, .hole] (.lit (.bool r)) := by
  unfold laws_eqEvS.f at hh
  refine fun_go2 eok mixed (ts := [(4, none)]) (rm := [.own]) (gs := [1000000, 1000001]) (pm := [.skip, .skip]) Try.func12 (by kernel_rfl) (by kernel_rfl) (by kernel_rfl) ?_
  intro Fn LW len cast toNat wrap add sub mul bin lt eq At set part app fz' rep nadd nmax ssize sext sget scat seq slt Wide Flat Ones Room r' post' hC hF hr hp
  generalize he_GEv : r_GEv = qGEv
  cbv
  replace hh := if_or hh
  rcases hh with ⟨b1, hh⟩ | ⟨b1, hh⟩
  · have f2 : (eq (cast (len (qGEv p0))) (cast (len (qGEv p1)))) = true := by cases hC; subst he_GEv; first | exact beq_iff_eq.2 b1 | (simp; done) | (simp; omega) | (simp at b1 ⊢; omega) | (simp at b1 ⊢; exact b1)
    rw [f2]; cbv
    replace hh := bind_some hh
    obtain ⟨o1, hl1, hq1⟩ := hh
    refine loop_go3 hC eok mixed
      (fun s : Nat × Int × Unit => match s with | (_, s16, _) => (⟨[(0, .tree (qGEv p0)), (1, .tree (qGEv p1)), (5, .lit (.int .i64 s16))], []⟩ : St))
      (fun s : Nat × Int × Unit => laws_eqEvS.l0 k p0 p1 s.1 s.2.1 = some o1)
      (fun s => s.1) (fun _ => .exit 0)
      (fun x : Unit => match x with | _ => (⟨[], []⟩ : St))
      (fun x : Unit => some (.ok x) = some o1)
      (_, _, ()) hl1 ?_ ?_ ?_
    · rintro ⟨n, t0, ⟨⟩⟩ e1
      refine cov_of [] ?_
      cbv
      all_goals (have e1_0 := congrArg (fun s => s.2.1) e1; dsimp only at e1_0; subst e1_0; cases hC; subst he_GEv; (first | (simp; done) | (simp <;> first | rfl | omega | grind)))
    · rintro ⟨⟩ hx
      have hx := Option.some.inj hx
      subst hx
      have hh := hq1
      cbv
      subst hr hp
      cases hh
      cases hC; subst he_GEv; first | (simp; done) | (simp <;> first | rfl | omega | grind)
    · rintro ⟨n, s16, ⟨⟩⟩ N1 D1 hh hN1 hD1 hQ1
      replace hN1 := fun σ' n' a0 (h : laws_eqEvS.l0 k p0 p1 n' a0 = some o1) => hN1 σ' (n', a0, ()) h
      replace hD1 := fun σ'  (h : some (Except.ok ()) = some o1) => hD1 σ' () h
      cases n with
      | zero => dsimp only at hh; unfold laws_eqEvS.l0 at hh; cases hh
      | succ n =>
      dsimp only at hh
      unfold laws_eqEvS.l0 at hh
      cbv
      replace hh := if_or hh
      rcases hh with ⟨b30, hh⟩ | ⟨b30, hh⟩
      · have f31 : (lt s16 (cast (len (qGEv p0)))) = true := by cases hC; subst he_GEv; first | exact decide_eq_true b30 | (simp; done) | (simp; omega) | (simp at b30 ⊢; omega) | (simp at b30 ⊢; exact b30)
        rw [f31]; cbv
        replace hh := req_some hh
        obtain ⟨h32, hh⟩ := hh
        replace hh := bind_some hh
        obtain ⟨⟨e33_Sym, e33_At, e33_Val⟩, h34, hh⟩ := hh
        refine ⟨[.lit (.int .i64 e33_Sym), .lit (.int .i64 e33_At), .lit (.int .i64 e33_Val)], (by cases hC; subst he_GEv; exact decide_eq_false (Int.not_lt.2 (by first | exact h32 | (simp; done) | (simp; omega) | (simp at h32 ⊢; omega) | (simp at h32 ⊢; exact h32)))), (by cases hC; subst he_GEv; first | exact r_GEv_get h34 | simp [h34]), ?_⟩
        cbv
        replace hh := req_some hh
        obtain ⟨h35, hh⟩ := hh
        replace hh := bind_some hh
        obtain ⟨⟨e36_Sym, e36_At, e36_Val⟩, h37, hh⟩ := hh
        refine ⟨[.lit (.int .i64 e36_Sym), .lit (.int .i64 e36_At), .lit (.int .i64 e36_Val)], (by cases hC; subst he_GEv; exact decide_eq_false (Int.not_lt.2 (by first | exact h35 | (simp; done) | (simp; omega) | (simp at h35 ⊢; omega) | (simp at h35 ⊢; exact h35)))), (by cases hC; subst he_GEv; first | exact r_GEv_get h37 | simp [h37]), ?_⟩
        cbv
        replace hh := bind_some hh
        obtain ⟨x39, h38, hh⟩ := hh
        have f40 := c_laws_eqEv h38
        try rw [he_GEv] at f40
        refine ⟨_, _, hF _ _ _ _ _ _ f40 (by cases hC; subst he_GEv; simp) rfl, ?_⟩
        cbv
        replace hh := if_or hh
        rcases hh with ⟨b41, hh⟩ | ⟨b41, hh⟩
        · have f42 : x39 = true := by exact b41
          rw [f42]; cbv
          refine hN1 _ _ _ hh (Nat.lt_succ_self _) ?_
          rintro ⟨n, t0, ⟨⟩⟩ e1
          refine cov_of [] ?_
          cbv
          all_goals (have e1_0 := congrArg (fun s => s.2.1) e1; dsimp only at e1_0; subst e1_0; cases hC; subst he_GEv; (first | (simp; done) | (simp <;> first | rfl | omega | grind)))
        · have f42 : x39 = false := by exact Bool.eq_false_iff.2 b41
          rw [f42]; cbv
          cases hh
          have hh : some _ = some _ := hq1
          refine hQ1 _ _ ?_
          cbv
          subst hr hp
          cases hh
          cases hC; subst he_GEv; first | (simp; done) | (simp <;> first | rfl | omega | grind)
      · have f31 : (lt s16 (cast (len (qGEv p0)))) = false := by cases hC; subst he_GEv; first | exact decide_eq_false b30 | (simp; done) | (simp; omega) | (simp at b30 ⊢; omega) | (simp at b30 ⊢; exact b30)
        rw [f31]; cbv
        refine hD1 _  hh ?_
        rintro ⟨⟩ e1
        refine cov_of [] ?_
        cbv
        all_goals (cases hC; subst he_GEv; (first | (simp; done) | (simp <;> first | rfl | omega | grind)))
  · have f2 : (eq (cast (len (qGEv p0))) (cast (len (qGEv p1)))) = false := by cases hC; subst he_GEv; first | exact beq_false_of_ne b1 | (simp; done) | (simp; omega) | (simp at b1 ⊢; omega) | (simp at b1 ⊢; exact b1)
    rw [f2]; cbv
    subst hr hp
    cases hh
    cases hC; subst he_GEv; first | (simp; done) | (simp <;> first | rfl | omega | grind)
theorem c_laws_eqEvS_L0_1 {k : Nat} {p0 : List GEv} {p1 : List GEv} {r : Bool} (hh : laws_eqEvS.f k p0 p1 = some r) : FunW P 12 [.inl 3 (r_GEv p0), .inl 3 (r_GEv p1)] [.inl 3 (r_GEv p0), .inl 3 (r_GEv p1)] (.lit (.bool r)) :=
  (c_laws_eqEvS hh).lend (rfl) (.lend (congrArg A.tree (r_GEv_fz _).symm) (.lend (congrArg A.tree (r_GEv_fz _).symm) .nil))

theorem c_laws_markEvS {k : Nat} {p0 : List GEv} {p1 : Int} {r : Int × (List GEv)} (hh : laws_markEvS.f k p0 p1 = some r) : FunW P 13 [.inl 3 (r_GEv p0), .lit (.int .i64 p1)] [.inl 3 (r_GEv r.2), .hole] (.lit (.int .i64 r.1)) := by
  unfold laws_markEvS.f at hh
  refine fun_go2 eok mixed (ts := [(4, none)]) (rm := [.own]) (gs := [1000000, 1000001]) (pm := [.own, .skip]) Try.func13 (by kernel_rfl) (by kernel_rfl) (by kernel_rfl) ?_
  intro Fn LW len cast toNat wrap add sub mul bin lt eq At set part app fz' rep nadd nmax ssize sext sget scat seq slt Wide Flat Ones Room r' post' hC hF hr hp
  generalize he_GEv : r_GEv = qGEv
  cbv
  replace hh := bind_some hh
  obtain ⟨o1, hl1, hq1⟩ := hh
  refine loop_go3 hC eok mixed
    (fun s : Nat × (List GEv) × Int × Int × Unit => match s with | (_, s11, s12, s13, _) => (⟨[(0, .ref (0, 0) 1 0 (len (qGEv s11))), (1, .lit (.int .i64 s12)), (5, .lit (.int .i64 s13)), (1000000, .ref (0, 0) 1 0 (len (qGEv s11)))], [((0, 0), .arr 1 3 (qGEv s11))]⟩ : St))
    (fun s : Nat × (List GEv) × Int × Int × Unit => laws_markEvS.l0 k s.1 s.2.1 s.2.2.1 s.2.2.2.1 = some o1)
    (fun s => s.1) (fun _ => .exit 0)
    (fun x : Int × (List GEv) => match x with | (x24, x25) => (⟨[(1, .lit (.int .i64 x24)), (1000000, .ref (0, 0) 1 0 (len (qGEv x25)))], [((0, 0), .arr 1 3 (qGEv x25))]⟩ : St))
    (fun x : Int × (List GEv) => some (x) = some o1)
    (_, _, _, _, ()) hl1 ?_ ?_ ?_
  · rintro ⟨n, t0, t1, t2, ⟨⟩⟩ e1
    refine cov_of [((0, 0), (0, 0))] ?_
    cbv
    all_goals (have e1_0 := congrArg (fun s => s.2.1) e1; dsimp only at e1_0; subst e1_0; have e1_1 := congrArg (fun s => s.2.2.1) e1; dsimp only at e1_1; subst e1_1; have e1_2 := congrArg (fun s => s.2.2.2.1) e1; dsimp only at e1_2; subst e1_2; cases hC; subst he_GEv; (first | (simp; done) | (simp <;> first | rfl | omega | grind)))
  · rintro ⟨x24, x25⟩ hx
    have hx := Option.some.inj hx
    subst hx
    have hh := hq1
    cbv
    subst hr hp
    cases hh
    cases hC; subst he_GEv; first | (simp; done) | (simp <;> first | rfl | omega | grind)
  · rintro ⟨n, s11, s12, s13, ⟨⟩⟩ N1 D1 hh hN1 hD1 hQ1
    replace hN1 := fun σ' n' a0 a1 a2 (h : laws_markEvS.l0 k n' a0 a1 a2 = some o1) => hN1 σ' (n', a0, a1, a2, ()) h
    replace hD1 := fun σ' (a0 : Int) (a1 : List GEv) (h : some ((a0, a1)) = some o1) => hD1 σ' (a0, a1) h
    cases n with
    | zero => dsimp only at hh; unfold laws_markEvS.l0 at hh; cases hh
    | succ n =>
    dsimp only at hh
    unfold laws_markEvS.l0 at hh
    cbv
    replace hh := if_or hh
    rcases hh with ⟨b26, hh⟩ | ⟨b26, hh⟩
    · have f27 : (lt s13 (cast (len (qGEv s11)))) = true := by cases hC; subst he_GEv; first | exact decide_eq_true b26 | (simp; done) | (simp; omega) | (simp at b26 ⊢; omega) | (simp at b26 ⊢; exact b26)
      rw [f27]; cbv
      replace hh := req_some hh
      obtain ⟨h28, hh⟩ := hh
      replace hh := req_some hh
      obtain ⟨h29, hh⟩ := hh
      replace h29 : s13 < (s11.length : Nat) := h29
      refine ⟨(by cases hC; subst he_GEv; exact decide_eq_false (Int.not_lt.2 (by first | exact h28 | (simp; done) | (simp; omega) | (simp at h28 ⊢; omega) | (simp at h28 ⊢; exact h28)))), (by cases hC; subst he_GEv; exact decide_eq_true (by first | exact h29 | (simp; done) | (simp; omega) | (simp at h29 ⊢; omega) | (simp at h29 ⊢; exact h29))), ?_⟩
      replace hh := bind_some hh
      obtain ⟨⟨e30_Sym, e30_At, e30_Val⟩, h31, hh⟩ := hh
      refine ⟨[.lit (.int .i64 e30_Sym), .lit (.int .i64 e30_At), .lit (.int .i64 e30_Val)], (by cases hC; subst he_GEv; first | exact r_GEv_get h31 | (simp [h31]; done) | (have q := r_GEv_get h31; rw [r_GEv_map] at q; simpa [List.map] using q)), ?_⟩
      cbv
      replace hh := req_some hh
      obtain ⟨h32, hh⟩ := hh
      replace hh := req_some hh
      obtain ⟨h33, hh⟩ := hh
      replace h33 : s13 < (s11.length : Nat) := h33
      refine ⟨(by cases hC; subst he_GEv; exact decide_eq_false (Int.not_lt.2 (by first | exact h32 | (simp; done) | (simp; omega) | (simp at h32 ⊢; omega) | (simp at h32 ⊢; exact h32)))), (by cases hC; subst he_GEv; exact decide_eq_true (by first | exact h33 | (simp; done) | (simp; omega) | (simp at h33 ⊢; omega) | (simp at h33 ⊢; exact h33))), ?_⟩
      refine ⟨[.lit (.int .i64 s12), .lit (.int .i64 e30_At), .lit (.int .i64 e30_Val)], (by cases hC; subst he_GEv; first | exact r_GEv_get h31 | (simp [h31]; done) | (have q := r_GEv_get h31; rw [r_GEv_map] at q; simpa [List.map] using q) | (simp [(List.getElem?_eq_some_iff.1 h31).1]; done) | simp [h31, (List.getElem?_eq_some_iff.1 h31).1]), ?_⟩
      cbv
      replace hh := req_some hh
      obtain ⟨h34, hh⟩ := hh
      replace hh := req_some hh
      obtain ⟨h35, hh⟩ := hh
      replace h35 : s13 < (s11.length : Nat) := h35
      refine ⟨(by cases hC; subst he_GEv; exact decide_eq_false (Int.not_lt.2 (by first | exact h34 | (simp; done) | (simp; omega) | (simp at h34 ⊢; omega) | (simp at h34 ⊢; exact h34)))), (by cases hC; subst he_GEv; exact decide_eq_true (by first | exact h35 | (simp; done) | (simp; omega) | (simp at h35 ⊢; omega) | (simp at h35 ⊢; exact h35))), ?_⟩
      refine ⟨[.lit (.int .i64 s12), .lit (.int .i64 (wrap .i64 (add s12 1))), .lit (.int .i64 e30_Val)], (by cases hC; subst he_GEv; first | exact r_GEv_get h31 | (simp [h31]; done) | (have q := r_GEv_get h31; rw [r_GEv_map] at q; simpa [List.map] using q) | (simp [(List.getElem?_eq_some_iff.1 h31).1]; done) | simp [h31, (List.getElem?_eq_some_iff.1 h31).1]), ?_⟩
      cbv
      refine hN1 _ _ _ _ _ hh (Nat.lt_succ_self _) ?_
      rintro ⟨n, t0, t1, t2, ⟨⟩⟩ e1
      refine cov_of [((0, 0), (0, 0))] ?_
      cbv
      all_goals (have e1_0 := congrArg (fun s => s.2.1) e1; dsimp only at e1_0; subst e1_0; have e1_1 := congrArg (fun s => s.2.2.1) e1; dsimp only at e1_1; subst e1_1; have e1_2 := congrArg (fun s => s.2.2.2.1) e1; dsimp only at e1_2; subst e1_2; cases hC; subst he_GEv; (first | (simp; done) | (simp <;> first | rfl | omega | grind)))
    · have f27 : (lt s13 (cast (len (qGEv s11)))) = false := by cases hC; subst he_GEv; first | exact decide_eq_false b26 | (simp; done) | (simp; omega) | (simp at b26 ⊢; omega) | (simp at b26 ⊢; exact b26)
      rw [f27]; cbv
      refine hD1 _ _ _ hh ?_
      rintro ⟨t0, t1⟩ e1
      refine cov_of [((0, 0), (0, 0))] ?_
      cbv
      all_goals (have e1_0 := congrArg (fun s => s.1) e1; dsimp only at e1_0; subst e1_0; have e1_1 := congrArg (fun s => s.2) e1; dsimp only at e1_1; subst e1_1; cases hC; subst he_GEv; (first | (simp; done) | (simp <;> first | rfl | omega | grind)))

theorem c_laws_heldEvS {k : Nat} {p0 : List GEv} {p1 : Int} {r : Int} (hh : laws_heldEvS.f k p0 p1 = some r) : FunW P 14 [.tree (r_GEv p0), .lit (.int .i64 p1)] [.hole, .hole] (.lit (.int .i64 r)) := by
  unfold laws_heldEvS.f at hh
  refine fun_go2 eok mixed (ts := [(4, none)]) (rm := [.own]) (gs := [1000000, 1000001]) (pm := [.skip, .skip]) Try.func14 (by kernel_rfl) (by kernel_rfl) (by kernel_rfl) ?_
  intro Fn LW len cast toNat wrap add sub mul bin lt eq At set part app fz' rep nadd nmax ssize sext sget scat seq slt Wide Flat Ones Room r' post' hC hF hr hp
  generalize he_GEv : r_GEv = qGEv
  cbv
  replace hh := bind_some hh
  obtain ⟨o1, hl1, hq1⟩ := hh
  refine loop_go3 hC eok mixed
    (fun s : Nat × Int × Int × Unit => match s with | (_, s18, s19, _) => (⟨[(0, .tree (qGEv p0)), (1, .lit (.int .i64 s18)), (5, .lit (.int .i64 s19))], []⟩ : St))
    (fun s : Nat × Int × Int × Unit => laws_heldEvS.l0 k p0 s.1 s.2.1 s.2.2.1 = some o1)
    (fun s => s.1) (fun _ => .exit 0)
    (fun x : Int => match x with | x37 => (⟨[(1, .lit (.int .i64 x37))], []⟩ : St))
    (fun x : Int => some (.ok x) = some o1)
    (_, _, _, ()) hl1 ?_ ?_ ?_
  · rintro ⟨n, t0, t1, ⟨⟩⟩ e1
    refine cov_of [] ?_
    cbv
    all_goals (have e1_0 := congrArg (fun s => s.2.1) e1; dsimp only at e1_0; subst e1_0; have e1_1 := congrArg (fun s => s.2.2.1) e1; dsimp only at e1_1; subst e1_1; cases hC; subst he_GEv; (first | (simp; done) | (simp <;> first | rfl | omega | grind)))
  · rintro x37 hx
    have hx := Option.some.inj hx
    subst hx
    have hh := hq1
    cbv
    subst hr hp
    cases hh
    cases hC; subst he_GEv; first | (simp; done) | (simp <;> first | rfl | omega | grind)
  · rintro ⟨n, s18, s19, ⟨⟩⟩ N1 D1 hh hN1 hD1 hQ1
    replace hN1 := fun σ' n' a0 a1 (h : laws_heldEvS.l0 k p0 n' a0 a1 = some o1) => hN1 σ' (n', a0, a1, ()) h
    replace hD1 := fun σ' (a0 : Int) (h : some (Except.ok a0) = some o1) => hD1 σ' a0 h
    cases n with
    | zero => dsimp only at hh; unfold laws_heldEvS.l0 at hh; cases hh
    | succ n =>
    dsimp only at hh
    unfold laws_heldEvS.l0 at hh
    cbv
    replace hh := if_or hh
    rcases hh with ⟨b38, hh⟩ | ⟨b38, hh⟩
    · have f39 : (lt s19 (cast (len (qGEv p0)))) = true := by cases hC; subst he_GEv; first | exact decide_eq_true b38 | (simp; done) | (simp; omega) | (simp at b38 ⊢; omega) | (simp at b38 ⊢; exact b38)
      rw [f39]; cbv
      replace hh := req_some hh
      obtain ⟨h40, hh⟩ := hh
      replace hh := bind_some hh
      obtain ⟨⟨e41_Sym, e41_At, e41_Val⟩, h42, hh⟩ := hh
      refine ⟨[.lit (.int .i64 e41_Sym), .lit (.int .i64 e41_At), .lit (.int .i64 e41_Val)], (by cases hC; subst he_GEv; exact decide_eq_false (Int.not_lt.2 (by first | exact h40 | (simp; done) | (simp; omega) | (simp at h40 ⊢; omega) | (simp at h40 ⊢; exact h40)))), (by cases hC; subst he_GEv; first | exact r_GEv_get h42 | simp [h42]), ?_⟩
      cbv
      replace hh := if_or hh
      rcases hh with ⟨b43, hh⟩ | ⟨b43, hh⟩
      · have f44 : (eq e41_Sym s18) = true := by cases hC; exact beq_iff_eq.2 b43
        rw [f44]; cbv
        replace hh := req_some hh
        obtain ⟨h45, hh⟩ := hh
        replace hh := bind_some hh
        obtain ⟨⟨e46_Sym, e46_At, e46_Val⟩, h47, hh⟩ := hh
        refine ⟨[.lit (.int .i64 e46_Sym), .lit (.int .i64 e46_At), .lit (.int .i64 e46_Val)], (by cases hC; subst he_GEv; exact decide_eq_false (Int.not_lt.2 (by first | exact h45 | (simp; done) | (simp; omega) | (simp at h45 ⊢; omega) | (simp at h45 ⊢; exact h45)))), (by cases hC; subst he_GEv; first | exact r_GEv_get h47 | simp [h47]), ?_⟩
        cbv
        replace hh := if_or hh
        rcases hh with ⟨b48, hh⟩ | ⟨b48, hh⟩
        · have f49 : (eq e46_At (wrap .i64 (add s18 1))) = true := by cases hC; exact beq_iff_eq.2 b48
          rw [f49]; cbv
          replace hh := req_some hh
          obtain ⟨h50, hh⟩ := hh
          replace hh := bind_some hh
          obtain ⟨⟨e51_Sym, e51_At, e51_Val⟩, h52, hh⟩ := hh
          refine ⟨[.lit (.int .i64 e51_Sym), .lit (.int .i64 e51_At), .lit (.int .i64 e51_Val)], (by cases hC; subst he_GEv; exact decide_eq_false (Int.not_lt.2 (by first | exact h50 | (simp; done) | (simp; omega) | (simp at h50 ⊢; omega) | (simp at h50 ⊢; exact h50)))), (by cases hC; subst he_GEv; first | exact r_GEv_get h52 | simp [h52]), ?_⟩
          cbv
          replace hh := if_or hh
          rcases hh with ⟨b53, hh⟩ | ⟨b53, hh⟩
          · have f54 : (eq e51_Val (wrap .i64 (add (wrap .i64 (add s18 1)) 1))) = true := by cases hC; exact beq_iff_eq.2 b53
            rw [f54]; cbv
            refine hN1 _ _ _ _ hh (Nat.lt_succ_self _) ?_
            rintro ⟨n, t0, t1, ⟨⟩⟩ e1
            refine cov_of [] ?_
            cbv
            all_goals (have e1_0 := congrArg (fun s => s.2.1) e1; dsimp only at e1_0; subst e1_0; have e1_1 := congrArg (fun s => s.2.2.1) e1; dsimp only at e1_1; subst e1_1; cases hC; subst he_GEv; (first | (simp; done) | (simp <;> first | rfl | omega | grind)))
          · have f54 : (eq e51_Val (wrap .i64 (add (wrap .i64 (add s18 1)) 1))) = false := by cases hC; exact beq_false_of_ne b53
            rw [f54]; cbv
            cases hh
            have hh : some _ = some _ := hq1
            refine hQ1 _ _ ?_
            cbv
            subst hr hp
            cases hh
            cases hC; subst he_GEv; first | (simp; done) | (simp <;> first | rfl | omega | grind)
        · have f49 : (eq e46_At (wrap .i64 (add s18 1))) = false := by cases hC; exact beq_false_of_ne b48
          rw [f49]; cbv
          cases hh
          have hh : some _ = some _ := hq1
          refine hQ1 _ _ ?_
          cbv
          subst hr hp
          cases hh
          cases hC; subst he_GEv; first | (simp; done) | (simp <;> first | rfl | omega | grind)
      · have f44 : (eq e41_Sym s18) = false := by cases hC; exact beq_false_of_ne b43
        rw [f44]; cbv
        cases hh
        have hh : some _ = some _ := hq1
        refine hQ1 _ _ ?_
        cbv
        subst hr hp
        cases hh
        cases hC; subst he_GEv; first | (simp; done) | (simp <;> first | rfl | omega | grind)
    · have f39 : (lt s19 (cast (len (qGEv p0)))) = false := by cases hC; subst he_GEv; first | exact decide_eq_false b38 | (simp; done) | (simp; omega) | (simp at b38 ⊢; omega) | (simp at b38 ⊢; exact b38)
      rw [f39]; cbv
      refine hD1 _ _ hh ?_
      rintro t0 e1
      refine cov_of [] ?_
      cbv
      all_goals (subst e1; cases hC; subst he_GEv; (first | (simp; done) | (simp <;> first | rfl | omega | grind)))
theorem c_laws_heldEvS_L0 {k : Nat} {p0 : List GEv} {p1 : Int} {r : Int} (hh : laws_heldEvS.f k p0 p1 = some r) : FunW P 14 [.inl 3 (r_GEv p0), .lit (.int .i64 p1)] [.inl 3 (r_GEv p0), .hole] (.lit (.int .i64 r)) :=
  (c_laws_heldEvS hh).lend (rfl) (.lend (congrArg A.tree (r_GEv_fz _).symm) (.same rfl .nil))

theorem c_laws_FnExactTurnLate {k : Nat} {p0 : List GEv} {p1 : Int} {r : Bool} (hh : laws_FnExactTurnLate.f k p0 p1 = some r) : FunW P 3 [.tree (r_GEv p0), .lit (.int .i64 p1)] [.hole, .hole] (.lit (.bool r)) := by
  unfold laws_FnExactTurnLate.f at hh
  refine fun_go2 eok mixed (ts := [(4, none)]) (rm := [.own]) (gs := [1000000, 1000001]) (pm := [.skip, .skip]) Try.func3 (by kernel_rfl) (by kernel_rfl) (by kernel_rfl) ?_
  intro Fn LW len cast toNat wrap add sub mul bin lt eq At set part app fz' rep nadd nmax ssize sext sget scat seq slt Wide Flat Ones Room r' post' hC hF hr hp
  generalize he_GEv : r_GEv = qGEv
  cbv
  replace hh := bind_some hh
  obtain ⟨x2, h1, hh⟩ := hh
  have f3 := c_laws_szEvS h1
  try rw [he_GEv] at f3
  refine ⟨_, _, hF _ _ _ _ _ _ f3 (by cases hC; subst he_GEv; simp) rfl, ?_⟩
  cbv
  replace hh := if_or hh
  rcases hh with ⟨b4, hh⟩ | ⟨b4, hh⟩
  · have f5 : (lt x2 0) = true := by cases hC; exact decide_eq_true b4
    rw [f5]; cbv
    subst hr hp
    cases hh
    cases hC; subst he_GEv; first | (simp; done) | (simp <;> first | rfl | omega | grind)
  · have f5 : (lt x2 0) = false := by cases hC; exact decide_eq_false b4
    rw [f5]; cbv
    replace hh := bind_some hh
    obtain ⟨x7, h6, hh⟩ := hh
    have f8 := c_laws_toEvS h6
    try rw [he_GEv] at f8
    refine ⟨_, _, hF _ _ _ _ _ _ f8 (by cases hC; subst he_GEv; simp) rfl, ?_⟩
    cbv
    replace hh := bind_some hh
    obtain ⟨x10, h9, hh⟩ := hh
    have f11 := c_spec_TurnLate_L0 h9
    try rw [he_GEv] at f11
    refine ⟨_, _, hF _ _ _ _ _ _ f11 (by cases hC; subst he_GEv; simp) rfl, ?_⟩
    cbv
    replace hh := bind_some hh
    obtain ⟨x13, h12, hh⟩ := hh
    have f14 := c_laws_toEvS h12
    try rw [he_GEv] at f14
    refine ⟨_, _, hF _ _ _ _ _ _ f14 (by cases hC; subst he_GEv; simp) rfl, ?_⟩
    cbv
    replace hh := bind_some hh
    obtain ⟨x16, h15, hh⟩ := hh
    have f17 := c_impl_TurnLate_L0 h15
    try rw [he_GEv] at f17
    refine ⟨_, _, hF _ _ _ _ _ _ f17 (by cases hC; subst he_GEv; simp) rfl, ?_⟩
    cbv
    replace hh := bind_some hh
    obtain ⟨x19, h18, hh⟩ := hh
    have f20 := c_laws_eqEvS_L0_1 h18
    try rw [he_GEv] at f20
    refine ⟨_, _, hF _ _ _ _ _ _ f20 (by cases hC; subst he_GEv; simp) rfl, ?_⟩
    cbv
    replace hh := if_or hh
    rcases hh with ⟨b21, hh⟩ | ⟨b21, hh⟩
    · have f22 : x19 = true := by exact b21
      rw [f22]; cbv
      replace hh := bind_some hh
      obtain ⟨x24, h23, hh⟩ := hh
      have f25 := c_laws_toEvS h23
      try rw [he_GEv] at f25
      refine ⟨_, _, hF _ _ _ _ _ _ f25 (by cases hC; subst he_GEv; simp) rfl, ?_⟩
      cbv
      replace hh := bind_some hh
      obtain ⟨x27, h26, hh⟩ := hh
      have f28 := c_laws_eqEvS_L0_1 h26
      try rw [he_GEv] at f28
      refine ⟨_, _, hF _ _ _ _ _ _ f28 (by cases hC; subst he_GEv; simp) rfl, ?_⟩
      cbv
      replace hh := if_or hh
      rcases hh with ⟨b29, hh⟩ | ⟨b29, hh⟩
      · have f30 : x27 = true := by exact b29
        rw [f30]; cbv
        replace hh := bind_some hh
        obtain ⟨⟨x32_0, x32_1⟩, h31, hh⟩ := hh
        replace hh := req_some hh
        obtain ⟨h70, hh⟩ := hh
        try dsimp only at h70
        have f33 := c_laws_markEvS h31
        try rw [he_GEv] at f33
        refine ⟨_, _, hF _ _ _ _ _ _ f33 (by cases hC; subst he_GEv; simp) rfl, ?_⟩
        cbv
        replace hh := if_or hh
        rcases hh with ⟨b34, hh⟩ | ⟨b34, hh⟩
        · have f35 : (lt x32_0 0) = true := by cases hC; exact decide_eq_true b34
          rw [f35]; cbv
          subst hr hp
          cases hh
          cases hC; subst he_GEv; first | (simp; done) | (simp <;> first | rfl | omega | grind)
        · have f35 : (lt x32_0 0) = false := by cases hC; exact decide_eq_false b34
          rw [f35]; cbv
          replace hh := bind_some hh
          obtain ⟨x37, h36, hh⟩ := hh
          have f38 := c_laws_eqEvS_L0_1 h36
          try rw [he_GEv] at f38
          refine ⟨_, _, hF _ _ _ _ _ _ f38 (by cases hC; subst he_GEv; simp) rfl, ?_⟩
          cbv
          replace hh := if_or hh
          rcases hh with ⟨b39, hh⟩ | ⟨b39, hh⟩
          · have f40 : x37 = true := by exact b39
            rw [f40]; cbv
            replace hh := bind_some hh
            obtain ⟨⟨x42_0, x42_1⟩, h41, hh⟩ := hh
            replace hh := req_some hh
            obtain ⟨h69, hh⟩ := hh
            try dsimp only at h69
            have f43 := c_laws_markEvS h41
            try rw [he_GEv] at f43
            refine ⟨_, _, hF _ _ _ _ _ _ f43 (by cases hC; subst he_GEv; simp) rfl, ?_⟩
            cbv
            replace hh := bind_some hh
            obtain ⟨x45, h44, hh⟩ := hh
            refine ⟨by cases hC; subst he_GEv; first | (simp; done) | (simp; first | omega | (simp only [natc] at *; omega)), ?_⟩
            have f46 := c_laws_heldEvS_L0 h44
            try rw [he_GEv] at f46
            refine ⟨_, _, hF _ _ _ _ _ _ f46 (by cases hC; subst he_GEv; simp) rfl, ?_⟩
            cbv
            replace hh := if_or hh
            rcases hh with ⟨b47, hh⟩ | ⟨b47, hh⟩
            · have f48 : (lt x45 0) = true := by cases hC; exact decide_eq_true b47
              rw [f48]; cbv
              subst hr hp
              cases hh
              cases hC; subst he_GEv; first | (simp; done) | (simp <;> first | rfl | omega | grind)
            · have f48 : (lt x45 0) = false := by cases hC; exact decide_eq_false b47
              rw [f48]; cbv
              replace hh := if_or hh
              rcases hh with ⟨b49, hh⟩ | ⟨b49, hh⟩
              · have f50 : (eq x45 x42_0) = true := by cases hC; exact beq_iff_eq.2 b49
                rw [f50]; cbv
                replace hh := bind_some hh
                obtain ⟨x52, h51, hh⟩ := hh
                have f53 := c_laws_toEvS h51
                try rw [he_GEv] at f53
                refine ⟨_, _, hF _ _ _ _ _ _ f53 (by cases hC; subst he_GEv; simp) rfl, ?_⟩
                cbv
                replace hh := bind_some hh
                obtain ⟨x55, h54, hh⟩ := hh
                have f56 := c_impl_TurnLate_L0 h54
                try rw [he_GEv] at f56
                refine ⟨_, _, hF _ _ _ _ _ _ f56 (by cases hC; subst he_GEv; simp) rfl, ?_⟩
                cbv
                replace hh := bind_some hh
                obtain ⟨x58, h57, hh⟩ := hh
                have f59 := c_laws_eqEvS_L0_1 h57
                try rw [he_GEv] at f59
                refine ⟨_, _, hF _ _ _ _ _ _ f59 (by cases hC; subst he_GEv; simp) rfl, ?_⟩
                cbv
                replace hh := if_or hh
                rcases hh with ⟨b60, hh⟩ | ⟨b60, hh⟩
                · have f61 : x58 = true := by exact b60
                  rw [f61]; cbv
                  replace hh := bind_some hh
                  obtain ⟨x63, h62, hh⟩ := hh
                  refine ⟨by cases hC; subst he_GEv; first | (simp; done) | (simp; first | omega | (simp only [natc] at *; omega)), ?_⟩
                  have f64 := c_laws_heldEvS_L0 h62
                  try rw [he_GEv] at f64
                  refine ⟨_, _, hF _ _ _ _ _ _ f64 (by cases hC; subst he_GEv; simp) rfl, ?_⟩
                  cbv
                  replace hh := if_or hh
                  rcases hh with ⟨b65, hh⟩ | ⟨b65, hh⟩
                  · have f66 : (lt x63 0) = true := by cases hC; exact decide_eq_true b65
                    rw [f66]; cbv
                    subst hr hp
                    cases hh
                    cases hC; subst he_GEv; first | (simp; done) | (simp <;> first | rfl | omega | grind)
                  · have f66 : (lt x63 0) = false := by cases hC; exact decide_eq_false b65
                    rw [f66]; cbv
                    replace hh := if_or hh
                    rcases hh with ⟨b67, hh⟩ | ⟨b67, hh⟩
                    · have f68 : (eq x63 x42_0) = true := by cases hC; exact beq_iff_eq.2 b67
                      rw [f68]; cbv
                      subst hr hp
                      cases hh
                      cases hC; subst he_GEv; first | (simp; done) | (simp <;> first | rfl | omega | grind)
                    · have f68 : (eq x63 x42_0) = false := by cases hC; exact beq_false_of_ne b67
                      rw [f68]; cbv
                      subst hr hp
                      cases hh
                      cases hC; subst he_GEv; first | (simp; done) | (simp <;> first | rfl | omega | grind)
                · have f61 : x58 = false := by exact Bool.eq_false_iff.2 b60
                  rw [f61]; cbv
                  subst hr hp
                  cases hh
                  cases hC; subst he_GEv; first | (simp; done) | (simp <;> first | rfl | omega | grind)
              · have f50 : (eq x45 x42_0) = false := by cases hC; exact beq_false_of_ne b49
                rw [f50]; cbv
                subst hr hp
                cases hh
                cases hC; subst he_GEv; first | (simp; done) | (simp <;> first | rfl | omega | grind)
          · have f40 : x37 = false := by exact Bool.eq_false_iff.2 b39
            rw [f40]; cbv
            subst hr hp
            cases hh
            cases hC; subst he_GEv; first | (simp; done) | (simp <;> first | rfl | omega | grind)
      · have f30 : x27 = false := by exact Bool.eq_false_iff.2 b29
        rw [f30]; cbv
        subst hr hp
        cases hh
        cases hC; subst he_GEv; first | (simp; done) | (simp <;> first | rfl | omega | grind)
    · have f22 : x19 = false := by exact Bool.eq_false_iff.2 b21
      rw [f22]; cbv
      subst hr hp
      cases hh
      cases hC; subst he_GEv; first | (simp; done) | (simp <;> first | rfl | omega | grind)

theorem c_laws_toIntS {k : Nat} {p0 : List Int} {r : List Int} (hh : laws_toIntS.f k p0 = some r) : FunW P 16 [.tree (r_Int p0)] [.hole] (.inl 1 (r_Int r)) := by
  unfold laws_toIntS.f at hh
  refine fun_go2 eok mixed (ts := [(2, none)]) (rm := [.own]) (gs := [1000000]) (pm := [.skip]) Try.func16 (by kernel_rfl) (by kernel_rfl) (by kernel_rfl) ?_
  intro Fn LW len cast toNat wrap add sub mul bin lt eq At set part app fz' rep nadd nmax ssize sext sget scat seq slt Wide Flat Ones Room r' post' hC hF hr hp
  generalize he_Int : r_Int = qInt
  cbv
  replace hh := req_some hh
  obtain ⟨h1, hh⟩ := hh
  replace hh := req_some hh
  obtain ⟨h2, hh⟩ := hh
  replace hh := req_some hh
  obtain ⟨h3, hh⟩ := hh
  refine ⟨⟨(by cases hC; subst he_Int; exact decide_eq_false (Int.not_lt.2 (by first | exact h1 | (simp; done) | (simp; omega) | (simp at h1 ⊢; omega) | (simp at h1 ⊢; exact h1)))), (by cases hC; subst he_Int; exact decide_eq_false (Int.not_lt.2 (by first | exact h2 | (simp; done) | (simp; omega) | (simp at h2 ⊢; omega) | (simp at h2 ⊢; exact h2)))), (by cases hC; subst he_Int; first | exact h3 | (simp; done) | (simp; omega) | (simp at h3 ⊢; omega) | (simp at h3 ⊢; exact h3))⟩, ?_⟩
  replace hh := bind_some hh
  obtain ⟨o1, hl1, hq1⟩ := hh
  refine loop_go3 hC eok mixed
    (fun s : Nat × (List Int) × Int × Unit => match s with | (_, s13, s14, _) => (⟨[(0, .tree (qInt p0)), (3, .ref (7, 0) 1 0 (len (qInt s13))), (4, .lit (.int .i64 s14))], [((7, 0), .arr 1 1 (qInt s13))]⟩ : St))
    (fun s : Nat × (List Int) × Int × Unit => laws_toIntS.l0 k p0 s.1 s.2.1 s.2.2.1 = some o1)
    (fun s => s.1) (fun _ => .exit 0)
    (fun x : List Int => match x with | x24 => (⟨[(3, .ref (7, 0) 1 0 (len (qInt x24)))], [((7, 0), .arr 1 1 (qInt x24))]⟩ : St))
    (fun x : List Int => some (x) = some o1)
    (_, _, _, ()) hl1 ?_ ?_ ?_
  · rintro ⟨n, t0, t1, ⟨⟩⟩ e1
    refine cov_of [((7, 0), (7, 0))] ?_
    cbv
    all_goals (have e1_0 := congrArg (fun s => s.2.1) e1; dsimp only at e1_0; subst e1_0; have e1_1 := congrArg (fun s => s.2.2.1) e1; dsimp only at e1_1; subst e1_1; cases hC; subst he_Int; (first | (simp; done) | (simp <;> first | rfl | omega | grind)))
  · rintro x24 hx
    have hx := Option.some.inj hx
    subst hx
    have hh := hq1
    cbv
    subst hr hp
    cases hh
    cases hC; subst he_Int; first | (simp; done) | (simp <;> first | rfl | omega | grind)
  · rintro ⟨n, s13, s14, ⟨⟩⟩ N1 D1 hh hN1 hD1 hQ1
    replace hN1 := fun σ' n' a0 a1 (h : laws_toIntS.l0 k p0 n' a0 a1 = some o1) => hN1 σ' (n', a0, a1, ()) h
    replace hD1 := fun σ' (a0 : List Int) (h : some (a0) = some o1) => hD1 σ' a0 h
    cases n with
    | zero => dsimp only at hh; unfold laws_toIntS.l0 at hh; cases hh
    | succ n =>
    dsimp only at hh
    unfold laws_toIntS.l0 at hh
    cbv
    replace hh := if_or hh
    rcases hh with ⟨b25, hh⟩ | ⟨b25, hh⟩
    · have f26 : (lt s14 (cast (len (qInt p0)))) = true := by cases hC; subst he_Int; first | exact decide_eq_true b25 | (simp; done) | (simp; omega) | (simp at b25 ⊢; omega) | (simp at b25 ⊢; exact b25)
      rw [f26]; cbv
      replace hh := req_some hh
      obtain ⟨h27, hh⟩ := hh
      replace hh := bind_some hh
      obtain ⟨e28, h29, hh⟩ := hh
      refine ⟨[.lit (.int .i64 e28)], (by cases hC; subst he_Int; exact decide_eq_false (Int.not_lt.2 (by first | exact h27 | (simp; done) | (simp; omega) | (simp at h27 ⊢; omega) | (simp at h27 ⊢; exact h27)))), (by cases hC; subst he_Int; first | exact r_Int_get h29 | simp [h29]), ?_⟩
      cbv
      replace hh := req_some hh
      obtain ⟨h30, hh⟩ := hh
      replace hh := req_some hh
      obtain ⟨h31, hh⟩ := hh
      replace h31 : s14 < (s13.length : Nat) := h31
      refine ⟨(by cases hC; subst he_Int; exact decide_eq_false (Int.not_lt.2 (by first | exact h30 | (simp; done) | (simp; omega) | (simp at h30 ⊢; omega) | (simp at h30 ⊢; exact h30)))), (by cases hC; subst he_Int; exact decide_eq_true (by first | exact h31 | (simp; done) | (simp; omega) | (simp at h31 ⊢; omega) | (simp at h31 ⊢; exact h31))), ?_⟩
      replace hh := bind_some hh
      obtain ⟨e32, h33, hh⟩ := hh
      refine ⟨[.lit (.int .i64 e32)], (by cases hC; subst he_Int; first | exact r_Int_get h33 | (simp [h33]; done) | (have q := r_Int_get h33; rw [r_Int_map] at q; simpa [List.map] using q)), ?_⟩
      cbv
      refine hN1 _ _ _ _ hh (Nat.lt_succ_self _) ?_
      rintro ⟨n, t0, t1, ⟨⟩⟩ e1
      refine cov_of [((7, 0), (7, 0))] ?_
      cbv
      all_goals (have e1_0 := congrArg (fun s => s.2.1) e1; dsimp only at e1_0; subst e1_0; have e1_1 := congrArg (fun s => s.2.2.1) e1; dsimp only at e1_1; subst e1_1; cases hC; subst he_Int; (first | (simp; done) | (simp <;> first | rfl | omega | grind)))
    · have f26 : (lt s14 (cast (len (qInt p0)))) = false := by cases hC; subst he_Int; first | exact decide_eq_false b25 | (simp; done) | (simp; omega) | (simp at b25 ⊢; omega) | (simp at b25 ⊢; exact b25)
      rw [f26]; cbv
      refine hD1 _ _ hh ?_
      rintro t0 e1
      refine cov_of [((7, 0), (7, 0))] ?_
      cbv
      all_goals (subst e1; cases hC; subst he_Int; (first | (simp; done) | (simp <;> first | rfl | omega | grind)))

theorem c_spec_TurnBy {k : Nat} {p0 : List Int} {r : Bool} (hh : spec_TurnBy.f k p0 = some r) : FunW P 46 [.tree (r_Int p0)] [.hole] (.lit (.bool r)) := by
  unfold spec_TurnBy.f at hh
  refine fun_go2 eok mixed (ts := [(2, none)]) (rm := [.own]) (gs := [1000000]) (pm := [.skip]) Try.func46 (by kernel_rfl) (by kernel_rfl) (by kernel_rfl) ?_
  intro Fn LW len cast toNat wrap add sub mul bin lt eq At set part app fz' rep nadd nmax ssize sext sget scat seq slt Wide Flat Ones Room r' post' hC hF hr hp
  generalize he_Int : r_Int = qInt
  cbv
  replace hh := if_or hh
  rcases hh with ⟨b1, hh⟩ | ⟨b1, hh⟩
  · have f2 : (eq (cast (len (qInt p0))) 5) = true := by cases hC; subst he_Int; first | exact beq_iff_eq.2 b1 | (simp; done) | (simp; omega) | (simp at b1 ⊢; omega) | (simp at b1 ⊢; exact b1)
    rw [f2]; cbv
    replace hh := bind_some hh
    obtain ⟨o1, hl1, hq1⟩ := hh
    refine loop_go3 hC eok mixed
      (fun s : Nat × Int × Unit => match s with | (_, s46, _) => (⟨[(0, .tree (qInt p0)), (3, .lit (.int .i64 s46))], []⟩ : St))
      (fun s : Nat × Int × Unit => spec_TurnBy.l2 k p0 s.1 s.2.1 = some o1)
      (fun s => s.1) (fun _ => .exit 0)
      (fun x : Unit => match x with | _ => (⟨[], []⟩ : St))
      (fun x : Unit => some (.ok x) = some o1)
      (_, _, ()) hl1 ?_ ?_ ?_
    · rintro ⟨n, t0, ⟨⟩⟩ e1
      refine cov_of [] ?_
      cbv
      all_goals (have e1_0 := congrArg (fun s => s.2.1) e1; dsimp only at e1_0; subst e1_0; cases hC; subst he_Int; (first | (simp; done) | (simp <;> first | rfl | omega | grind)))
    · rintro ⟨⟩ hx
      have hx := Option.some.inj hx
      subst hx
      have hh := hq1
      cbv
      subst hr hp
      cases hh
      cases hC; subst he_Int; first | (simp; done) | (simp <;> first | rfl | omega | grind)
    · rintro ⟨n, s46, ⟨⟩⟩ N1 D1 hh hN1 hD1 hQ1
      replace hN1 := fun σ' n' a0 (h : spec_TurnBy.l2 k p0 n' a0 = some o1) => hN1 σ' (n', a0, ()) h
      replace hD1 := fun σ'  (h : some (Except.ok ()) = some o1) => hD1 σ' () h
      cases n with
      | zero => dsimp only at hh; unfold spec_TurnBy.l2 at hh; cases hh
      | succ n =>
      dsimp only at hh
      unfold spec_TurnBy.l2 at hh
      cbv
      replace hh := if_or hh
      rcases hh with ⟨b90, hh⟩ | ⟨b90, hh⟩
      · have f91 : (lt s46 (cast (len (qInt p0)))) = true := by cases hC; subst he_Int; first | exact decide_eq_true b90 | (simp; done) | (simp; omega) | (simp at b90 ⊢; omega) | (simp at b90 ⊢; exact b90)
        rw [f91]; cbv
        replace hh := req_some hh
        obtain ⟨h92, hh⟩ := hh
        replace hh := bind_some hh
        obtain ⟨e93, h94, hh⟩ := hh
        refine ⟨[.lit (.int .i64 e93)], (by cases hC; subst he_Int; exact decide_eq_false (Int.not_lt.2 (by first | exact h92 | (simp; done) | (simp; omega) | (simp at h92 ⊢; omega) | (simp at h92 ⊢; exact h92)))), (by cases hC; subst he_Int; first | exact r_Int_get h94 | simp [h94]), ?_⟩
        cbv
        replace hh := if_or hh
        rcases hh with ⟨b95, hh⟩ | ⟨b95, hh⟩
        · have f96 : (lt e93 0) = true := by cases hC; exact decide_eq_true b95
          rw [f96]; cbv
          cases hh
          have hh : some _ = some _ := hq1
          refine hQ1 _ _ ?_
          cbv
          subst hr hp
          cases hh
          cases hC; subst he_Int; first | (simp; done) | (simp <;> first | rfl | omega | grind)
        · have f96 : (lt e93 0) = false := by cases hC; exact decide_eq_false b95
          rw [f96]; cbv
          replace hh := req_some hh
          obtain ⟨h97, hh⟩ := hh
          replace hh := bind_some hh
          obtain ⟨e98, h99, hh⟩ := hh
          refine ⟨[.lit (.int .i64 e98)], (by cases hC; subst he_Int; exact decide_eq_false (Int.not_lt.2 (by first | exact h97 | (simp; done) | (simp; omega) | (simp at h97 ⊢; omega) | (simp at h97 ⊢; exact h97)))), (by cases hC; subst he_Int; first | exact r_Int_get h99 | simp [h99]), ?_⟩
          cbv
          replace hh := if_or hh
          rcases hh with ⟨b100, hh⟩ | ⟨b100, hh⟩
          · have f101 : (lt e98 5) = true := by cases hC; exact decide_eq_true b100
            rw [f101]; cbv
            replace hh := bind_some hh
            obtain ⟨o2, hl2, hq2⟩ := hh
            refine loop_go3 hC eok mixed
              (fun s : Nat × Int × Unit => match s with | (_, s112, _) => (⟨[(0, .tree (qInt p0)), (3, .lit (.int .i64 s46)), (4, .lit (.int .i64 s112))], []⟩ : St))
              (fun s : Nat × Int × Unit => spec_TurnBy.l3 k p0 s46 s.1 s.2.1 = some o2)
              (fun s => s.1) (fun _ => .exit 2)
              (fun x : Unit => match x with | _ => (⟨[(0, .tree (qInt p0)), (3, .lit (.int .i64 s46))], []⟩ : St))
              (fun x : Unit => some (.ok x) = some o2)
              (_, _, ()) hl2 ?_ ?_ ?_
            · rintro ⟨n, t0, ⟨⟩⟩ e2
              refine cov_of [] ?_
              cbv
              all_goals (have e2_0 := congrArg (fun s => s.2.1) e2; dsimp only at e2_0; subst e2_0; cases hC; subst he_Int; (first | (simp; done) | (simp <;> first | rfl | omega | grind)))
            · rintro ⟨⟩ hx
              have hx := Option.some.inj hx
              subst hx
              have hh := hq2
              cbv
              refine hN1 _ _ _ hh (Nat.lt_succ_self _) ?_
              rintro ⟨n, t0, ⟨⟩⟩ e1
              refine cov_of [] ?_
              cbv
              all_goals (have e1_0 := congrArg (fun s => s.2.1) e1; dsimp only at e1_0; subst e1_0; cases hC; subst he_Int; (first | (simp; done) | (simp <;> first | rfl | omega | grind)))
            · rintro ⟨n, s112, ⟨⟩⟩ N2 D2 hh hN2 hD2 hQ2
              replace hN2 := fun σ' n' a0 (h : spec_TurnBy.l3 k p0 s46 n' a0 = some o2) => hN2 σ' (n', a0, ()) h
              replace hD2 := fun σ'  (h : some (Except.ok ()) = some o2) => hD2 σ' () h
              cases n with
              | zero => dsimp only at hh; unfold spec_TurnBy.l3 at hh; cases hh
              | succ n =>
              dsimp only at hh
              unfold spec_TurnBy.l3 at hh
              cbv
              replace hh := if_or hh
              rcases hh with ⟨b123, hh⟩ | ⟨b123, hh⟩
              · have f124 : (lt s112 s46) = true := by cases hC; exact decide_eq_true b123
                rw [f124]; cbv
                replace hh := req_some hh
                obtain ⟨h125, hh⟩ := hh
                replace hh := bind_some hh
                obtain ⟨e126, h127, hh⟩ := hh
                refine ⟨[.lit (.int .i64 e126)], (by cases hC; subst he_Int; exact decide_eq_false (Int.not_lt.2 (by first | exact h125 | (simp; done) | (simp; omega) | (simp at h125 ⊢; omega) | (simp at h125 ⊢; exact h125)))), (by cases hC; subst he_Int; first | exact r_Int_get h127 | simp [h127]), ?_⟩
                cbv
                replace hh := req_some hh
                obtain ⟨h128, hh⟩ := hh
                replace hh := bind_some hh
                obtain ⟨e129, h130, hh⟩ := hh
                refine ⟨[.lit (.int .i64 e129)], (by cases hC; subst he_Int; exact decide_eq_false (Int.not_lt.2 (by first | exact h128 | (simp; done) | (simp; omega) | (simp at h128 ⊢; omega) | (simp at h128 ⊢; exact h128)))), (by cases hC; subst he_Int; first | exact r_Int_get h130 | simp [h130]), ?_⟩
                cbv
                replace hh := if_or hh
                rcases hh with ⟨b131, hh⟩ | ⟨b131, hh⟩
                · have f132 : (eq e126 e129) = true := by cases hC; exact beq_iff_eq.2 b131
                  rw [f132]; cbv
                  cases hh
                  have hh : some _ = some _ := hq2
                  cases hh
                  have hh : some _ = some _ := hq1
                  refine hQ2 _ _ ?_
                  refine hQ1 _ _ ?_
                  cbv
                  subst hr hp
                  cases hh
                  cases hC; subst he_Int; first | (simp; done) | (simp <;> first | rfl | omega | grind)
                · have f132 : (eq e126 e129) = false := by cases hC; exact beq_false_of_ne b131
                  rw [f132]; cbv
                  refine hN2 _ _ _ hh (Nat.lt_succ_self _) ?_
                  rintro ⟨n, t0, ⟨⟩⟩ e2
                  refine cov_of [] ?_
                  cbv
                  all_goals (have e2_0 := congrArg (fun s => s.2.1) e2; dsimp only at e2_0; subst e2_0; cases hC; subst he_Int; (first | (simp; done) | (simp <;> first | rfl | omega | grind)))
              · have f124 : (lt s112 s46) = false := by cases hC; exact decide_eq_false b123
                rw [f124]; cbv
                refine hD2 _  hh ?_
                rintro ⟨⟩ e2
                refine cov_of [] ?_
                cbv
                all_goals (cases hC; subst he_Int; (first | (simp; done) | (simp <;> first | rfl | omega | grind)))
          · have f101 : (lt e98 5) = false := by cases hC; exact decide_eq_false b100
            rw [f101]; cbv
            cases hh
            have hh : some _ = some _ := hq1
            refine hQ1 _ _ ?_
            cbv
            subst hr hp
            cases hh
            cases hC; subst he_Int; first | (simp; done) | (simp <;> first | rfl | omega | grind)
      · have f91 : (lt s46 (cast (len (qInt p0)))) = false := by cases hC; subst he_Int; first | exact decide_eq_false b90 | (simp; done) | (simp; omega) | (simp at b90 ⊢; omega) | (simp at b90 ⊢; exact b90)
        rw [f91]; cbv
        refine hD1 _  hh ?_
        rintro ⟨⟩ e1
        refine cov_of [] ?_
        cbv
        all_goals (cases hC; subst he_Int; (first | (simp; done) | (simp <;> first | rfl | omega | grind)))
  · have f2 : (eq (cast (len (qInt p0))) 5) = false := by cases hC; subst he_Int; first | exact beq_false_of_ne b1 | (simp; done) | (simp; omega) | (simp at b1 ⊢; omega) | (simp at b1 ⊢; exact b1)
    rw [f2]; cbv
    subst hr hp
    cases hh
    cases hC; subst he_Int; first | (simp; done) | (simp <;> first | rfl | omega | grind)

theorem c_spec_TurnEvs {k : Nat} {p0 : List GEv} {p1 : List Int} {r : List GEv} (hh : spec_TurnEvs.f k p0 p1 = some r) : FunW P 15 [.tree (r_GEv p0), .tree (r_Int p1)] [.hole, .hole] (.inl 3 (r_GEv r)) := by
  unfold spec_TurnEvs.f at hh
  refine fun_go2 eok mixed (ts := [(4, none)]) (rm := [.own]) (gs := [1000000, 1000001]) (pm := [.skip, .skip]) Try.func15 (by kernel_rfl) (by kernel_rfl) (by kernel_rfl) ?_
  intro Fn LW len cast toNat wrap add sub mul bin lt eq At set part app fz' rep nadd nmax ssize sext sget scat seq slt Wide Flat Ones Room r' post' hC hF hr hp
  generalize he_GEv : r_GEv = qGEv
  generalize he_Int : r_Int = qInt
  cbv
  replace hh := bind_some hh
  obtain ⟨x2, h1, hh⟩ := hh
  have f3 := c_spec_EvsOk h1
  try rw [he_GEv] at f3
  try rw [he_Int] at f3
  refine ⟨_, _, hF _ _ _ _ _ _ f3 (by cases hC; subst he_GEv he_Int; simp) rfl, ?_⟩
  cbv
  replace hh := if_or hh
  rcases hh with ⟨b4, hh⟩ | ⟨b4, hh⟩
  · have f5 : x2 = true := by exact b4
    rw [f5]; cbv
    replace hh := bind_some hh
    obtain ⟨x7, h6, hh⟩ := hh
    have f8 := c_spec_TurnBy h6
    try rw [he_GEv] at f8
    try rw [he_Int] at f8
    refine ⟨_, _, hF _ _ _ _ _ _ f8 (by cases hC; subst he_GEv he_Int; simp) rfl, ?_⟩
    cbv
    replace hh := if_or hh
    rcases hh with ⟨b9, hh⟩ | ⟨b9, hh⟩
    · have f10 : x7 = true := by exact b9
      rw [f10]; cbv
      replace hh := bind_some hh
      obtain ⟨o1, hl1, hq1⟩ := hh
      refine loop_go3 hC eok mixed
        (fun s : Nat × (List GEv) × Int × Unit => match s with | (_, s20, s21, _) => (⟨[(0, .tree (qGEv p0)), (1, .tree (qInt p1)), (5, .ref (8, 0) 1 0 (len (qGEv s20))), (6, .lit (.int .i64 s21))], [((8, 0), .arr 1 3 (qGEv s20))]⟩ : St))
        (fun s : Nat × (List GEv) × Int × Unit => spec_TurnEvs.l0 k p0 p1 s.1 s.2.1 s.2.2.1 = some o1)
        (fun s => s.1) (fun _ => .exit 0)
        (fun x : List GEv => match x with | x31 => (⟨[(5, .ref (8, 0) 1 0 (len (qGEv x31)))], [((8, 0), .arr 1 3 (qGEv x31))]⟩ : St))
        (fun x : List GEv => some (x) = some o1)
        (_, _, _, ()) hl1 ?_ ?_ ?_
      · rintro ⟨n, t0, t1, ⟨⟩⟩ e1
        refine cov_of [((8, 0), (8, 0))] ?_
        cbv
        all_goals (have e1_0 := congrArg (fun s => s.2.1) e1; dsimp only at e1_0; subst e1_0; have e1_1 := congrArg (fun s => s.2.2.1) e1; dsimp only at e1_1; subst e1_1; cases hC; subst he_GEv he_Int; (first | (simp; done) | (simp <;> first | rfl | omega | grind)))
      · rintro x31 hx
        have hx := Option.some.inj hx
        subst hx
        have hh := hq1
        cbv
        subst hr hp
        cases hh
        cases hC; subst he_GEv he_Int; first | (simp; done) | (simp <;> first | rfl | omega | grind)
      · rintro ⟨n, s20, s21, ⟨⟩⟩ N1 D1 hh hN1 hD1 hQ1
        replace hN1 := fun σ' n' a0 a1 (h : spec_TurnEvs.l0 k p0 p1 n' a0 a1 = some o1) => hN1 σ' (n', a0, a1, ()) h
        replace hD1 := fun σ' (a0 : List GEv) (h : some (a0) = some o1) => hD1 σ' a0 h
        cases n with
        | zero => dsimp only at hh; unfold spec_TurnEvs.l0 at hh; cases hh
        | succ n =>
        dsimp only at hh
        unfold spec_TurnEvs.l0 at hh
        cbv
        replace hh := if_or hh
        rcases hh with ⟨b32, hh⟩ | ⟨b32, hh⟩
        · have f33 : (lt s21 (cast (len (qGEv p0)))) = true := by cases hC; subst he_GEv he_Int; first | exact decide_eq_true b32 | (simp; done) | (simp; omega) | (simp at b32 ⊢; omega) | (simp at b32 ⊢; exact b32)
          rw [f33]; cbv
          replace hh := req_some hh
          obtain ⟨h34, hh⟩ := hh
          replace hh := bind_some hh
          obtain ⟨⟨e35_Sym, e35_At, e35_Val⟩, h36, hh⟩ := hh
          refine ⟨[.lit (.int .i64 e35_Sym), .lit (.int .i64 e35_At), .lit (.int .i64 e35_Val)], (by cases hC; subst he_GEv he_Int; exact decide_eq_false (Int.not_lt.2 (by first | exact h34 | (simp; done) | (simp; omega) | (simp at h34 ⊢; omega) | (simp at h34 ⊢; exact h34)))), (by cases hC; subst he_GEv he_Int; first | exact r_GEv_get h36 | simp [h36]), ?_⟩
          cbv
          replace hh := req_some hh
          obtain ⟨h37, hh⟩ := hh
          try dsimp only at h37
          replace hh := bind_some hh
          obtain ⟨e38, h39, hh⟩ := hh
          refine ⟨[.lit (.int .i64 e38)], (by cases hC; subst he_GEv he_Int; exact decide_eq_false (Int.not_lt.2 (by first | exact h37 | (simp; done) | (simp; omega) | (simp at h37 ⊢; omega) | (simp at h37 ⊢; exact h37)))), (by cases hC; subst he_GEv he_Int; first | exact r_Int_get h39 | simp [h39]), ?_⟩
          cbv
          replace hh := req_some hh
          obtain ⟨h40, hh⟩ := hh
          refine ⟨⟨(by cases hC; subst he_GEv he_Int; simp), (by cases hC; subst he_GEv he_Int; first | exact r_GEv_ones _ | (simp [ocell]; done))⟩, ?_⟩
          refine ⟨⟨(by cases hC; subst he_GEv he_Int; first | (simp; done) | (simp; first | omega | (simp only [natc] at *; omega))), by cases hC; subst he_GEv he_Int; first | exact h40 | (simp; done) | (simp; omega) | (simp at h40 ⊢; omega) | (simp at h40 ⊢; exact h40)⟩, ?_⟩
          refine hN1 _ _ _ _ hh (Nat.lt_succ_self _) ?_
          rintro ⟨n, t0, t1, ⟨⟩⟩ e1
          refine cov_of [((8, 0), (37, 0))] ?_
          cbv
          all_goals (have e1_0 := congrArg (fun s => s.2.1) e1; dsimp only at e1_0; subst e1_0; have e1_1 := congrArg (fun s => s.2.2.1) e1; dsimp only at e1_1; subst e1_1; cases hC; subst he_GEv he_Int; (first | (simp; done) | (simp <;> first | rfl | omega | grind)))
        · have f33 : (lt s21 (cast (len (qGEv p0)))) = false := by cases hC; subst he_GEv he_Int; first | exact decide_eq_false b32 | (simp; done) | (simp; omega) | (simp at b32 ⊢; omega) | (simp at b32 ⊢; exact b32)
          rw [f33]; cbv
          refine hD1 _ _ hh ?_
          rintro t0 e1
          refine cov_of [((8, 0), (8, 0))] ?_
          cbv
          all_goals (subst e1; cases hC; subst he_GEv he_Int; (first | (simp; done) | (simp <;> first | rfl | omega | grind)))
    · have f10 : x7 = false := by exact Bool.eq_false_iff.2 b9
      rw [f10]; cbv
      subst hr hp
      cases hh
      cases hC; subst he_GEv he_Int; first | (simp; done) | (simp <;> first | rfl | omega | grind)
  · have f5 : x2 = false := by exact Bool.eq_false_iff.2 b4
    rw [f5]; cbv
    subst hr hp
    cases hh
    cases hC; subst he_GEv he_Int; first | (simp; done) | (simp <;> first | rfl | omega | grind)
theorem c_spec_TurnEvs_L0_1 {k : Nat} {p0 : List GEv} {p1 : List Int} {r : List GEv} (hh : spec_TurnEvs.f k p0 p1 = some r) : FunW P 15 [.inl 3 (r_GEv p0), .inl 1 (r_Int p1)] [.inl 3 (r_GEv p0), .inl 1 (r_Int p1)] (.inl 3 (r_GEv r)) :=
  (c_spec_TurnEvs hh).lend (r_GEv_ownd _) (.lend (congrArg A.tree (r_GEv_fz _).symm) (.lend (congrArg A.tree (r_Int_fz _).symm) .nil))

theorem c_slices_Index {k : Nat} {p0 : List Int} {p1 : Int} {r : Int} (hh : slices_Index.f k p0 p1 = some r) : FunW P 89 [.tree (r_Int p0), .lit (.int .i64 p1)] [.hole, .hole] (.lit (.int .i64 r)) := by
  unfold slices_Index.f at hh
  refine fun_go2 eok mixed (ts := [(4, none)]) (rm := [.own]) (gs := [1000000, 1000001]) (pm := [.skip, .skip]) Try.func89 (by kernel_rfl) (by kernel_rfl) (by kernel_rfl) ?_
  intro Fn LW len cast toNat wrap add sub mul bin lt eq At set part app fz' rep nadd nmax ssize sext sget scat seq slt Wide Flat Ones Room r' post' hC hF hr hp
  generalize he_Int : r_Int = qInt
  cbv
  replace hh := bind_some hh
  obtain ⟨o1, hl1, hq1⟩ := hh
  refine loop_go3 hC eok mixed
    (fun s : Nat × Int × Unit => match s with | (_, s8, _) => (⟨[(0, .tree (qInt p0)), (1, .lit (.int .i64 p1)), (7, .lit (.int .i64 (cast (len (qInt p0))))), (8, .lit (.int .i64 s8))], []⟩ : St))
    (fun s : Nat × Int × Unit => slices_Index.l0 k p0 p1 s.1 s.2.1 = some o1)
    (fun s => s.1) (fun _ => .exit 0)
    (fun x : Unit => match x with | _ => (⟨[], []⟩ : St))
    (fun x : Unit => some (.ok x) = some o1)
    (_, _, ()) hl1 ?_ ?_ ?_
  · rintro ⟨n, t0, ⟨⟩⟩ e1
    refine cov_of [] ?_
    cbv
    all_goals (have e1_0 := congrArg (fun s => s.2.1) e1; dsimp only at e1_0; subst e1_0; cases hC; subst he_Int; (first | (simp; done) | (simp <;> first | rfl | omega | grind)))
  · rintro ⟨⟩ hx
    have hx := Option.some.inj hx
    subst hx
    have hh := hq1
    cbv
    subst hr hp
    cases hh
    cases hC; subst he_Int; first | (simp; done) | (simp <;> first | rfl | omega | grind)
  · rintro ⟨n, s8, ⟨⟩⟩ N1 D1 hh hN1 hD1 hQ1
    replace hN1 := fun σ' n' a0 (h : slices_Index.l0 k p0 p1 n' a0 = some o1) => hN1 σ' (n', a0, ()) h
    replace hD1 := fun σ'  (h : some (Except.ok ()) = some o1) => hD1 σ' () h
    cases n with
    | zero => dsimp only at hh; unfold slices_Index.l0 at hh; cases hh
    | succ n =>
    dsimp only at hh
    unfold slices_Index.l0 at hh
    cbv
    replace hh := if_or hh
    rcases hh with ⟨b16, hh⟩ | ⟨b16, hh⟩
    · have f17 : (lt s8 (cast (len (qInt p0)))) = true := by cases hC; subst he_Int; first | exact decide_eq_true b16 | (simp; done) | (simp; omega) | (simp at b16 ⊢; omega) | (simp at b16 ⊢; exact b16)
      rw [f17]; cbv
      replace hh := req_some hh
      obtain ⟨h18, hh⟩ := hh
      replace hh := bind_some hh
      obtain ⟨e19, h20, hh⟩ := hh
      refine ⟨[.lit (.int .i64 e19)], (by cases hC; subst he_Int; exact decide_eq_false (Int.not_lt.2 (by first | exact h18 | (simp; done) | (simp; omega) | (simp at h18 ⊢; omega) | (simp at h18 ⊢; exact h18)))), (by cases hC; subst he_Int; first | exact r_Int_get h20 | simp [h20]), ?_⟩
      cbv
      replace hh := if_or hh
      rcases hh with ⟨b21, hh⟩ | ⟨b21, hh⟩
      · have f22 : (eq p1 e19) = true := by cases hC; exact beq_iff_eq.2 b21
        rw [f22]; cbv
        cases hh
        have hh : some _ = some _ := hq1
        refine hQ1 _ _ ?_
        cbv
        subst hr hp
        cases hh
        cases hC; subst he_Int; first | (simp; done) | (simp <;> first | rfl | omega | grind)
      · have f22 : (eq p1 e19) = false := by cases hC; exact beq_false_of_ne b21
        rw [f22]; cbv
        refine hN1 _ _ _ hh (Nat.lt_succ_self _) ?_
        rintro ⟨n, t0, ⟨⟩⟩ e1
        refine cov_of [] ?_
        cbv
        all_goals (have e1_0 := congrArg (fun s => s.2.1) e1; dsimp only at e1_0; subst e1_0; cases hC; subst he_Int; (first | (simp; done) | (simp <;> first | rfl | omega | grind)))
    · have f17 : (lt s8 (cast (len (qInt p0)))) = false := by cases hC; subst he_Int; first | exact decide_eq_false b16 | (simp; done) | (simp; omega) | (simp at b16 ⊢; omega) | (simp at b16 ⊢; exact b16)
      rw [f17]; cbv
      refine hD1 _  hh ?_
      rintro ⟨⟩ e1
      refine cov_of [] ?_
      cbv
      all_goals (cases hC; subst he_Int; (first | (simp; done) | (simp <;> first | rfl | omega | grind)))

theorem c_slices_Contains {k : Nat} {p0 : List Int} {p1 : Int} {r : Bool} (hh : slices_Contains.f k p0 p1 = some r) : FunW P 75 [.tree (r_Int p0), .lit (.int .i64 p1)] [.hole, .hole] (.lit (.bool r)) := by
  unfold slices_Contains.f at hh
  refine fun_go2 eok mixed (ts := [(4, none)]) (rm := [.own]) (gs := [1000000, 1000001]) (pm := [.skip, .skip]) Try.func75 (by kernel_rfl) (by kernel_rfl) (by kernel_rfl) ?_
  intro Fn LW len cast toNat wrap add sub mul bin lt eq At set part app fz' rep nadd nmax ssize sext sget scat seq slt Wide Flat Ones Room r' post' hC hF hr hp
  generalize he_Int : r_Int = qInt
  cbv
  replace hh := bind_some hh
  obtain ⟨x2, h1, hh⟩ := hh
  have f3 := c_slices_Index h1
  try rw [he_Int] at f3
  refine ⟨_, _, hF _ _ _ _ _ _ f3 (by cases hC; subst he_Int; simp) rfl, ?_⟩
  cbv
  subst hr hp
  cases hh
  cases hC; subst he_Int; first | (simp; done) | (simp <;> first | rfl | omega | grind)

theorem c_impl_TurnBy {k : Nat} {p0 : List Int} {r : Bool} (hh : impl_TurnBy.f k p0 = some r) : FunW P 47 [.tree (r_Int p0)] [.hole] (.lit (.bool r)) := by
  unfold impl_TurnBy.f at hh
  refine fun_go2 eok mixed (ts := [(2, none)]) (rm := [.own]) (gs := [1000000]) (pm := [.skip]) Try.func47 (by kernel_rfl) (by kernel_rfl) (by kernel_rfl) ?_
  intro Fn LW len cast toNat wrap add sub mul bin lt eq At set part app fz' rep nadd nmax ssize sext sget scat seq slt Wide Flat Ones Room r' post' hC hF hr hp
  generalize he_Int : r_Int = qInt
  cbv
  replace hh := bind_some hh
  obtain ⟨o1, hl1, hq1⟩ := hh
  refine loop_go3 hC eok mixed
    (fun s : Nat × Int × Unit => match s with | (_, s19, _) => (⟨[(0, .tree (qInt p0)), (5, .tree (qInt p0)), (6, .lit (.int .i64 (cast (len (qInt p0))))), (7, .lit (.int .i64 s19))], []⟩ : St))
    (fun s : Nat × Int × Unit => impl_TurnBy.l0 k p0 s.1 s.2.1 = some o1)
    (fun s => s.1) (fun _ => .exit 0)
    (fun x : Unit => match x with | _ => (⟨[(0, .tree (qInt p0))], []⟩ : St))
    (fun x : Unit => some (.ok x) = some o1)
    (_, _, ()) hl1 ?_ ?_ ?_
  · rintro ⟨n, t0, ⟨⟩⟩ e1
    refine cov_of [] ?_
    cbv
    all_goals (have e1_0 := congrArg (fun s => s.2.1) e1; dsimp only at e1_0; subst e1_0; cases hC; subst he_Int; (first | (simp; done) | (simp <;> first | rfl | omega | grind)))
  · rintro ⟨⟩ hx
    have hx := Option.some.inj hx
    subst hx
    have hh := hq1
    cbv
    subst hr hp
    cases hh
    cases hC; subst he_Int; first | (simp; done) | (simp <;> first | rfl | omega | grind)
  · rintro ⟨n, s19, ⟨⟩⟩ N1 D1 hh hN1 hD1 hQ1
    replace hN1 := fun σ' n' a0 (h : impl_TurnBy.l0 k p0 n' a0 = some o1) => hN1 σ' (n', a0, ()) h
    replace hD1 := fun σ'  (h : some (Except.ok ()) = some o1) => hD1 σ' () h
    cases n with
    | zero => dsimp only at hh; unfold impl_TurnBy.l0 at hh; cases hh
    | succ n =>
    dsimp only at hh
    unfold impl_TurnBy.l0 at hh
    cbv
    replace hh := if_or hh
    rcases hh with ⟨b38, hh⟩ | ⟨b38, hh⟩
    · have f39 : (lt s19 (cast (len (qInt p0)))) = true := by cases hC; subst he_Int; first | exact decide_eq_true b38 | (simp; done) | (simp; omega) | (simp at b38 ⊢; omega) | (simp at b38 ⊢; exact b38)
      rw [f39]; cbv
      replace hh := req_some hh
      obtain ⟨h40, hh⟩ := hh
      replace hh := bind_some hh
      obtain ⟨e41, h42, hh⟩ := hh
      refine ⟨[.lit (.int .i64 e41)], (by cases hC; subst he_Int; exact decide_eq_false (Int.not_lt.2 (by first | exact h40 | (simp; done) | (simp; omega) | (simp at h40 ⊢; omega) | (simp at h40 ⊢; exact h40)))), (by cases hC; subst he_Int; first | exact r_Int_get h42 | simp [h42]), ?_⟩
      cbv
      replace hh := bind_some hh
      obtain ⟨x44, h43, hh⟩ := hh
      have f45 := c_impl_isSym h43
      try rw [he_Int] at f45
      refine ⟨_, _, hF _ _ _ _ _ _ f45 (by cases hC; subst he_Int; simp) rfl, ?_⟩
      cbv
      replace hh := if_or hh
      rcases hh with ⟨b46, hh⟩ | ⟨b46, hh⟩
      · have f47 : x44 = true := by exact b46
        rw [f47]; cbv
        replace hh := req_some hh
        obtain ⟨h48, hh⟩ := hh
        replace hh := req_some hh
        obtain ⟨h49, hh⟩ := hh
        replace hh := req_some hh
        obtain ⟨h50, hh⟩ := hh
        refine ⟨⟨(by cases hC; subst he_Int; exact decide_eq_false (Int.not_lt.2 h48)), (by cases hC; subst he_Int; exact decide_eq_false (Int.not_lt.2 (by first | exact h49 | (simp; done) | (simp; omega) | (simp at h49 ⊢; omega) | (simp at h49 ⊢; exact h49)))), (by cases hC; subst he_Int; exact decide_eq_false (Int.not_lt.2 (by first | exact h50 | (simp; done) | (simp; omega) | (simp at h50 ⊢; omega) | (simp at h50 ⊢; exact h50)))), (by cases hC; subst he_Int; first | exact r_Int_wide _ | (simp; done))⟩, ?_⟩
        replace hh := bind_some hh
        obtain ⟨x52, h51, hh⟩ := hh
        have f53 := c_slices_Contains h51
        try rw [he_Int] at f53
        refine ⟨_, _, hF _ _ _ _ _ _ f53 (by cases hC; subst he_Int; simp) rfl, ?_⟩
        cbv
        replace hh := if_or hh
        rcases hh with ⟨b54, hh⟩ | ⟨b54, hh⟩
        · have f55 : x52 = true := by exact b54
          rw [f55]; cbv
          cases hh
          have hh : some _ = some _ := hq1
          refine hQ1 _ _ ?_
          cbv
          subst hr hp
          cases hh
          cases hC; subst he_Int; first | (simp; done) | (simp <;> first | rfl | omega | grind)
        · have f55 : x52 = false := by exact Bool.eq_false_iff.2 b54
          rw [f55]; cbv
          refine hN1 _ _ _ hh (Nat.lt_succ_self _) ?_
          rintro ⟨n, t0, ⟨⟩⟩ e1
          refine cov_of [] ?_
          cbv
          all_goals (have e1_0 := congrArg (fun s => s.2.1) e1; dsimp only at e1_0; subst e1_0; cases hC; subst he_Int; (first | (simp; done) | (simp <;> first | rfl | omega | grind)))
      · have f47 : x44 = false := by exact Bool.eq_false_iff.2 b46
        rw [f47]; cbv
        cases hh
        have hh : some _ = some _ := hq1
        refine hQ1 _ _ ?_
        cbv
        subst hr hp
        cases hh
        cases hC; subst he_Int; first | (simp; done) | (simp <;> first | rfl | omega | grind)
    · have f39 : (lt s19 (cast (len (qInt p0)))) = false := by cases hC; subst he_Int; first | exact decide_eq_false b38 | (simp; done) | (simp; omega) | (simp at b38 ⊢; omega) | (simp at b38 ⊢; exact b38)
      rw [f39]; cbv
      refine hD1 _  hh ?_
      rintro ⟨⟩ e1
      refine cov_of [] ?_
      cbv
      all_goals (cases hC; subst he_Int; (first | (simp; done) | (simp <;> first | rfl | omega | grind)))

theorem c_impl_TurnEvs {k : Nat} {p0 : List GEv} {p1 : List Int} {r : List GEv} (hh : impl_TurnEvs.f k p0 p1 = some r) : FunW P 17 [.tree (r_GEv p0), .tree (r_Int p1)] [.hole, .hole] (.inl 3 (r_GEv r)) := by
  unfold impl_TurnEvs.f at hh
  refine fun_go2 eok mixed (ts := [(4, none)]) (rm := [.own]) (gs := [1000000, 1000001]) (pm := [.skip, .skip]) Try.func17 (by kernel_rfl) (by kernel_rfl) (by kernel_rfl) ?_
  intro Fn LW len cast toNat wrap add sub mul bin lt eq At set part app fz' rep nadd nmax ssize sext sget scat seq slt Wide Flat Ones Room r' post' hC hF hr hp
  generalize he_GEv : r_GEv = qGEv
  generalize he_Int : r_Int = qInt
  cbv
  replace hh := bind_some hh
  obtain ⟨x2, h1, hh⟩ := hh
  have f3 := c_impl_EvsOk h1
  try rw [he_GEv] at f3
  try rw [he_Int] at f3
  refine ⟨_, _, hF _ _ _ _ _ _ f3 (by cases hC; subst he_GEv he_Int; simp) rfl, ?_⟩
  cbv
  replace hh := if_or hh
  rcases hh with ⟨b4, hh⟩ | ⟨b4, hh⟩
  · have f5 : x2 = true := by exact b4
    rw [f5]; cbv
    replace hh := bind_some hh
    obtain ⟨x7, h6, hh⟩ := hh
    have f8 := c_impl_TurnBy h6
    try rw [he_GEv] at f8
    try rw [he_Int] at f8
    refine ⟨_, _, hF _ _ _ _ _ _ f8 (by cases hC; subst he_GEv he_Int; simp) rfl, ?_⟩
    cbv
    replace hh := if_or hh
    rcases hh with ⟨b9, hh⟩ | ⟨b9, hh⟩
    · have f10 : x7 = true := by exact b9
      rw [f10]; cbv
      replace hh := bind_some hh
      obtain ⟨x12, h11, hh⟩ := hh
      have f13 := c_impl_cloneEvs h11
      try rw [he_GEv] at f13
      try rw [he_Int] at f13
      refine ⟨_, _, hF _ _ _ _ _ _ f13 (by cases hC; subst he_GEv he_Int; simp) rfl, ?_⟩
      cbv
      replace hh := bind_some hh
      obtain ⟨o1, hl1, hq1⟩ := hh
      refine loop_go3 hC eok mixed
        (fun s : Nat × (List GEv) × Int × Unit => match s with | (_, s25, s26, _) => (⟨[(1, .tree (qInt p1)), (5, .ref (17, 0) 1 0 (len (qGEv s25))), (18, .ref (17, 0) 1 0 (len (qGEv s25))), (19, .lit (.int .i64 (cast (len (qGEv x12))))), (20, .lit (.int .i64 s26))], [((17, 0), .arr 1 3 (qGEv s25))]⟩ : St))
        (fun s : Nat × (List GEv) × Int × Unit => impl_TurnEvs.l0 k p1 x12 s.1 s.2.1 s.2.2.1 = some o1)
        (fun s => s.1) (fun _ => .exit 0)
        (fun x : List GEv => match x with | x38 => (⟨[(5, .ref (17, 0) 1 0 (len (qGEv x38)))], [((17, 0), .arr 1 3 (qGEv x38))]⟩ : St))
        (fun x : List GEv => some (x) = some o1)
        (_, _, _, ()) hl1 ?_ ?_ ?_
      · rintro ⟨n, t0, t1, ⟨⟩⟩ e1
        refine cov_of [((17, 0), (17, 0))] ?_
        cbv
        all_goals (have e1_0 := congrArg (fun s => s.2.1) e1; dsimp only at e1_0; subst e1_0; have e1_1 := congrArg (fun s => s.2.2.1) e1; dsimp only at e1_1; subst e1_1; cases hC; subst he_GEv he_Int; (first | (simp; done) | (simp <;> first | rfl | omega | grind)))
      · rintro x38 hx
        have hx := Option.some.inj hx
        subst hx
        have hh := hq1
        cbv
        subst hr hp
        cases hh
        cases hC; subst he_GEv he_Int; first | (simp; done) | (simp <;> first | rfl | omega | grind)
      · rintro ⟨n, s25, s26, ⟨⟩⟩ N1 D1 hh hN1 hD1 hQ1
        replace hN1 := fun σ' n' a0 a1 (h : impl_TurnEvs.l0 k p1 x12 n' a0 a1 = some o1) => hN1 σ' (n', a0, a1, ()) h
        replace hD1 := fun σ' (a0 : List GEv) (h : some (a0) = some o1) => hD1 σ' a0 h
        cases n with
        | zero => dsimp only at hh; unfold impl_TurnEvs.l0 at hh; cases hh
        | succ n =>
        dsimp only at hh
        unfold impl_TurnEvs.l0 at hh
        cbv
        replace hh := if_or hh
        rcases hh with ⟨b39, hh⟩ | ⟨b39, hh⟩
        · have f40 : (lt s26 (cast (len (qGEv x12)))) = true := by cases hC; subst he_GEv he_Int; first | exact decide_eq_true b39 | (simp; done) | (simp; omega) | (simp at b39 ⊢; omega) | (simp at b39 ⊢; exact b39)
          rw [f40]; cbv
          replace hh := req_some hh
          obtain ⟨h41, hh⟩ := hh
          replace hh := req_some hh
          obtain ⟨h42, hh⟩ := hh
          replace h42 : s26 < (s25.length : Nat) := h42
          refine ⟨(by cases hC; subst he_GEv he_Int; exact decide_eq_false (Int.not_lt.2 (by first | exact h41 | (simp; done) | (simp; omega) | (simp at h41 ⊢; omega) | (simp at h41 ⊢; exact h41)))), (by cases hC; subst he_GEv he_Int; exact decide_eq_true (by first | exact h42 | (simp; done) | (simp; omega) | (simp at h42 ⊢; omega) | (simp at h42 ⊢; exact h42))), ?_⟩
          replace hh := bind_some hh
          obtain ⟨⟨e43_Sym, e43_At, e43_Val⟩, h44, hh⟩ := hh
          refine ⟨[.lit (.int .i64 e43_Sym), .lit (.int .i64 e43_At), .lit (.int .i64 e43_Val)], (by cases hC; subst he_GEv he_Int; first | exact r_GEv_get h44 | (simp [h44]; done) | (have q := r_GEv_get h44; rw [r_GEv_map] at q; simpa [List.map] using q)), ?_⟩
          cbv
          replace hh := req_some hh
          obtain ⟨h45, hh⟩ := hh
          try dsimp only at h45
          replace hh := bind_some hh
          obtain ⟨e46, h47, hh⟩ := hh
          refine ⟨[.lit (.int .i64 e46)], (by cases hC; subst he_GEv he_Int; exact decide_eq_false (Int.not_lt.2 (by first | exact h45 | (simp; done) | (simp; omega) | (simp at h45 ⊢; omega) | (simp at h45 ⊢; exact h45)))), (by cases hC; subst he_GEv he_Int; first | exact r_Int_get h47 | simp [h47]), ?_⟩
          cbv
          replace hh := req_some hh
          obtain ⟨h48, hh⟩ := hh
          replace hh := req_some hh
          obtain ⟨h49, hh⟩ := hh
          replace h49 : s26 < (s25.length : Nat) := h49
          refine ⟨(by cases hC; subst he_GEv he_Int; exact decide_eq_false (Int.not_lt.2 (by first | exact h48 | (simp; done) | (simp; omega) | (simp at h48 ⊢; omega) | (simp at h48 ⊢; exact h48)))), (by cases hC; subst he_GEv he_Int; exact decide_eq_true (by first | exact h49 | (simp; done) | (simp; omega) | (simp at h49 ⊢; omega) | (simp at h49 ⊢; exact h49))), ?_⟩
          refine ⟨[.lit (.int .i64 e43_Sym), .lit (.int .i64 e43_At), .lit (.int .i64 e43_Val)], (by cases hC; subst he_GEv he_Int; first | exact r_GEv_get h44 | (simp [h44]; done) | (have q := r_GEv_get h44; rw [r_GEv_map] at q; simpa [List.map] using q)), ?_⟩
          cbv
          refine hN1 _ _ _ _ hh (Nat.lt_succ_self _) ?_
          rintro ⟨n, t0, t1, ⟨⟩⟩ e1
          refine cov_of [((17, 0), (17, 0))] ?_
          cbv
          all_goals (have e1_0 := congrArg (fun s => s.2.1) e1; dsimp only at e1_0; subst e1_0; have e1_1 := congrArg (fun s => s.2.2.1) e1; dsimp only at e1_1; subst e1_1; cases hC; subst he_GEv he_Int; (first | (simp; done) | (simp <;> first | rfl | omega | grind)))
        · have f40 : (lt s26 (cast (len (qGEv x12)))) = false := by cases hC; subst he_GEv he_Int; first | exact decide_eq_false b39 | (simp; done) | (simp; omega) | (simp at b39 ⊢; omega) | (simp at b39 ⊢; exact b39)
          rw [f40]; cbv
          refine hD1 _ _ hh ?_
          rintro t0 e1
          refine cov_of [((17, 0), (17, 0))] ?_
          cbv
          all_goals (subst e1; cases hC; subst he_GEv he_Int; (first | (simp; done) | (simp <;> first | rfl | omega | grind)))
    · have f10 : x7 = false := by exact Bool.eq_false_iff.2 b9
      rw [f10]; cbv
      refine ⟨3, ?_⟩
      cbv
      subst hr hp
      cases hh
      cases hC; subst he_GEv he_Int; first | (simp; done) | (simp <;> first | rfl | omega | grind)
  · have f5 : x2 = false := by exact Bool.eq_false_iff.2 b4
    rw [f5]; cbv
    refine ⟨3, ?_⟩
    cbv
    subst hr hp
    cases hh
    cases hC; subst he_GEv he_Int; first | (simp; done) | (simp <;> first | rfl | omega | grind)
theorem c_impl_TurnEvs_L0_1 {k : Nat} {p0 : List GEv} {p1 : List Int} {r : List GEv} (hh : impl_TurnEvs.f k p0 p1 = some r) : FunW P 17 [.inl 3 (r_GEv p0), .inl 1 (r_Int p1)] [.inl 3 (r_GEv p0), .inl 1 (r_Int p1)] (.inl 3 (r_GEv r)) :=
  (c_impl_TurnEvs hh).lend (r_GEv_ownd _) (.lend (congrArg A.tree (r_GEv_fz _).symm) (.lend (congrArg A.tree (r_Int_fz _).symm) .nil))

theorem c_laws_eqIntS {k : Nat} {p0 : List Int} {p1 : List Int} {r : Bool} (hh : laws_eqIntS.f k p0 p1 = some r) : FunW P 18 [.tree (r_Int p0), .tree (r_Int p1)] [.hole, .hole] (.lit (.bool r)) := by
  unfold laws_eqIntS.f at hh
  refine fun_go2 eok mixed (ts := [(4, none)]) (rm := [.own]) (gs := [1000000, 1000001]) (pm := [.skip, .skip]) Try.func18 (by kernel_rfl) (by kernel_rfl) (by kernel_rfl) ?_
  intro Fn LW len cast toNat wrap add sub mul bin lt eq At set part app fz' rep nadd nmax ssize sext sget scat seq slt Wide Flat Ones Room r' post' hC hF hr hp
  generalize he_Int : r_Int = qInt
  cbv
  replace hh := if_or hh
  rcases hh with ⟨b1, hh⟩ | ⟨b1, hh⟩
  · have f2 : (eq (cast (len (qInt p0))) (cast (len (qInt p1)))) = true := by cases hC; subst he_Int; first | exact beq_iff_eq.2 b1 | (simp; done) | (simp; omega) | (simp at b1 ⊢; omega) | (simp at b1 ⊢; exact b1)
    rw [f2]; cbv
    replace hh := bind_some hh
    obtain ⟨o1, hl1, hq1⟩ := hh
    refine loop_go3 hC eok mixed
      (fun s : Nat × Int × Unit => match s with | (_, s13, _) => (⟨[(0, .tree (qInt p0)), (1, .tree (qInt p1)), (5, .lit (.int .i64 s13))], []⟩ : St))
      (fun s : Nat × Int × Unit => laws_eqIntS.l0 k p0 p1 s.1 s.2.1 = some o1)
      (fun s => s.1) (fun _ => .exit 0)
      (fun x : Unit => match x with | _ => (⟨[], []⟩ : St))
      (fun x : Unit => some (.ok x) = some o1)
      (_, _, ()) hl1 ?_ ?_ ?_
    · rintro ⟨n, t0, ⟨⟩⟩ e1
      refine cov_of [] ?_
      cbv
      all_goals (have e1_0 := congrArg (fun s => s.2.1) e1; dsimp only at e1_0; subst e1_0; cases hC; subst he_Int; (first | (simp; done) | (simp <;> first | rfl | omega | grind)))
    · rintro ⟨⟩ hx
      have hx := Option.some.inj hx
      subst hx
      have hh := hq1
      cbv
      subst hr hp
      cases hh
      cases hC; subst he_Int; first | (simp; done) | (simp <;> first | rfl | omega | grind)
    · rintro ⟨n, s13, ⟨⟩⟩ N1 D1 hh hN1 hD1 hQ1
      replace hN1 := fun σ' n' a0 (h : laws_eqIntS.l0 k p0 p1 n' a0 = some o1) => hN1 σ' (n', a0, ()) h
      replace hD1 := fun σ'  (h : some (Except.ok ()) = some o1) => hD1 σ' () h
      cases n with
      | zero => dsimp only at hh; unfold laws_eqIntS.l0 at hh; cases hh
      | succ n =>
      dsimp only at hh
      unfold laws_eqIntS.l0 at hh
      cbv
      replace hh := if_or hh
      rcases hh with ⟨b24, hh⟩ | ⟨b24, hh⟩
      · have f25 : (lt s13 (cast (len (qInt p0)))) = true := by cases hC; subst he_Int; first | exact decide_eq_true b24 | (simp; done) | (simp; omega) | (simp at b24 ⊢; omega) | (simp at b24 ⊢; exact b24)
        rw [f25]; cbv
        replace hh := req_some hh
        obtain ⟨h26, hh⟩ := hh
        replace hh := bind_some hh
        obtain ⟨e27, h28, hh⟩ := hh
        refine ⟨[.lit (.int .i64 e27)], (by cases hC; subst he_Int; exact decide_eq_false (Int.not_lt.2 (by first | exact h26 | (simp; done) | (simp; omega) | (simp at h26 ⊢; omega) | (simp at h26 ⊢; exact h26)))), (by cases hC; subst he_Int; first | exact r_Int_get h28 | simp [h28]), ?_⟩
        cbv
        replace hh := req_some hh
        obtain ⟨h29, hh⟩ := hh
        replace hh := bind_some hh
        obtain ⟨e30, h31, hh⟩ := hh
        refine ⟨[.lit (.int .i64 e30)], (by cases hC; subst he_Int; exact decide_eq_false (Int.not_lt.2 (by first | exact h29 | (simp; done) | (simp; omega) | (simp at h29 ⊢; omega) | (simp at h29 ⊢; exact h29)))), (by cases hC; subst he_Int; first | exact r_Int_get h31 | simp [h31]), ?_⟩
        cbv
        replace hh := if_or hh
        rcases hh with ⟨b32, hh⟩ | ⟨b32, hh⟩
        · have f33 : (eq e27 e30) = true := by cases hC; exact beq_iff_eq.2 b32
          rw [f33]; cbv
          refine hN1 _ _ _ hh (Nat.lt_succ_self _) ?_
          rintro ⟨n, t0, ⟨⟩⟩ e1
          refine cov_of [] ?_
          cbv
          all_goals (have e1_0 := congrArg (fun s => s.2.1) e1; dsimp only at e1_0; subst e1_0; cases hC; subst he_Int; (first | (simp; done) | (simp <;> first | rfl | omega | grind)))
        · have f33 : (eq e27 e30) = false := by cases hC; exact beq_false_of_ne b32
          rw [f33]; cbv
          cases hh
          have hh : some _ = some _ := hq1
          refine hQ1 _ _ ?_
          cbv
          subst hr hp
          cases hh
          cases hC; subst he_Int; first | (simp; done) | (simp <;> first | rfl | omega | grind)
      · have f25 : (lt s13 (cast (len (qInt p0)))) = false := by cases hC; subst he_Int; first | exact decide_eq_false b24 | (simp; done) | (simp; omega) | (simp at b24 ⊢; omega) | (simp at b24 ⊢; exact b24)
        rw [f25]; cbv
        refine hD1 _  hh ?_
        rintro ⟨⟩ e1
        refine cov_of [] ?_
        cbv
        all_goals (cases hC; subst he_Int; (first | (simp; done) | (simp <;> first | rfl | omega | grind)))
  · have f2 : (eq (cast (len (qInt p0))) (cast (len (qInt p1)))) = false := by cases hC; subst he_Int; first | exact beq_false_of_ne b1 | (simp; done) | (simp; omega) | (simp at b1 ⊢; omega) | (simp at b1 ⊢; exact b1)
    rw [f2]; cbv
    subst hr hp
    cases hh
    cases hC; subst he_Int; first | (simp; done) | (simp <;> first | rfl | omega | grind)
theorem c_laws_eqIntS_L0_1 {k : Nat} {p0 : List Int} {p1 : List Int} {r : Bool} (hh : laws_eqIntS.f k p0 p1 = some r) : FunW P 18 [.inl 1 (r_Int p0), .inl 1 (r_Int p1)] [.inl 1 (r_Int p0), .inl 1 (r_Int p1)] (.lit (.bool r)) :=
  (c_laws_eqIntS hh).lend (rfl) (.lend (congrArg A.tree (r_Int_fz _).symm) (.lend (congrArg A.tree (r_Int_fz _).symm) .nil))

theorem c_laws_markIntS {k : Nat} {p0 : List Int} {p1 : Int} {r : Int × (List Int)} (hh : laws_markIntS.f k p0 p1 = some r) : FunW P 19 [.inl 1 (r_Int p0), .lit (.int .i64 p1)] [.inl 1 (r_Int r.2), .hole] (.lit (.int .i64 r.1)) := by
  unfold laws_markIntS.f at hh
  refine fun_go2 eok mixed (ts := [(4, none)]) (rm := [.own]) (gs := [1000000, 1000001]) (pm := [.own, .skip]) Try.func19 (by kernel_rfl) (by kernel_rfl) (by kernel_rfl) ?_
  intro Fn LW len cast toNat wrap add sub mul bin lt eq At set part app fz' rep nadd nmax ssize sext sget scat seq slt Wide Flat Ones Room r' post' hC hF hr hp
  generalize he_Int : r_Int = qInt
  cbv
  replace hh := bind_some hh
  obtain ⟨o1, hl1, hq1⟩ := hh
  refine loop_go3 hC eok mixed
    (fun s : Nat × (List Int) × Int × Int × Unit => match s with | (_, s7, s8, s9, _) => (⟨[(0, .ref (0, 0) 1 0 (len (qInt s7))), (1, .lit (.int .i64 s8)), (5, .lit (.int .i64 s9)), (1000000, .ref (0, 0) 1 0 (len (qInt s7)))], [((0, 0), .arr 1 1 (qInt s7))]⟩ : St))
    (fun s : Nat × (List Int) × Int × Int × Unit => laws_markIntS.l0 k s.1 s.2.1 s.2.2.1 s.2.2.2.1 = some o1)
    (fun s => s.1) (fun _ => .exit 0)
    (fun x : Int × (List Int) => match x with | (x16, x17) => (⟨[(1, .lit (.int .i64 x16)), (1000000, .ref (0, 0) 1 0 (len (qInt x17)))], [((0, 0), .arr 1 1 (qInt x17))]⟩ : St))
    (fun x : Int × (List Int) => some (x) = some o1)
    (_, _, _, _, ()) hl1 ?_ ?_ ?_
  · rintro ⟨n, t0, t1, t2, ⟨⟩⟩ e1
    refine cov_of [((0, 0), (0, 0))] ?_
    cbv
    all_goals (have e1_0 := congrArg (fun s => s.2.1) e1; dsimp only at e1_0; subst e1_0; have e1_1 := congrArg (fun s => s.2.2.1) e1; dsimp only at e1_1; subst e1_1; have e1_2 := congrArg (fun s => s.2.2.2.1) e1; dsimp only at e1_2; subst e1_2; cases hC; subst he_Int; (first | (simp; done) | (simp <;> first | rfl | omega | grind)))
  · rintro ⟨x16, x17⟩ hx
    have hx := Option.some.inj hx
    subst hx
    have hh := hq1
    cbv
    subst hr hp
    cases hh
    cases hC; subst he_Int; first | (simp; done) | (simp <;> first | rfl | omega | grind)
  · rintro ⟨n, s7, s8, s9, ⟨⟩⟩ N1 D1 hh hN1 hD1 hQ1
    replace hN1 := fun σ' n' a0 a1 a2 (h : laws_markIntS.l0 k n' a0 a1 a2 = some o1) => hN1 σ' (n', a0, a1, a2, ()) h
    replace hD1 := fun σ' (a0 : Int) (a1 : List Int) (h : some ((a0, a1)) = some o1) => hD1 σ' (a0, a1) h
    cases n with
    | zero => dsimp only at hh; unfold laws_markIntS.l0 at hh; cases hh
    | succ n =>
    dsimp only at hh
    unfold laws_markIntS.l0 at hh
    cbv
    replace hh := if_or hh
    rcases hh with ⟨b18, hh⟩ | ⟨b18, hh⟩
    · have f19 : (lt s9 (cast (len (qInt s7)))) = true := by cases hC; subst he_Int; first | exact decide_eq_true b18 | (simp; done) | (simp; omega) | (simp at b18 ⊢; omega) | (simp at b18 ⊢; exact b18)
      rw [f19]; cbv
      replace hh := req_some hh
      obtain ⟨h20, hh⟩ := hh
      replace hh := req_some hh
      obtain ⟨h21, hh⟩ := hh
      replace h21 : s9 < (s7.length : Nat) := h21
      refine ⟨(by cases hC; subst he_Int; exact decide_eq_false (Int.not_lt.2 (by first | exact h20 | (simp; done) | (simp; omega) | (simp at h20 ⊢; omega) | (simp at h20 ⊢; exact h20)))), (by cases hC; subst he_Int; exact decide_eq_true (by first | exact h21 | (simp; done) | (simp; omega) | (simp at h21 ⊢; omega) | (simp at h21 ⊢; exact h21))), ?_⟩
      replace hh := bind_some hh
      obtain ⟨e22, h23, hh⟩ := hh
      refine ⟨[.lit (.int .i64 e22)], (by cases hC; subst he_Int; first | exact r_Int_get h23 | (simp [h23]; done) | (have q := r_Int_get h23; rw [r_Int_map] at q; simpa [List.map] using q)), ?_⟩
      cbv
      refine hN1 _ _ _ _ _ hh (Nat.lt_succ_self _) ?_
      rintro ⟨n, t0, t1, t2, ⟨⟩⟩ e1
      refine cov_of [((0, 0), (0, 0))] ?_
      cbv
      all_goals (have e1_0 := congrArg (fun s => s.2.1) e1; dsimp only at e1_0; subst e1_0; have e1_1 := congrArg (fun s => s.2.2.1) e1; dsimp only at e1_1; subst e1_1; have e1_2 := congrArg (fun s => s.2.2.2.1) e1; dsimp only at e1_2; subst e1_2; cases hC; subst he_Int; (first | (simp; done) | (simp <;> first | rfl | omega | grind)))
    · have f19 : (lt s9 (cast (len (qInt s7)))) = false := by cases hC; subst he_Int; first | exact decide_eq_false b18 | (simp; done) | (simp; omega) | (simp at b18 ⊢; omega) | (simp at b18 ⊢; exact b18)
      rw [f19]; cbv
      refine hD1 _ _ _ hh ?_
      rintro ⟨t0, t1⟩ e1
      refine cov_of [((0, 0), (0, 0))] ?_
      cbv
      all_goals (have e1_0 := congrArg (fun s => s.1) e1; dsimp only at e1_0; subst e1_0; have e1_1 := congrArg (fun s => s.2) e1; dsimp only at e1_1; subst e1_1; cases hC; subst he_Int; (first | (simp; done) | (simp <;> first | rfl | omega | grind)))

theorem c_laws_FnExactTurnEvs {k : Nat} {p0 : List GEv} {p1 : List Int} {r : Bool} (hh : laws_FnExactTurnEvs.f k p0 p1 = some r) : FunW P 4 [.tree (r_GEv p0), .tree (r_Int p1)] [.hole, .hole] (.lit (.bool r)) := by
  unfold laws_FnExactTurnEvs.f at hh
  refine fun_go2 eok mixed (ts := [(4, none)]) (rm := [.own]) (gs := [1000000, 1000001]) (pm := [.skip, .skip]) Try.func4 (by kernel_rfl) (by kernel_rfl) (by kernel_rfl) ?_
  intro Fn LW len cast toNat wrap add sub mul bin lt eq At set part app fz' rep nadd nmax ssize sext sget scat seq slt Wide Flat Ones Room r' post' hC hF hr hp
  generalize he_GEv : r_GEv = qGEv
  generalize he_Int : r_Int = qInt
  cbv
  replace hh := if_or hh
  rcases hh with ⟨b1, hh⟩ | ⟨b1, hh⟩
  · have f2 : (lt 1048576 (cast (len (qInt p1)))) = true := by cases hC; subst he_GEv he_Int; first | exact decide_eq_true b1 | (simp; done) | (simp; omega) | (simp at b1 ⊢; omega) | (simp at b1 ⊢; exact b1)
    rw [f2]; cbv
    subst hr hp
    cases hh
    cases hC; subst he_GEv he_Int; first | (simp; done) | (simp <;> first | rfl | omega | grind)
  · have f2 : (lt 1048576 (cast (len (qInt p1)))) = false := by cases hC; subst he_GEv he_Int; first | exact decide_eq_false b1 | (simp; done) | (simp; omega) | (simp at b1 ⊢; omega) | (simp at b1 ⊢; exact b1)
    rw [f2]; cbv
    replace hh := bind_some hh
    obtain ⟨x4, h3, hh⟩ := hh
    have f5 := c_laws_szEvS h3
    try rw [he_GEv] at f5
    try rw [he_Int] at f5
    refine ⟨_, _, hF _ _ _ _ _ _ f5 (by cases hC; subst he_GEv he_Int; simp) rfl, ?_⟩
    cbv
    replace hh := if_or hh
    rcases hh with ⟨b6, hh⟩ | ⟨b6, hh⟩
    · have f7 : (lt x4 0) = true := by cases hC; exact decide_eq_true b6
      rw [f7]; cbv
      subst hr hp
      cases hh
      cases hC; subst he_GEv he_Int; first | (simp; done) | (simp <;> first | rfl | omega | grind)
    · have f7 : (lt x4 0) = false := by cases hC; exact decide_eq_false b6
      rw [f7]; cbv
      replace hh := bind_some hh
      obtain ⟨x9, h8, hh⟩ := hh
      have f10 := c_laws_toEvS h8
      try rw [he_GEv] at f10
      try rw [he_Int] at f10
      refine ⟨_, _, hF _ _ _ _ _ _ f10 (by cases hC; subst he_GEv he_Int; simp) rfl, ?_⟩
      cbv
      replace hh := bind_some hh
      obtain ⟨x12, h11, hh⟩ := hh
      have f13 := c_laws_toIntS h11
      try rw [he_GEv] at f13
      try rw [he_Int] at f13
      refine ⟨_, _, hF _ _ _ _ _ _ f13 (by cases hC; subst he_GEv he_Int; simp) rfl, ?_⟩
      cbv
      replace hh := bind_some hh
      obtain ⟨x15, h14, hh⟩ := hh
      have f16 := c_spec_TurnEvs_L0_1 h14
      try rw [he_GEv] at f16
      try rw [he_Int] at f16
      refine ⟨_, _, hF _ _ _ _ _ _ f16 (by cases hC; subst he_GEv he_Int; simp) rfl, ?_⟩
      cbv
      replace hh := bind_some hh
      obtain ⟨x18, h17, hh⟩ := hh
      have f19 := c_laws_toEvS h17
      try rw [he_GEv] at f19
      try rw [he_Int] at f19
      refine ⟨_, _, hF _ _ _ _ _ _ f19 (by cases hC; subst he_GEv he_Int; simp) rfl, ?_⟩
      cbv
      replace hh := bind_some hh
      obtain ⟨x21, h20, hh⟩ := hh
      have f22 := c_laws_toIntS h20
      try rw [he_GEv] at f22
      try rw [he_Int] at f22
      refine ⟨_, _, hF _ _ _ _ _ _ f22 (by cases hC; subst he_GEv he_Int; simp) rfl, ?_⟩
      cbv
      replace hh := bind_some hh
      obtain ⟨x24, h23, hh⟩ := hh
      have f25 := c_impl_TurnEvs_L0_1 h23
      try rw [he_GEv] at f25
      try rw [he_Int] at f25
      refine ⟨_, _, hF _ _ _ _ _ _ f25 (by cases hC; subst he_GEv he_Int; simp) rfl, ?_⟩
      cbv
      replace hh := bind_some hh
      obtain ⟨x27, h26, hh⟩ := hh
      have f28 := c_laws_eqEvS_L0_1 h26
      try rw [he_GEv] at f28
      try rw [he_Int] at f28
      refine ⟨_, _, hF _ _ _ _ _ _ f28 (by cases hC; subst he_GEv he_Int; simp) rfl, ?_⟩
      cbv
      replace hh := if_or hh
      rcases hh with ⟨b29, hh⟩ | ⟨b29, hh⟩
      · have f30 : x27 = true := by exact b29
        rw [f30]; cbv
        replace hh := bind_some hh
        obtain ⟨x32, h31, hh⟩ := hh
        have f33 := c_laws_toEvS h31
        try rw [he_GEv] at f33
        try rw [he_Int] at f33
        refine ⟨_, _, hF _ _ _ _ _ _ f33 (by cases hC; subst he_GEv he_Int; simp) rfl, ?_⟩
        cbv
        replace hh := bind_some hh
        obtain ⟨x35, h34, hh⟩ := hh
        have f36 := c_laws_eqEvS_L0_1 h34
        try rw [he_GEv] at f36
        try rw [he_Int] at f36
        refine ⟨_, _, hF _ _ _ _ _ _ f36 (by cases hC; subst he_GEv he_Int; simp) rfl, ?_⟩
        cbv
        replace hh := if_or hh
        rcases hh with ⟨b37, hh⟩ | ⟨b37, hh⟩
        · have f38 : x35 = true := by exact b37
          rw [f38]; cbv
          replace hh := bind_some hh
          obtain ⟨x40, h39, hh⟩ := hh
          have f41 := c_laws_toIntS h39
          try rw [he_GEv] at f41
          try rw [he_Int] at f41
          refine ⟨_, _, hF _ _ _ _ _ _ f41 (by cases hC; subst he_GEv he_Int; simp) rfl, ?_⟩
          cbv
          replace hh := bind_some hh
          obtain ⟨x43, h42, hh⟩ := hh
          have f44 := c_laws_eqIntS_L0_1 h42
          try rw [he_GEv] at f44
          try rw [he_Int] at f44
          refine ⟨_, _, hF _ _ _ _ _ _ f44 (by cases hC; subst he_GEv he_Int; simp) rfl, ?_⟩
          cbv
          replace hh := if_or hh
          rcases hh with ⟨b45, hh⟩ | ⟨b45, hh⟩
          · have f46 : x43 = true := by exact b45
            rw [f46]; cbv
            replace hh := bind_some hh
            obtain ⟨⟨x48_0, x48_1⟩, h47, hh⟩ := hh
            replace hh := req_some hh
            obtain ⟨h93, hh⟩ := hh
            try dsimp only at h93
            have f49 := c_laws_markEvS h47
            try rw [he_GEv] at f49
            try rw [he_Int] at f49
            refine ⟨_, _, hF _ _ _ _ _ _ f49 (by cases hC; subst he_GEv he_Int; simp) rfl, ?_⟩
            cbv
            replace hh := bind_some hh
            obtain ⟨⟨x51_0, x51_1⟩, h50, hh⟩ := hh
            replace hh := req_some hh
            obtain ⟨h92, hh⟩ := hh
            try dsimp only at h92
            have f52 := c_laws_markIntS h50
            try rw [he_GEv] at f52
            try rw [he_Int] at f52
            refine ⟨_, _, hF _ _ _ _ _ _ f52 (by cases hC; subst he_GEv he_Int; simp) rfl, ?_⟩
            cbv
            replace hh := if_or hh
            rcases hh with ⟨b53, hh⟩ | ⟨b53, hh⟩
            · have f54 : (lt x51_0 0) = true := by cases hC; exact decide_eq_true b53
              rw [f54]; cbv
              subst hr hp
              cases hh
              cases hC; subst he_GEv he_Int; first | (simp; done) | (simp <;> first | rfl | omega | grind)
            · have f54 : (lt x51_0 0) = false := by cases hC; exact decide_eq_false b53
              rw [f54]; cbv
              replace hh := bind_some hh
              obtain ⟨x56, h55, hh⟩ := hh
              have f57 := c_laws_eqEvS_L0_1 h55
              try rw [he_GEv] at f57
              try rw [he_Int] at f57
              refine ⟨_, _, hF _ _ _ _ _ _ f57 (by cases hC; subst he_GEv he_Int; simp) rfl, ?_⟩
              cbv
              replace hh := if_or hh
              rcases hh with ⟨b58, hh⟩ | ⟨b58, hh⟩
              · have f59 : x56 = true := by exact b58
                rw [f59]; cbv
                replace hh := bind_some hh
                obtain ⟨⟨x61_0, x61_1⟩, h60, hh⟩ := hh
                replace hh := req_some hh
                obtain ⟨h91, hh⟩ := hh
                try dsimp only at h91
                have f62 := c_laws_markEvS h60
                try rw [he_GEv] at f62
                try rw [he_Int] at f62
                refine ⟨_, _, hF _ _ _ _ _ _ f62 (by cases hC; subst he_GEv he_Int; simp) rfl, ?_⟩
                cbv
                replace hh := bind_some hh
                obtain ⟨x64, h63, hh⟩ := hh
                refine ⟨by cases hC; subst he_GEv he_Int; first | (simp; done) | (simp; first | omega | (simp only [natc] at *; omega)), ?_⟩
                have f65 := c_laws_heldEvS_L0 h63
                try rw [he_GEv] at f65
                try rw [he_Int] at f65
                refine ⟨_, _, hF _ _ _ _ _ _ f65 (by cases hC; subst he_GEv he_Int; simp) rfl, ?_⟩
                cbv
                replace hh := if_or hh
                rcases hh with ⟨b66, hh⟩ | ⟨b66, hh⟩
                · have f67 : (lt x64 0) = true := by cases hC; exact decide_eq_true b66
                  rw [f67]; cbv
                  subst hr hp
                  cases hh
                  cases hC; subst he_GEv he_Int; first | (simp; done) | (simp <;> first | rfl | omega | grind)
                · have f67 : (lt x64 0) = false := by cases hC; exact decide_eq_false b66
                  rw [f67]; cbv
                  replace hh := if_or hh
                  rcases hh with ⟨b68, hh⟩ | ⟨b68, hh⟩
                  · have f69 : (eq x64 x61_0) = true := by cases hC; exact beq_iff_eq.2 b68
                    rw [f69]; cbv
                    replace hh := bind_some hh
                    obtain ⟨x71, h70, hh⟩ := hh
                    have f72 := c_laws_toEvS h70
                    try rw [he_GEv] at f72
                    try rw [he_Int] at f72
                    refine ⟨_, _, hF _ _ _ _ _ _ f72 (by cases hC; subst he_GEv he_Int; simp) rfl, ?_⟩
                    cbv
                    replace hh := bind_some hh
                    obtain ⟨x74, h73, hh⟩ := hh
                    have f75 := c_laws_toIntS h73
                    try rw [he_GEv] at f75
                    try rw [he_Int] at f75
                    refine ⟨_, _, hF _ _ _ _ _ _ f75 (by cases hC; subst he_GEv he_Int; simp) rfl, ?_⟩
                    cbv
                    replace hh := bind_some hh
                    obtain ⟨x77, h76, hh⟩ := hh
                    have f78 := c_impl_TurnEvs_L0_1 h76
                    try rw [he_GEv] at f78
                    try rw [he_Int] at f78
                    refine ⟨_, _, hF _ _ _ _ _ _ f78 (by cases hC; subst he_GEv he_Int; simp) rfl, ?_⟩
                    cbv
                    replace hh := bind_some hh
                    obtain ⟨x80, h79, hh⟩ := hh
                    have f81 := c_laws_eqEvS_L0_1 h79
                    try rw [he_GEv] at f81
                    try rw [he_Int] at f81
                    refine ⟨_, _, hF _ _ _ _ _ _ f81 (by cases hC; subst he_GEv he_Int; simp) rfl, ?_⟩
                    cbv
                    replace hh := if_or hh
                    rcases hh with ⟨b82, hh⟩ | ⟨b82, hh⟩
                    · have f83 : x80 = true := by exact b82
                      rw [f83]; cbv
                      replace hh := bind_some hh
                      obtain ⟨x85, h84, hh⟩ := hh
                      refine ⟨by cases hC; subst he_GEv he_Int; first | (simp; done) | (simp; first | omega | (simp only [natc] at *; omega)), ?_⟩
                      have f86 := c_laws_heldEvS_L0 h84
                      try rw [he_GEv] at f86
                      try rw [he_Int] at f86
                      refine ⟨_, _, hF _ _ _ _ _ _ f86 (by cases hC; subst he_GEv he_Int; simp) rfl, ?_⟩
                      cbv
                      replace hh := if_or hh
                      rcases hh with ⟨b87, hh⟩ | ⟨b87, hh⟩
                      · have f88 : (lt x85 0) = true := by cases hC; exact decide_eq_true b87
                        rw [f88]; cbv
                        subst hr hp
                        cases hh
                        cases hC; subst he_GEv he_Int; first | (simp; done) | (simp <;> first | rfl | omega | grind)
                      · have f88 : (lt x85 0) = false := by cases hC; exact decide_eq_false b87
                        rw [f88]; cbv
                        replace hh := if_or hh
                        rcases hh with ⟨b89, hh⟩ | ⟨b89, hh⟩
                        · have f90 : (eq x85 x61_0) = true := by cases hC; exact beq_iff_eq.2 b89
                          rw [f90]; cbv
                          subst hr hp
                          cases hh
                          cases hC; subst he_GEv he_Int; first | (simp; done) | (simp <;> first | rfl | omega | grind)
                        · have f90 : (eq x85 x61_0) = false := by cases hC; exact beq_false_of_ne b89
                          rw [f90]; cbv
                          subst hr hp
                          cases hh
                          cases hC; subst he_GEv he_Int; first | (simp; done) | (simp <;> first | rfl | omega | grind)
                    · have f83 : x80 = false := by exact Bool.eq_false_iff.2 b82
                      rw [f83]; cbv
                      subst hr hp
                      cases hh
                      cases hC; subst he_GEv he_Int; first | (simp; done) | (simp <;> first | rfl | omega | grind)
                  · have f69 : (eq x64 x61_0) = false := by cases hC; exact beq_false_of_ne b68
                    rw [f69]; cbv
                    subst hr hp
                    cases hh
                    cases hC; subst he_GEv he_Int; first | (simp; done) | (simp <;> first | rfl | omega | grind)
              · have f59 : x56 = false := by exact Bool.eq_false_iff.2 b58
                rw [f59]; cbv
                subst hr hp
                cases hh
                cases hC; subst he_GEv he_Int; first | (simp; done) | (simp <;> first | rfl | omega | grind)
          · have f46 : x43 = false := by exact Bool.eq_false_iff.2 b45
            rw [f46]; cbv
            subst hr hp
            cases hh
            cases hC; subst he_GEv he_Int; first | (simp; done) | (simp <;> first | rfl | omega | grind)
        · have f38 : x35 = false := by exact Bool.eq_false_iff.2 b37
          rw [f38]; cbv
          subst hr hp
          cases hh
          cases hC; subst he_GEv he_Int; first | (simp; done) | (simp <;> first | rfl | omega | grind)
      · have f30 : x27 = false := by exact Bool.eq_false_iff.2 b29
        rw [f30]; cbv
        subst hr hp
        cases hh
        cases hC; subst he_GEv he_Int; first | (simp; done) | (simp <;> first | rfl | omega | grind)

theorem c_scc26 : ∀ k : Nat, (∀ {p0 : List GEx} {p1 : Int} {r : Int}, laws_szExS.f k p0 p1 = some r → FunW P 59 [.tree (r_GEx p0), .lit (.int .i64 p1)] [.hole, .hole] (.lit (.int .i64 r))) ∧ (∀ {p0 : GEx} {p1 : Int} {r : Int}, laws_szEx.f k p0 p1 = some r → FunW P 26 [.agg [.lit (.int .i64 p0.Kind), .lit (.int .i64 p0.Sym), .lit (.int .i64 p0.N), .tree (r_GEx p0.Kids)], .lit (.int .i64 p1)] [.hole, .hole] (.lit (.int .i64 r))) := by
  intro k
  induction k using Nat.strongRecOn with
  | _ k ih =>
  refine ⟨?_, ?_⟩
  · intro p0 p1 r hh
    cases k with
    | zero => unfold laws_szExS.f at hh; cases hh
    | succ k =>
    unfold laws_szExS.f at hh
    refine fun_go2 eok mixed (ts := [(4, none)]) (rm := [.own]) (gs := [1000000, 1000001]) (pm := [.skip, .skip]) Try.func59 (by kernel_rfl) (by kernel_rfl) (by kernel_rfl) ?_
    intro Fn LW len cast toNat wrap add sub mul bin lt eq At set part app fz' rep nadd nmax ssize sext sget scat seq slt Wide Flat Ones Room r' post' hC hF hr hp
    generalize he_GEx : r_GEx = qGEx
    cbv
    replace hh := if_or hh
    rcases hh with ⟨b1, hh⟩ | ⟨b1, hh⟩
    · have f2 : (lt (wrap .i64 (sub p1 (cast (len (qGEx p0))))) 0) = true := by cases hC; subst he_GEx; first | exact decide_eq_true b1 | (simp; done) | (simp; omega) | (simp at b1 ⊢; omega) | (simp at b1 ⊢; exact b1)
      rw [f2]; cbv
      subst hr hp
      cases hh
      cases hC; subst he_GEx; first | (simp; done) | (simp <;> first | rfl | omega | grind)
    · have f2 : (lt (wrap .i64 (sub p1 (cast (len (qGEx p0))))) 0) = false := by cases hC; subst he_GEx; first | exact decide_eq_false b1 | (simp; done) | (simp; omega) | (simp at b1 ⊢; omega) | (simp at b1 ⊢; exact b1)
      rw [f2]; cbv
      replace hh := bind_some hh
      obtain ⟨o1, hl1, hq1⟩ := hh
      refine loop_go3 hC eok mixed
        (fun s : Nat × Int × Int × Unit => match s with | (_, s13, s14, _) => (⟨[(0, .tree (qGEx p0)), (1, .lit (.int .i64 s13)), (5, .lit (.int .i64 s14))], []⟩ : St))
        (fun s : Nat × Int × Int × Unit => laws_szExS.l0 k (laws_szEx.f k) p0 s.1 s.2.1 s.2.2.1 = some o1)
        (fun s => s.1) (fun _ => .exit 0)
        (fun x : Int => match x with | x25 => (⟨[(1, .lit (.int .i64 x25))], []⟩ : St))
        (fun x : Int => some (.ok x) = some o1)
        (_, _, _, ()) hl1 ?_ ?_ ?_
      · rintro ⟨n, t0, t1, ⟨⟩⟩ e1
        refine cov_of [] ?_
        cbv
        all_goals (have e1_0 := congrArg (fun s => s.2.1) e1; dsimp only at e1_0; subst e1_0; have e1_1 := congrArg (fun s => s.2.2.1) e1; dsimp only at e1_1; subst e1_1; cases hC; subst he_GEx; (first | (simp; done) | (simp <;> first | rfl | omega | grind)))
      · rintro x25 hx
        have hx := Option.some.inj hx
        subst hx
        have hh := hq1
        cbv
        subst hr hp
        cases hh
        cases hC; subst he_GEx; first | (simp; done) | (simp <;> first | rfl | omega | grind)
      · rintro ⟨n, s13, s14, ⟨⟩⟩ N1 D1 hh hN1 hD1 hQ1
        replace hN1 := fun σ' n' a0 a1 (h : laws_szExS.l0 k (laws_szEx.f k) p0 n' a0 a1 = some o1) => hN1 σ' (n', a0, a1, ()) h
        replace hD1 := fun σ' (a0 : Int) (h : some (Except.ok a0) = some o1) => hD1 σ' a0 h
        cases n with
        | zero => dsimp only at hh; unfold laws_szExS.l0 at hh; cases hh
        | succ n =>
        dsimp only at hh
        unfold laws_szExS.l0 at hh
        cbv
        replace hh := if_or hh
        rcases hh with ⟨b26, hh⟩ | ⟨b26, hh⟩
        · have f27 : (lt s14 (cast (len (qGEx p0)))) = true := by cases hC; subst he_GEx; first | exact decide_eq_true b26 | (simp; done) | (simp; omega) | (simp at b26 ⊢; omega) | (simp at b26 ⊢; exact b26)
          rw [f27]; cbv
          replace hh := req_some hh
          obtain ⟨h28, hh⟩ := hh
          replace hh := bind_some hh
          obtain ⟨⟨e29_Kind, e29_Sym, e29_N, e29_Kids⟩, h30, hh⟩ := hh
          refine ⟨[.lit (.int .i64 e29_Kind), .lit (.int .i64 e29_Sym), .lit (.int .i64 e29_N), .tree (qGEx e29_Kids)], (by cases hC; subst he_GEx; exact decide_eq_false (Int.not_lt.2 (by first | exact h28 | (simp; done) | (simp; omega) | (simp at h28 ⊢; omega) | (simp at h28 ⊢; exact h28)))), (by cases hC; subst he_GEx; first | exact r_GEx_get h30 | simp [h30]), ?_⟩
          cbv
          replace hh := bind_some hh
          obtain ⟨x32, h31, hh⟩ := hh
          have f33 := (ih k (Nat.lt_succ_self k)).2 h31
          try rw [he_GEx] at f33
          refine ⟨_, _, hF _ _ _ _ _ _ f33 (by cases hC; subst he_GEx; simp) rfl, ?_⟩
          cbv
          replace hh := if_or hh
          rcases hh with ⟨b34, hh⟩ | ⟨b34, hh⟩
          · have f35 : (lt x32 0) = true := by cases hC; exact decide_eq_true b34
            rw [f35]; cbv
            cases hh
            have hh : some _ = some _ := hq1
            refine hQ1 _ _ ?_
            cbv
            subst hr hp
            cases hh
            cases hC; subst he_GEx; first | (simp; done) | (simp <;> first | rfl | omega | grind)
          · have f35 : (lt x32 0) = false := by cases hC; exact decide_eq_false b34
            rw [f35]; cbv
            refine hN1 _ _ _ _ hh (Nat.lt_succ_self _) ?_
            rintro ⟨n, t0, t1, ⟨⟩⟩ e1
            refine cov_of [] ?_
            cbv
            all_goals (have e1_0 := congrArg (fun s => s.2.1) e1; dsimp only at e1_0; subst e1_0; have e1_1 := congrArg (fun s => s.2.2.1) e1; dsimp only at e1_1; subst e1_1; cases hC; subst he_GEx; (first | (simp; done) | (simp <;> first | rfl | omega | grind)))
        · have f27 : (lt s14 (cast (len (qGEx p0)))) = false := by cases hC; subst he_GEx; first | exact decide_eq_false b26 | (simp; done) | (simp; omega) | (simp at b26 ⊢; omega) | (simp at b26 ⊢; exact b26)
          rw [f27]; cbv
          refine hD1 _ _ hh ?_
          rintro t0 e1
          refine cov_of [] ?_
          cbv
          all_goals (subst e1; cases hC; subst he_GEx; (first | (simp; done) | (simp <;> first | rfl | omega | grind)))
  · intro p0 p1 r hh
    cases k with
    | zero => unfold laws_szEx.f at hh; cases hh
    | succ k =>
    obtain ⟨p0_Kind, p0_Sym, p0_N, p0_Kids⟩ := p0
    unfold laws_szEx.f at hh
    refine fun_go2 eok mixed (ts := [(4, none)]) (rm := [.own]) (gs := [1000000, 1000001]) (pm := [.skip, .skip]) Try.func26 (by kernel_rfl) (by kernel_rfl) (by kernel_rfl) ?_
    intro Fn LW len cast toNat wrap add sub mul bin lt eq At set part app fz' rep nadd nmax ssize sext sget scat seq slt Wide Flat Ones Room r' post' hC hF hr hp
    generalize he_GEx : r_GEx = qGEx
    cbv
    replace hh := bind_some hh
    obtain ⟨x2, h1, hh⟩ := hh
    have f3 := (ih k (Nat.lt_succ_self k)).1 h1
    try rw [he_GEx] at f3
    refine ⟨_, _, hF _ _ _ _ _ _ f3 (by cases hC; subst he_GEx; simp) rfl, ?_⟩
    cbv
    replace hh := if_or hh
    rcases hh with ⟨b4, hh⟩ | ⟨b4, hh⟩
    · have f5 : (lt x2 0) = true := by cases hC; exact decide_eq_true b4
      rw [f5]; cbv
      subst hr hp
      cases hh
      cases hC; subst he_GEx; first | (simp; done) | (simp <;> first | rfl | omega | grind)
    · have f5 : (lt x2 0) = false := by cases hC; exact decide_eq_false b4
      rw [f5]; cbv
      subst hr hp
      cases hh
      cases hC; subst he_GEx; first | (simp; done) | (simp <;> first | rfl | omega | grind)
theorem c_laws_szExS {k : Nat} {p0 : List GEx} {p1 : Int} {r : Int} (hh : laws_szExS.f k p0 p1 = some r) : FunW P 59 [.tree (r_GEx p0), .lit (.int .i64 p1)] [.hole, .hole] (.lit (.int .i64 r)) := (c_scc26 k).1 hh
theorem c_laws_szEx {k : Nat} {p0 : GEx} {p1 : Int} {r : Int} (hh : laws_szEx.f k p0 p1 = some r) : FunW P 26 [.agg [.lit (.int .i64 p0.Kind), .lit (.int .i64 p0.Sym), .lit (.int .i64 p0.N), .tree (r_GEx p0.Kids)], .lit (.int .i64 p1)] [.hole, .hole] (.lit (.int .i64 r)) := (c_scc26 k).2 hh



theorem c_scc28 : ∀ k : Nat, (∀ {p0 : List GEx} {r : List GEx}, laws_toExS.f k p0 = some r → FunW P 62 [.tree (r_GEx p0)] [.hole] (.inl 4 (r_GExO r))) ∧ (∀ {p0 : GEx} {r : GEx}, laws_toEx.f k p0 = some r → FunW P 28 [.agg [.lit (.int .i64 p0.Kind), .lit (.int .i64 p0.Sym), .lit (.int .i64 p0.N), .tree (r_GEx p0.Kids)]] [.hole] (.agg [.lit (.int .i64 r.Kind), .lit (.int .i64 r.Sym), .lit (.int .i64 r.N), .inl 4 (r_GExO r.Kids)])) := by
  intro k
  induction k using Nat.strongRecOn with
  | _ k ih =>
  refine ⟨?_, ?_⟩
  · intro p0 r hh
    cases k with
    | zero => unfold laws_toExS.f at hh; cases hh
    | succ k =>
    unfold laws_toExS.f at hh
    refine fun_go2 eok mixed (ts := [(2, none)]) (rm := [.own]) (gs := [1000000]) (pm := [.skip]) Try.func62 (by kernel_rfl) (by kernel_rfl) (by kernel_rfl) ?_
    intro Fn LW len cast toNat wrap add sub mul bin lt eq At set part app fz' rep nadd nmax ssize sext sget scat seq slt Wide Flat Ones Room r' post' hC hF hr hp
    generalize he_GEx : r_GEx = qGEx
    generalize he_GExO : r_GExO = qGExO
    cbv
    replace hh := req_some hh
    obtain ⟨h1, hh⟩ := hh
    replace hh := req_some hh
    obtain ⟨h2, hh⟩ := hh
    replace hh := req_some hh
    obtain ⟨h3, hh⟩ := hh
    refine ⟨⟨(by cases hC; subst he_GEx he_GExO; exact decide_eq_false (Int.not_lt.2 (by first | exact h1 | (simp; done) | (simp; omega) | (simp at h1 ⊢; omega) | (simp at h1 ⊢; exact h1)))), (by cases hC; subst he_GEx he_GExO; exact decide_eq_false (Int.not_lt.2 (by first | exact h2 | (simp; done) | (simp; omega) | (simp at h2 ⊢; omega) | (simp at h2 ⊢; exact h2)))), (by cases hC; subst he_GEx he_GExO; first | exact h3 | (simp; done) | (simp; omega) | (simp at h3 ⊢; omega) | (simp at h3 ⊢; exact h3))⟩, ?_⟩
    replace hh := bind_some hh
    obtain ⟨o1, hl1, hq1⟩ := hh
    refine loop_go3 hC eok mixed
      (fun s : Nat × (List GEx) × Int × Unit => match s with | (_, s16, s17, _) => (⟨[(0, .tree (qGEx p0)), (3, .ref (7, 0) 1 0 (len (qGExO s16))), (4, .lit (.int .i64 s17))], [((7, 0), .arr 1 4 (qGExO s16))]⟩ : St))
      (fun s : Nat × (List GEx) × Int × Unit => laws_toExS.l0 k (laws_toEx.f k) p0 s.1 s.2.1 s.2.2.1 = some o1)
      (fun s => s.1) (fun _ => .exit 0)
      (fun x : List GEx => match x with | x30 => (⟨[(3, .ref (7, 0) 1 0 (len (qGExO x30)))], [((7, 0), .arr 1 4 (qGExO x30))]⟩ : St))
      (fun x : List GEx => some (x) = some o1)
      (_, _, _, ()) hl1 ?_ ?_ ?_
    · rintro ⟨n, t0, t1, ⟨⟩⟩ e1
      refine cov_of [((7, 0), (7, 0))] ?_
      cbv
      all_goals (have e1_0 := congrArg (fun s => s.2.1) e1; dsimp only at e1_0; subst e1_0; have e1_1 := congrArg (fun s => s.2.2.1) e1; dsimp only at e1_1; subst e1_1; cases hC; subst he_GEx he_GExO; (first | (simp; done) | (simp <;> first | rfl | omega | grind)))
    · rintro x30 hx
      have hx := Option.some.inj hx
      subst hx
      have hh := hq1
      cbv
      subst hr hp
      cases hh
      cases hC; subst he_GEx he_GExO; first | (simp; done) | (simp <;> first | rfl | omega | grind)
    · rintro ⟨n, s16, s17, ⟨⟩⟩ N1 D1 hh hN1 hD1 hQ1
      replace hN1 := fun σ' n' a0 a1 (h : laws_toExS.l0 k (laws_toEx.f k) p0 n' a0 a1 = some o1) => hN1 σ' (n', a0, a1, ()) h
      replace hD1 := fun σ' (a0 : List GEx) (h : some (a0) = some o1) => hD1 σ' a0 h
      cases n with
      | zero => dsimp only at hh; unfold laws_toExS.l0 at hh; cases hh
      | succ n =>
      dsimp only at hh
      unfold laws_toExS.l0 at hh
      cbv
      replace hh := if_or hh
      rcases hh with ⟨b31, hh⟩ | ⟨b31, hh⟩
      · have f32 : (lt s17 (cast (len (qGEx p0)))) = true := by cases hC; subst he_GEx he_GExO; first | exact decide_eq_true b31 | (simp; done) | (simp; omega) | (simp at b31 ⊢; omega) | (simp at b31 ⊢; exact b31)
        rw [f32]; cbv
        replace hh := req_some hh
        obtain ⟨h33, hh⟩ := hh
        replace hh := bind_some hh
        obtain ⟨⟨e34_Kind, e34_Sym, e34_N, e34_Kids⟩, h35, hh⟩ := hh
        refine ⟨[.lit (.int .i64 e34_Kind), .lit (.int .i64 e34_Sym), .lit (.int .i64 e34_N), .tree (qGEx e34_Kids)], (by cases hC; subst he_GEx he_GExO; exact decide_eq_false (Int.not_lt.2 (by first | exact h33 | (simp; done) | (simp; omega) | (simp at h33 ⊢; omega) | (simp at h33 ⊢; exact h33)))), (by cases hC; subst he_GEx he_GExO; first | exact r_GEx_get h35 | simp [h35]), ?_⟩
        cbv
        replace hh := bind_some hh
        obtain ⟨⟨x37_Kind, x37_Sym, x37_N, x37_Kids⟩, h36, hh⟩ := hh
        have f38 := (ih k (Nat.lt_succ_self k)).2 h36
        try rw [he_GEx] at f38
        try rw [he_GExO] at f38
        refine ⟨_, _, hF _ _ _ _ _ _ f38 (by cases hC; subst he_GEx he_GExO; simp) rfl, ?_⟩
        cbv
        replace hh := req_some hh
        obtain ⟨h39, hh⟩ := hh
        replace hh := req_some hh
        obtain ⟨h40, hh⟩ := hh
        replace h40 : s17 < (s16.length : Nat) := h40
        refine ⟨(by cases hC; subst he_GEx he_GExO; exact decide_eq_false (Int.not_lt.2 (by first | exact h39 | (simp; done) | (simp; omega) | (simp at h39 ⊢; omega) | (simp at h39 ⊢; exact h39)))), (by cases hC; subst he_GEx he_GExO; exact decide_eq_true (by first | exact h40 | (simp; done) | (simp; omega) | (simp at h40 ⊢; omega) | (simp at h40 ⊢; exact h40))), ?_⟩
        replace hh := bind_some hh
        obtain ⟨⟨e41_Kind, e41_Sym, e41_N, e41_Kids⟩, h42, hh⟩ := hh
        refine ⟨[.lit (.int .i64 e41_Kind), .lit (.int .i64 e41_Sym), .lit (.int .i64 e41_N), .inl 4 (qGExO e41_Kids)], (by cases hC; subst he_GEx he_GExO; first | exact r_GExO_get h42 | (simp [h42]; done) | (have q := r_GExO_get h42; rw [r_GExO_map] at q; simpa [List.map] using q)), ?_⟩
        cbv
        refine hN1 _ _ _ _ hh (Nat.lt_succ_self _) ?_
        rintro ⟨n, t0, t1, ⟨⟩⟩ e1
        refine cov_of [((7, 0), (7, 0))] ?_
        cbv
        all_goals (have e1_0 := congrArg (fun s => s.2.1) e1; dsimp only at e1_0; subst e1_0; have e1_1 := congrArg (fun s => s.2.2.1) e1; dsimp only at e1_1; subst e1_1; cases hC; subst he_GEx he_GExO; (first | (simp; done) | (simp <;> first | rfl | omega | grind)))
      · have f32 : (lt s17 (cast (len (qGEx p0)))) = false := by cases hC; subst he_GEx he_GExO; first | exact decide_eq_false b31 | (simp; done) | (simp; omega) | (simp at b31 ⊢; omega) | (simp at b31 ⊢; exact b31)
        rw [f32]; cbv
        refine hD1 _ _ hh ?_
        rintro t0 e1
        refine cov_of [((7, 0), (7, 0))] ?_
        cbv
        all_goals (subst e1; cases hC; subst he_GEx he_GExO; (first | (simp; done) | (simp <;> first | rfl | omega | grind)))
  · intro p0 r hh
    cases k with
    | zero => unfold laws_toEx.f at hh; cases hh
    | succ k =>
    obtain ⟨p0_Kind, p0_Sym, p0_N, p0_Kids⟩ := p0
    unfold laws_toEx.f at hh
    refine fun_go2 eok mixed (ts := [(2, some 53)]) (rm := [.own]) (gs := [1000000]) (pm := [.skip]) Try.func28 (by kernel_rfl) (by kernel_rfl) (by kernel_rfl) ?_
    intro Fn LW len cast toNat wrap add sub mul bin lt eq At set part app fz' rep nadd nmax ssize sext sget scat seq slt Wide Flat Ones Room r' post' hC hF hr hp
    generalize he_GEx : r_GEx = qGEx
    generalize he_GExO : r_GExO = qGExO
    cbv
    replace hh := bind_some hh
    obtain ⟨x2, h1, hh⟩ := hh
    have f3 := (ih k (Nat.lt_succ_self k)).1 h1
    try rw [he_GEx] at f3
    try rw [he_GExO] at f3
    refine ⟨_, _, hF _ _ _ _ _ _ f3 (by cases hC; subst he_GEx he_GExO; simp) rfl, ?_⟩
    cbv
    subst hr hp
    cases hh
    cases hC; subst he_GEx he_GExO; first | (simp; done) | (simp <;> first | rfl | omega | grind)
theorem c_laws_toExS {k : Nat} {p0 : List GEx} {r : List GEx} (hh : laws_toExS.f k p0 = some r) : FunW P 62 [.tree (r_GEx p0)] [.hole] (.inl 4 (r_GExO r)) := (c_scc28 k).1 hh
theorem c_laws_toEx {k : Nat} {p0 : GEx} {r : GEx} (hh : laws_toEx.f k p0 = some r) : FunW P 28 [.agg [.lit (.int .i64 p0.Kind), .lit (.int .i64 p0.Sym), .lit (.int .i64 p0.N), .tree (r_GEx p0.Kids)]] [.hole] (.agg [.lit (.int .i64 r.Kind), .lit (.int .i64 r.Sym), .lit (.int .i64 r.N), .inl 4 (r_GExO r.Kids)]) := (c_scc28 k).2 hh



theorem c_spec_l2Kids {p0 : Int} {r : Int} (hh : spec_l2Kids.f p0 = some r) : FunW P 93 [.lit (.int .i64 p0)] [.hole] (.lit (.int .i64 r)) := by
  unfold spec_l2Kids.f at hh
  refine fun_go2 eok mixed (ts := [(2, none)]) (rm := [.own]) (gs := [1000000]) (pm := [.skip]) Try.func93 (by kernel_rfl) (by kernel_rfl) (by kernel_rfl) ?_
  intro Fn LW len cast toNat wrap add sub mul bin lt eq At set part app fz' rep nadd nmax ssize sext sget scat seq slt Wide Flat Ones Room r' post' hC hF hr hp
  cbv
  replace hh := if_or hh
  rcases hh with ⟨b1, hh⟩ | ⟨b1, hh⟩
  · have f2 : (eq p0 1) = true := by cases hC; exact beq_iff_eq.2 b1
    rw [f2]; cbv
    subst hr hp
    cases hh
    cases hC; first | (simp; done) | (simp <;> first | rfl | omega | grind)
  · have f2 : (eq p0 1) = false := by cases hC; exact beq_false_of_ne b1
    rw [f2]; cbv
    replace hh := if_or hh
    rcases hh with ⟨b3, hh⟩ | ⟨b3, hh⟩
    · have f4 : (eq p0 7) = true := by cases hC; exact beq_iff_eq.2 b3
      rw [f4]; cbv
      subst hr hp
      cases hh
      cases hC; first | (simp; done) | (simp <;> first | rfl | omega | grind)
    · have f4 : (eq p0 7) = false := by cases hC; exact beq_false_of_ne b3
      rw [f4]; cbv
      replace hh := if_or hh
      rcases hh with ⟨b5, hh⟩ | ⟨b5, hh⟩
      · have f6 : (eq p0 2) = true := by cases hC; exact beq_iff_eq.2 b5
        rw [f6]; cbv
        subst hr hp
        cases hh
        cases hC; first | (simp; done) | (simp <;> first | rfl | omega | grind)
      · have f6 : (eq p0 2) = false := by cases hC; exact beq_false_of_ne b5
        rw [f6]; cbv
        replace hh := if_or hh
        rcases hh with ⟨b7, hh⟩ | ⟨b7, hh⟩
        · have f8 : (eq p0 3) = true := by cases hC; exact beq_iff_eq.2 b7
          rw [f8]; cbv
          subst hr hp
          cases hh
          cases hC; first | (simp; done) | (simp <;> first | rfl | omega | grind)
        · have f8 : (eq p0 3) = false := by cases hC; exact beq_false_of_ne b7
          rw [f8]; cbv
          replace hh := if_or hh
          rcases hh with ⟨b9, hh⟩ | ⟨b9, hh⟩
          · have f10 : (eq p0 4) = true := by cases hC; exact beq_iff_eq.2 b9
            rw [f10]; cbv
            subst hr hp
            cases hh
            cases hC; first | (simp; done) | (simp <;> first | rfl | omega | grind)
          · have f10 : (eq p0 4) = false := by cases hC; exact beq_false_of_ne b9
            rw [f10]; cbv
            replace hh := if_or hh
            rcases hh with ⟨b11, hh⟩ | ⟨b11, hh⟩
            · have f12 : (eq p0 5) = true := by cases hC; exact beq_iff_eq.2 b11
              rw [f12]; cbv
              subst hr hp
              cases hh
              cases hC; first | (simp; done) | (simp <;> first | rfl | omega | grind)
            · have f12 : (eq p0 5) = false := by cases hC; exact beq_false_of_ne b11
              rw [f12]; cbv
              replace hh := if_or hh
              rcases hh with ⟨b13, hh⟩ | ⟨b13, hh⟩
              · have f14 : (eq p0 6) = true := by cases hC; exact beq_iff_eq.2 b13
                rw [f14]; cbv
                subst hr hp
                cases hh
                cases hC; first | (simp; done) | (simp <;> first | rfl | omega | grind)
              · have f14 : (eq p0 6) = false := by cases hC; exact beq_false_of_ne b13
                rw [f14]; cbv
                subst hr hp
                cases hh
                cases hC; first | (simp; done) | (simp <;> first | rfl | omega | grind)

theorem c_scc84 : ∀ k : Nat, (∀ {p0 : GEx} {p1 : Int} {r : Bool}, spec_l2Form.f k p0 p1 = some r → FunW P 84 [.agg [.lit (.int .i64 p0.Kind), .lit (.int .i64 p0.Sym), .lit (.int .i64 p0.N), .tree (r_GEx p0.Kids)], .lit (.int .i64 p1)] [.hole, .hole] (.lit (.bool r))) := by
  intro k
  induction k using Nat.strongRecOn with
  | _ k ih =>
  · intro p0 p1 r hh
    cases k with
    | zero => unfold spec_l2Form.f at hh; cases hh
    | succ k =>
    obtain ⟨p0_Kind, p0_Sym, p0_N, p0_Kids⟩ := p0
    unfold spec_l2Form.f at hh
    refine fun_go2 eok mixed (ts := [(4, none)]) (rm := [.own]) (gs := [1000000, 1000001]) (pm := [.skip, .skip]) Try.func84 (by kernel_rfl) (by kernel_rfl) (by kernel_rfl) ?_
    intro Fn LW len cast toNat wrap add sub mul bin lt eq At set part app fz' rep nadd nmax ssize sext sget scat seq slt Wide Flat Ones Room r' post' hC hF hr hp
    generalize he_GEx : r_GEx = qGEx
    cbv
    replace hh := if_or hh
    rcases hh with ⟨b1, hh⟩ | ⟨b1, hh⟩
    · have f2 : (lt p1 1) = true := by cases hC; exact decide_eq_true b1
      rw [f2]; cbv
      subst hr hp
      cases hh
      cases hC; subst he_GEx; first | (simp; done) | (simp <;> first | rfl | omega | grind)
    · have f2 : (lt p1 1) = false := by cases hC; exact decide_eq_false b1
      rw [f2]; cbv
      replace hh := bind_some hh
      obtain ⟨x4, h3, hh⟩ := hh
      have f5 := c_spec_l2Kids h3
      try rw [he_GEx] at f5
      refine ⟨_, _, hF _ _ _ _ _ _ f5 (by cases hC; subst he_GEx; simp) rfl, ?_⟩
      cbv
      replace hh := if_or hh
      rcases hh with ⟨b6, hh⟩ | ⟨b6, hh⟩
      · have f7 : (eq x4 (cast (len (qGEx p0_Kids)))) = true := by cases hC; subst he_GEx; first | exact beq_iff_eq.2 b6 | (simp; done) | (simp; omega) | (simp at b6 ⊢; omega) | (simp at b6 ⊢; exact b6)
        rw [f7]; cbv
        replace hh := if_or hh
        rcases hh with ⟨b8, hh⟩ | ⟨b8, hh⟩
        · have f9 : (lt p0_Sym 0) = true := by cases hC; exact decide_eq_true b8
          rw [f9]; cbv
          subst hr hp
          cases hh
          cases hC; subst he_GEx; first | (simp; done) | (simp <;> first | rfl | omega | grind)
        · have f9 : (lt p0_Sym 0) = false := by cases hC; exact decide_eq_false b8
          rw [f9]; cbv
          replace hh := if_or hh
          rcases hh with ⟨b10, hh⟩ | ⟨b10, hh⟩
          · have f11 : (lt p0_Sym 5) = true := by cases hC; exact decide_eq_true b10
            rw [f11]; cbv
            replace hh := if_or hh
            rcases hh with ⟨b12, hh⟩ | ⟨b12, hh⟩
            · have f13 : (eq p0_Kind 1) = true := by cases hC; exact beq_iff_eq.2 b12
              rw [f13]; cbv
              replace hh := if_or hh
              rcases hh with ⟨b14, hh⟩ | ⟨b14, hh⟩
              · have f15 : (eq p0_Kind 7) = true := by cases hC; exact beq_iff_eq.2 b14
                rw [f15]; cbv
                replace hh := if_or hh
                rcases hh with ⟨b16, hh⟩ | ⟨b16, hh⟩
                · have f17 : (lt p0_N 1) = true := by cases hC; exact decide_eq_true b16
                  rw [f17]; cbv
                  subst hr hp
                  cases hh
                  cases hC; subst he_GEx; first | (simp; done) | (simp <;> first | rfl | omega | grind)
                · have f17 : (lt p0_N 1) = false := by cases hC; exact decide_eq_false b16
                  rw [f17]; cbv
                  replace hh := if_or hh
                  rcases hh with ⟨b18, hh⟩ | ⟨b18, hh⟩
                  · have f19 : (lt 20 p0_N) = true := by cases hC; exact decide_eq_true b18
                    rw [f19]; cbv
                    subst hr hp
                    cases hh
                    cases hC; subst he_GEx; first | (simp; done) | (simp <;> first | rfl | omega | grind)
                  · have f19 : (lt 20 p0_N) = false := by cases hC; exact decide_eq_false b18
                    rw [f19]; cbv
                    rw [f15]; cbv
                    replace hh := bind_some hh
                    obtain ⟨o1, hl1, hq1⟩ := hh
                    refine loop_go3 hC eok mixed
                      (fun s : Nat × Int × Unit => match s with | (_, s30, _) => (⟨[(1, .lit (.int .i64 p1)), (2, .mptr (2, 0) 1 0 0), (5, .lit (.int .i64 s30))], [((2, 0), .box 1 [.lit (.int .i64 p0_Kind), .lit (.int .i64 p0_Sym), .lit (.int .i64 p0_N), .tree (qGEx p0_Kids)])]⟩ : St))
                      (fun s : Nat × Int × Unit => spec_l2Form.l0 k (spec_l2Form.f k) (⟨p0_Kind, p0_Sym, p0_N, p0_Kids⟩ : GEx) p1 s.1 s.2.1 = some o1)
                      (fun s => s.1) (fun _ => .exit 0)
                      (fun x : Unit => match x with | _ => (⟨[], []⟩ : St))
                      (fun x : Unit => some (.ok x) = some o1)
                      (_, _, ()) hl1 ?_ ?_ ?_
                    · rintro ⟨n, t0, ⟨⟩⟩ e1
                      refine cov_of [((2, 0), (2, 0))] ?_
                      cbv
                      all_goals (have e1_0 := congrArg (fun s => s.2.1) e1; dsimp only at e1_0; subst e1_0; cases hC; subst he_GEx; (first | (simp; done) | (simp <;> first | rfl | omega | grind)))
                    · rintro ⟨⟩ hx
                      have hx := Option.some.inj hx
                      subst hx
                      have hh := hq1
                      cbv
                      subst hr hp
                      cases hh
                      cases hC; subst he_GEx; first | (simp; done) | (simp <;> first | rfl | omega | grind)
                    · rintro ⟨n, s30, ⟨⟩⟩ N1 D1 hh hN1 hD1 hQ1
                      replace hN1 := fun σ' n' a0 (h : spec_l2Form.l0 k (spec_l2Form.f k) (⟨p0_Kind, p0_Sym, p0_N, p0_Kids⟩ : GEx) p1 n' a0 = some o1) => hN1 σ' (n', a0, ()) h
                      replace hD1 := fun σ'  (h : some (Except.ok ()) = some o1) => hD1 σ' () h
                      cases n with
                      | zero => dsimp only at hh; unfold spec_l2Form.l0 at hh; cases hh
                      | succ n =>
                      dsimp only at hh
                      unfold spec_l2Form.l0 at hh
                      cbv
                      replace hh := if_or hh
                      rcases hh with ⟨b41, hh⟩ | ⟨b41, hh⟩
                      · have f42 : (lt s30 (cast (len (qGEx p0_Kids)))) = true := by cases hC; subst he_GEx; first | exact decide_eq_true b41 | (simp; done) | (simp; omega) | (simp at b41 ⊢; omega) | (simp at b41 ⊢; exact b41)
                        rw [f42]; cbv
                        replace hh := req_some hh
                        obtain ⟨h43, hh⟩ := hh
                        replace hh := bind_some hh
                        obtain ⟨⟨e44_Kind, e44_Sym, e44_N, e44_Kids⟩, h45, hh⟩ := hh
                        refine ⟨[.lit (.int .i64 e44_Kind), .lit (.int .i64 e44_Sym), .lit (.int .i64 e44_N), .tree (qGEx e44_Kids)], (by cases hC; subst he_GEx; exact decide_eq_false (Int.not_lt.2 (by first | exact h43 | (simp; done) | (simp; omega) | (simp at h43 ⊢; omega) | (simp at h43 ⊢; exact h43)))), (by cases hC; subst he_GEx; first | exact r_GEx_get h45 | simp [h45]), ?_⟩
                        cbv
                        replace hh := bind_some hh
                        obtain ⟨x47, h46, hh⟩ := hh
                        have f48 := (ih k (Nat.lt_succ_self k)) h46
                        try rw [he_GEx] at f48
                        refine ⟨_, _, hF _ _ _ _ _ _ f48 (by cases hC; subst he_GEx; simp) rfl, ?_⟩
                        cbv
                        replace hh := if_or hh
                        rcases hh with ⟨b49, hh⟩ | ⟨b49, hh⟩
                        · have f50 : x47 = true := by exact b49
                          rw [f50]; cbv
                          refine hN1 _ _ _ hh (Nat.lt_succ_self _) ?_
                          rintro ⟨n, t0, ⟨⟩⟩ e1
                          refine cov_of [((2, 0), (2, 0))] ?_
                          cbv
                          all_goals (have e1_0 := congrArg (fun s => s.2.1) e1; dsimp only at e1_0; subst e1_0; cases hC; subst he_GEx; (first | (simp; done) | (simp <;> first | rfl | omega | grind)))
                        · have f50 : x47 = false := by exact Bool.eq_false_iff.2 b49
                          rw [f50]; cbv
                          cases hh
                          have hh : some _ = some _ := hq1
                          refine hQ1 _ _ ?_
                          cbv
                          subst hr hp
                          cases hh
                          cases hC; subst he_GEx; first | (simp; done) | (simp <;> first | rfl | omega | grind)
                      · have f42 : (lt s30 (cast (len (qGEx p0_Kids)))) = false := by cases hC; subst he_GEx; first | exact decide_eq_false b41 | (simp; done) | (simp; omega) | (simp at b41 ⊢; omega) | (simp at b41 ⊢; exact b41)
                        rw [f42]; cbv
                        refine hD1 _  hh ?_
                        rintro ⟨⟩ e1
                        refine cov_of [] ?_
                        cbv
                        all_goals (cases hC; subst he_GEx; (first | (simp; done) | (simp <;> first | rfl | omega | grind)))
              · have f15 : (eq p0_Kind 7) = false := by cases hC; exact beq_false_of_ne b14
                rw [f15]; cbv
                rw [f15]; cbv
                replace hh := if_or hh
                rcases hh with ⟨b51, hh⟩ | ⟨b51, hh⟩
                · have f52 : (eq p0_N 0) = true := by cases hC; exact beq_iff_eq.2 b51
                  rw [f52]; cbv
                  replace hh := bind_some hh
                  obtain ⟨o1, hl1, hq1⟩ := hh
                  refine loop_go3 hC eok mixed
                    (fun s : Nat × Int × Unit => match s with | (_, s63, _) => (⟨[(1, .lit (.int .i64 p1)), (2, .mptr (2, 0) 1 0 0), (5, .lit (.int .i64 s63))], [((2, 0), .box 1 [.lit (.int .i64 p0_Kind), .lit (.int .i64 p0_Sym), .lit (.int .i64 p0_N), .tree (qGEx p0_Kids)])]⟩ : St))
                    (fun s : Nat × Int × Unit => spec_l2Form.l1 k (spec_l2Form.f k) (⟨p0_Kind, p0_Sym, p0_N, p0_Kids⟩ : GEx) p1 s.1 s.2.1 = some o1)
                    (fun s => s.1) (fun _ => .exit 0)
                    (fun x : Unit => match x with | _ => (⟨[], []⟩ : St))
                    (fun x : Unit => some (.ok x) = some o1)
                    (_, _, ()) hl1 ?_ ?_ ?_
                  · rintro ⟨n, t0, ⟨⟩⟩ e1
                    refine cov_of [((2, 0), (2, 0))] ?_
                    cbv
                    all_goals (have e1_0 := congrArg (fun s => s.2.1) e1; dsimp only at e1_0; subst e1_0; cases hC; subst he_GEx; (first | (simp; done) | (simp <;> first | rfl | omega | grind)))
                  · rintro ⟨⟩ hx
                    have hx := Option.some.inj hx
                    subst hx
                    have hh := hq1
                    cbv
                    subst hr hp
                    cases hh
                    cases hC; subst he_GEx; first | (simp; done) | (simp <;> first | rfl | omega | grind)
                  · rintro ⟨n, s63, ⟨⟩⟩ N1 D1 hh hN1 hD1 hQ1
                    replace hN1 := fun σ' n' a0 (h : spec_l2Form.l1 k (spec_l2Form.f k) (⟨p0_Kind, p0_Sym, p0_N, p0_Kids⟩ : GEx) p1 n' a0 = some o1) => hN1 σ' (n', a0, ()) h
                    replace hD1 := fun σ'  (h : some (Except.ok ()) = some o1) => hD1 σ' () h
                    cases n with
                    | zero => dsimp only at hh; unfold spec_l2Form.l1 at hh; cases hh
                    | succ n =>
                    dsimp only at hh
                    unfold spec_l2Form.l1 at hh
                    cbv
                    replace hh := if_or hh
                    rcases hh with ⟨b74, hh⟩ | ⟨b74, hh⟩
                    · have f75 : (lt s63 (cast (len (qGEx p0_Kids)))) = true := by cases hC; subst he_GEx; first | exact decide_eq_true b74 | (simp; done) | (simp; omega) | (simp at b74 ⊢; omega) | (simp at b74 ⊢; exact b74)
                      rw [f75]; cbv
                      replace hh := req_some hh
                      obtain ⟨h76, hh⟩ := hh
                      replace hh := bind_some hh
                      obtain ⟨⟨e77_Kind, e77_Sym, e77_N, e77_Kids⟩, h78, hh⟩ := hh
                      refine ⟨[.lit (.int .i64 e77_Kind), .lit (.int .i64 e77_Sym), .lit (.int .i64 e77_N), .tree (qGEx e77_Kids)], (by cases hC; subst he_GEx; exact decide_eq_false (Int.not_lt.2 (by first | exact h76 | (simp; done) | (simp; omega) | (simp at h76 ⊢; omega) | (simp at h76 ⊢; exact h76)))), (by cases hC; subst he_GEx; first | exact r_GEx_get h78 | simp [h78]), ?_⟩
                      cbv
                      replace hh := bind_some hh
                      obtain ⟨x80, h79, hh⟩ := hh
                      have f81 := (ih k (Nat.lt_succ_self k)) h79
                      try rw [he_GEx] at f81
                      refine ⟨_, _, hF _ _ _ _ _ _ f81 (by cases hC; subst he_GEx; simp) rfl, ?_⟩
                      cbv
                      replace hh := if_or hh
                      rcases hh with ⟨b82, hh⟩ | ⟨b82, hh⟩
                      · have f83 : x80 = true := by exact b82
                        rw [f83]; cbv
                        refine hN1 _ _ _ hh (Nat.lt_succ_self _) ?_
                        rintro ⟨n, t0, ⟨⟩⟩ e1
                        refine cov_of [((2, 0), (2, 0))] ?_
                        cbv
                        all_goals (have e1_0 := congrArg (fun s => s.2.1) e1; dsimp only at e1_0; subst e1_0; cases hC; subst he_GEx; (first | (simp; done) | (simp <;> first | rfl | omega | grind)))
                      · have f83 : x80 = false := by exact Bool.eq_false_iff.2 b82
                        rw [f83]; cbv
                        cases hh
                        have hh : some _ = some _ := hq1
                        refine hQ1 _ _ ?_
                        cbv
                        subst hr hp
                        cases hh
                        cases hC; subst he_GEx; first | (simp; done) | (simp <;> first | rfl | omega | grind)
                    · have f75 : (lt s63 (cast (len (qGEx p0_Kids)))) = false := by cases hC; subst he_GEx; first | exact decide_eq_false b74 | (simp; done) | (simp; omega) | (simp at b74 ⊢; omega) | (simp at b74 ⊢; exact b74)
                      rw [f75]; cbv
                      refine hD1 _  hh ?_
                      rintro ⟨⟩ e1
                      refine cov_of [] ?_
                      cbv
                      all_goals (cases hC; subst he_GEx; (first | (simp; done) | (simp <;> first | rfl | omega | grind)))
                · have f52 : (eq p0_N 0) = false := by cases hC; exact beq_false_of_ne b51
                  rw [f52]; cbv
                  subst hr hp
                  cases hh
                  cases hC; subst he_GEx; first | (simp; done) | (simp <;> first | rfl | omega | grind)
            · have f13 : (eq p0_Kind 1) = false := by cases hC; exact beq_false_of_ne b12
              rw [f13]; cbv
              replace hh := if_or hh
              rcases hh with ⟨b84, hh⟩ | ⟨b84, hh⟩
              · have f85 : (eq p0_Sym 0) = true := by cases hC; exact beq_iff_eq.2 b84
                rw [f85]; cbv
                replace hh := if_or hh
                rcases hh with ⟨b86, hh⟩ | ⟨b86, hh⟩
                · have f87 : (eq p0_Kind 7) = true := by cases hC; exact beq_iff_eq.2 b86
                  rw [f87]; cbv
                  replace hh := if_or hh
                  rcases hh with ⟨b88, hh⟩ | ⟨b88, hh⟩
                  · have f89 : (lt p0_N 1) = true := by cases hC; exact decide_eq_true b88
                    rw [f89]; cbv
                    subst hr hp
                    cases hh
                    cases hC; subst he_GEx; first | (simp; done) | (simp <;> first | rfl | omega | grind)
                  · have f89 : (lt p0_N 1) = false := by cases hC; exact decide_eq_false b88
                    rw [f89]; cbv
                    replace hh := if_or hh
                    rcases hh with ⟨b90, hh⟩ | ⟨b90, hh⟩
                    · have f91 : (lt 20 p0_N) = true := by cases hC; exact decide_eq_true b90
                      rw [f91]; cbv
                      subst hr hp
                      cases hh
                      cases hC; subst he_GEx; first | (simp; done) | (simp <;> first | rfl | omega | grind)
                    · have f91 : (lt 20 p0_N) = false := by cases hC; exact decide_eq_false b90
                      rw [f91]; cbv
                      rw [f87]; cbv
                      replace hh := bind_some hh
                      obtain ⟨o1, hl1, hq1⟩ := hh
                      refine loop_go3 hC eok mixed
                        (fun s : Nat × Int × Unit => match s with | (_, s102, _) => (⟨[(1, .lit (.int .i64 p1)), (2, .mptr (2, 0) 1 0 0), (5, .lit (.int .i64 s102))], [((2, 0), .box 1 [.lit (.int .i64 p0_Kind), .lit (.int .i64 p0_Sym), .lit (.int .i64 p0_N), .tree (qGEx p0_Kids)])]⟩ : St))
                        (fun s : Nat × Int × Unit => spec_l2Form.l2 k (spec_l2Form.f k) (⟨p0_Kind, p0_Sym, p0_N, p0_Kids⟩ : GEx) p1 s.1 s.2.1 = some o1)
                        (fun s => s.1) (fun _ => .exit 0)
                        (fun x : Unit => match x with | _ => (⟨[], []⟩ : St))
                        (fun x : Unit => some (.ok x) = some o1)
                        (_, _, ()) hl1 ?_ ?_ ?_
                      · rintro ⟨n, t0, ⟨⟩⟩ e1
                        refine cov_of [((2, 0), (2, 0))] ?_
                        cbv
                        all_goals (have e1_0 := congrArg (fun s => s.2.1) e1; dsimp only at e1_0; subst e1_0; cases hC; subst he_GEx; (first | (simp; done) | (simp <;> first | rfl | omega | grind)))
                      · rintro ⟨⟩ hx
                        have hx := Option.some.inj hx
                        subst hx
                        have hh := hq1
                        cbv
                        subst hr hp
                        cases hh
                        cases hC; subst he_GEx; first | (simp; done) | (simp <;> first | rfl | omega | grind)
                      · rintro ⟨n, s102, ⟨⟩⟩ N1 D1 hh hN1 hD1 hQ1
                        replace hN1 := fun σ' n' a0 (h : spec_l2Form.l2 k (spec_l2Form.f k) (⟨p0_Kind, p0_Sym, p0_N, p0_Kids⟩ : GEx) p1 n' a0 = some o1) => hN1 σ' (n', a0, ()) h
                        replace hD1 := fun σ'  (h : some (Except.ok ()) = some o1) => hD1 σ' () h
                        cases n with
                        | zero => dsimp only at hh; unfold spec_l2Form.l2 at hh; cases hh
                        | succ n =>
                        dsimp only at hh
                        unfold spec_l2Form.l2 at hh
                        cbv
                        replace hh := if_or hh
                        rcases hh with ⟨b113, hh⟩ | ⟨b113, hh⟩
                        · have f114 : (lt s102 (cast (len (qGEx p0_Kids)))) = true := by cases hC; subst he_GEx; first | exact decide_eq_true b113 | (simp; done) | (simp; omega) | (simp at b113 ⊢; omega) | (simp at b113 ⊢; exact b113)
                          rw [f114]; cbv
                          replace hh := req_some hh
                          obtain ⟨h115, hh⟩ := hh
                          replace hh := bind_some hh
                          obtain ⟨⟨e116_Kind, e116_Sym, e116_N, e116_Kids⟩, h117, hh⟩ := hh
                          refine ⟨[.lit (.int .i64 e116_Kind), .lit (.int .i64 e116_Sym), .lit (.int .i64 e116_N), .tree (qGEx e116_Kids)], (by cases hC; subst he_GEx; exact decide_eq_false (Int.not_lt.2 (by first | exact h115 | (simp; done) | (simp; omega) | (simp at h115 ⊢; omega) | (simp at h115 ⊢; exact h115)))), (by cases hC; subst he_GEx; first | exact r_GEx_get h117 | simp [h117]), ?_⟩
                          cbv
                          replace hh := bind_some hh
                          obtain ⟨x119, h118, hh⟩ := hh
                          have f120 := (ih k (Nat.lt_succ_self k)) h118
                          try rw [he_GEx] at f120
                          refine ⟨_, _, hF _ _ _ _ _ _ f120 (by cases hC; subst he_GEx; simp) rfl, ?_⟩
                          cbv
                          replace hh := if_or hh
                          rcases hh with ⟨b121, hh⟩ | ⟨b121, hh⟩
                          · have f122 : x119 = true := by exact b121
                            rw [f122]; cbv
                            refine hN1 _ _ _ hh (Nat.lt_succ_self _) ?_
                            rintro ⟨n, t0, ⟨⟩⟩ e1
                            refine cov_of [((2, 0), (2, 0))] ?_
                            cbv
                            all_goals (have e1_0 := congrArg (fun s => s.2.1) e1; dsimp only at e1_0; subst e1_0; cases hC; subst he_GEx; (first | (simp; done) | (simp <;> first | rfl | omega | grind)))
                          · have f122 : x119 = false := by exact Bool.eq_false_iff.2 b121
                            rw [f122]; cbv
                            cases hh
                            have hh : some _ = some _ := hq1
                            refine hQ1 _ _ ?_
                            cbv
                            subst hr hp
                            cases hh
                            cases hC; subst he_GEx; first | (simp; done) | (simp <;> first | rfl | omega | grind)
                        · have f114 : (lt s102 (cast (len (qGEx p0_Kids)))) = false := by cases hC; subst he_GEx; first | exact decide_eq_false b113 | (simp; done) | (simp; omega) | (simp at b113 ⊢; omega) | (simp at b113 ⊢; exact b113)
                          rw [f114]; cbv
                          refine hD1 _  hh ?_
                          rintro ⟨⟩ e1
                          refine cov_of [] ?_
                          cbv
                          all_goals (cases hC; subst he_GEx; (first | (simp; done) | (simp <;> first | rfl | omega | grind)))
                · have f87 : (eq p0_Kind 7) = false := by cases hC; exact beq_false_of_ne b86
                  rw [f87]; cbv
                  rw [f87]; cbv
                  replace hh := if_or hh
                  rcases hh with ⟨b123, hh⟩ | ⟨b123, hh⟩
                  · have f124 : (eq p0_N 0) = true := by cases hC; exact beq_iff_eq.2 b123
                    rw [f124]; cbv
                    replace hh := bind_some hh
                    obtain ⟨o1, hl1, hq1⟩ := hh
                    refine loop_go3 hC eok mixed
                      (fun s : Nat × Int × Unit => match s with | (_, s135, _) => (⟨[(1, .lit (.int .i64 p1)), (2, .mptr (2, 0) 1 0 0), (5, .lit (.int .i64 s135))], [((2, 0), .box 1 [.lit (.int .i64 p0_Kind), .lit (.int .i64 p0_Sym), .lit (.int .i64 p0_N), .tree (qGEx p0_Kids)])]⟩ : St))
                      (fun s : Nat × Int × Unit => spec_l2Form.l3 k (spec_l2Form.f k) (⟨p0_Kind, p0_Sym, p0_N, p0_Kids⟩ : GEx) p1 s.1 s.2.1 = some o1)
                      (fun s => s.1) (fun _ => .exit 0)
                      (fun x : Unit => match x with | _ => (⟨[], []⟩ : St))
                      (fun x : Unit => some (.ok x) = some o1)
                      (_, _, ()) hl1 ?_ ?_ ?_
                    · rintro ⟨n, t0, ⟨⟩⟩ e1
                      refine cov_of [((2, 0), (2, 0))] ?_
                      cbv
                      all_goals (have e1_0 := congrArg (fun s => s.2.1) e1; dsimp only at e1_0; subst e1_0; cases hC; subst he_GEx; (first | (simp; done) | (simp <;> first | rfl | omega | grind)))
                    · rintro ⟨⟩ hx
                      have hx := Option.some.inj hx
                      subst hx
                      have hh := hq1
                      cbv
                      subst hr hp
                      cases hh
                      cases hC; subst he_GEx; first | (simp; done) | (simp <;> first | rfl | omega | grind)
                    · rintro ⟨n, s135, ⟨⟩⟩ N1 D1 hh hN1 hD1 hQ1
                      replace hN1 := fun σ' n' a0 (h : spec_l2Form.l3 k (spec_l2Form.f k) (⟨p0_Kind, p0_Sym, p0_N, p0_Kids⟩ : GEx) p1 n' a0 = some o1) => hN1 σ' (n', a0, ()) h
                      replace hD1 := fun σ'  (h : some (Except.ok ()) = some o1) => hD1 σ' () h
                      cases n with
                      | zero => dsimp only at hh; unfold spec_l2Form.l3 at hh; cases hh
                      | succ n =>
                      dsimp only at hh
                      unfold spec_l2Form.l3 at hh
                      cbv
                      replace hh := if_or hh
                      rcases hh with ⟨b146, hh⟩ | ⟨b146, hh⟩
                      · have f147 : (lt s135 (cast (len (qGEx p0_Kids)))) = true := by cases hC; subst he_GEx; first | exact decide_eq_true b146 | (simp; done) | (simp; omega) | (simp at b146 ⊢; omega) | (simp at b146 ⊢; exact b146)
                        rw [f147]; cbv
                        replace hh := req_some hh
                        obtain ⟨h148, hh⟩ := hh
                        replace hh := bind_some hh
                        obtain ⟨⟨e149_Kind, e149_Sym, e149_N, e149_Kids⟩, h150, hh⟩ := hh
                        refine ⟨[.lit (.int .i64 e149_Kind), .lit (.int .i64 e149_Sym), .lit (.int .i64 e149_N), .tree (qGEx e149_Kids)], (by cases hC; subst he_GEx; exact decide_eq_false (Int.not_lt.2 (by first | exact h148 | (simp; done) | (simp; omega) | (simp at h148 ⊢; omega) | (simp at h148 ⊢; exact h148)))), (by cases hC; subst he_GEx; first | exact r_GEx_get h150 | simp [h150]), ?_⟩
                        cbv
                        replace hh := bind_some hh
                        obtain ⟨x152, h151, hh⟩ := hh
                        have f153 := (ih k (Nat.lt_succ_self k)) h151
                        try rw [he_GEx] at f153
                        refine ⟨_, _, hF _ _ _ _ _ _ f153 (by cases hC; subst he_GEx; simp) rfl, ?_⟩
                        cbv
                        replace hh := if_or hh
                        rcases hh with ⟨b154, hh⟩ | ⟨b154, hh⟩
                        · have f155 : x152 = true := by exact b154
                          rw [f155]; cbv
                          refine hN1 _ _ _ hh (Nat.lt_succ_self _) ?_
                          rintro ⟨n, t0, ⟨⟩⟩ e1
                          refine cov_of [((2, 0), (2, 0))] ?_
                          cbv
                          all_goals (have e1_0 := congrArg (fun s => s.2.1) e1; dsimp only at e1_0; subst e1_0; cases hC; subst he_GEx; (first | (simp; done) | (simp <;> first | rfl | omega | grind)))
                        · have f155 : x152 = false := by exact Bool.eq_false_iff.2 b154
                          rw [f155]; cbv
                          cases hh
                          have hh : some _ = some _ := hq1
                          refine hQ1 _ _ ?_
                          cbv
                          subst hr hp
                          cases hh
                          cases hC; subst he_GEx; first | (simp; done) | (simp <;> first | rfl | omega | grind)
                      · have f147 : (lt s135 (cast (len (qGEx p0_Kids)))) = false := by cases hC; subst he_GEx; first | exact decide_eq_false b146 | (simp; done) | (simp; omega) | (simp at b146 ⊢; omega) | (simp at b146 ⊢; exact b146)
                        rw [f147]; cbv
                        refine hD1 _  hh ?_
                        rintro ⟨⟩ e1
                        refine cov_of [] ?_
                        cbv
                        all_goals (cases hC; subst he_GEx; (first | (simp; done) | (simp <;> first | rfl | omega | grind)))
                  · have f124 : (eq p0_N 0) = false := by cases hC; exact beq_false_of_ne b123
                    rw [f124]; cbv
                    subst hr hp
                    cases hh
                    cases hC; subst he_GEx; first | (simp; done) | (simp <;> first | rfl | omega | grind)
              · have f85 : (eq p0_Sym 0) = false := by cases hC; exact beq_false_of_ne b84
                rw [f85]; cbv
                subst hr hp
                cases hh
                cases hC; subst he_GEx; first | (simp; done) | (simp <;> first | rfl | omega | grind)
          · have f11 : (lt p0_Sym 5) = false := by cases hC; exact decide_eq_false b10
            rw [f11]; cbv
            subst hr hp
            cases hh
            cases hC; subst he_GEx; first | (simp; done) | (simp <;> first | rfl | omega | grind)
      · have f7 : (eq x4 (cast (len (qGEx p0_Kids)))) = false := by cases hC; subst he_GEx; first | exact beq_false_of_ne b6 | (simp; done) | (simp; omega) | (simp at b6 ⊢; omega) | (simp at b6 ⊢; exact b6)
        rw [f7]; cbv
        subst hr hp
        cases hh
        cases hC; subst he_GEx; first | (simp; done) | (simp <;> first | rfl | omega | grind)
theorem c_spec_l2Form {k : Nat} {p0 : GEx} {p1 : Int} {r : Bool} (hh : spec_l2Form.f k p0 p1 = some r) : FunW P 84 [.agg [.lit (.int .i64 p0.Kind), .lit (.int .i64 p0.Sym), .lit (.int .i64 p0.N), .tree (r_GEx p0.Kids)], .lit (.int .i64 p1)] [.hole, .hole] (.lit (.bool r)) := (c_scc84 k) hh


theorem c_scc85 : ∀ k : Nat, (∀ {p0 : GEx} {p1 : Int} {r : Int}, spec_l2Many.f k p0 p1 = some r → FunW P 85 [.agg [.lit (.int .i64 p0.Kind), .lit (.int .i64 p0.Sym), .lit (.int .i64 p0.N), .tree (r_GEx p0.Kids)], .lit (.int .i64 p1)] [.hole, .hole] (.lit (.int .i64 r))) := by
  intro k
  induction k using Nat.strongRecOn with
  | _ k ih =>
  · intro p0 p1 r hh
    cases k with
    | zero => unfold spec_l2Many.f at hh; cases hh
    | succ k =>
    obtain ⟨p0_Kind, p0_Sym, p0_N, p0_Kids⟩ := p0
    unfold spec_l2Many.f at hh
    refine fun_go2 eok mixed (ts := [(4, none)]) (rm := [.own]) (gs := [1000000, 1000001]) (pm := [.skip, .skip]) Try.func85 (by kernel_rfl) (by kernel_rfl) (by kernel_rfl) ?_
    intro Fn LW len cast toNat wrap add sub mul bin lt eq At set part app fz' rep nadd nmax ssize sext sget scat seq slt Wide Flat Ones Room r' post' hC hF hr hp
    generalize he_GEx : r_GEx = qGEx
    cbv
    replace hh := bind_some hh
    obtain ⟨o1, hl1, hq1⟩ := hh
    refine loop_go3 hC eok mixed
      (fun s : Nat × Int × Int × Unit => match s with | (_, s11, s12, _) => (⟨[(1, .lit (.int .i64 p1)), (2, .mptr (2, 0) 1 0 0), (5, .lit (.int .i64 s11)), (6, .lit (.int .i64 s12))], [((2, 0), .box 1 [.lit (.int .i64 p0_Kind), .lit (.int .i64 p0_Sym), .lit (.int .i64 p0_N), .tree (qGEx p0_Kids)])]⟩ : St))
      (fun s : Nat × Int × Int × Unit => spec_l2Many.l0 k (spec_l2Many.f k) (⟨p0_Kind, p0_Sym, p0_N, p0_Kids⟩ : GEx) p1 s.1 s.2.1 s.2.2.1 = some o1)
      (fun s => s.1) (fun _ => .exit 0)
      (fun x : Int => match x with | x23 => (⟨[(5, .lit (.int .i64 x23))], []⟩ : St))
      (fun x : Int => some (x) = some o1)
      (_, _, _, ()) hl1 ?_ ?_ ?_
    · rintro ⟨n, t0, t1, ⟨⟩⟩ e1
      refine cov_of [((2, 0), (2, 0))] ?_
      cbv
      all_goals (have e1_0 := congrArg (fun s => s.2.1) e1; dsimp only at e1_0; subst e1_0; have e1_1 := congrArg (fun s => s.2.2.1) e1; dsimp only at e1_1; subst e1_1; cases hC; subst he_GEx; (first | (simp; done) | (simp <;> first | rfl | omega | grind)))
    · rintro x23 hx
      have hx := Option.some.inj hx
      subst hx
      have hh := hq1
      cbv
      subst hr hp
      cases hh
      cases hC; subst he_GEx; first | (simp; done) | (simp <;> first | rfl | omega | grind)
    · rintro ⟨n, s11, s12, ⟨⟩⟩ N1 D1 hh hN1 hD1 hQ1
      replace hN1 := fun σ' n' a0 a1 (h : spec_l2Many.l0 k (spec_l2Many.f k) (⟨p0_Kind, p0_Sym, p0_N, p0_Kids⟩ : GEx) p1 n' a0 a1 = some o1) => hN1 σ' (n', a0, a1, ()) h
      replace hD1 := fun σ' (a0 : Int) (h : some (a0) = some o1) => hD1 σ' a0 h
      cases n with
      | zero => dsimp only at hh; unfold spec_l2Many.l0 at hh; cases hh
      | succ n =>
      dsimp only at hh
      unfold spec_l2Many.l0 at hh
      cbv
      replace hh := if_or hh
      rcases hh with ⟨b24, hh⟩ | ⟨b24, hh⟩
      · have f25 : (lt s12 (cast (len (qGEx p0_Kids)))) = true := by cases hC; subst he_GEx; first | exact decide_eq_true b24 | (simp; done) | (simp; omega) | (simp at b24 ⊢; omega) | (simp at b24 ⊢; exact b24)
        rw [f25]; cbv
        replace hh := if_or hh
        rcases hh with ⟨b26, hh⟩ | ⟨b26, hh⟩
        · have f27 : (lt 0 p1) = true := by cases hC; exact decide_eq_true b26
          rw [f27]; cbv
          replace hh := req_some hh
          obtain ⟨h28, hh⟩ := hh
          replace hh := bind_some hh
          obtain ⟨⟨e29_Kind, e29_Sym, e29_N, e29_Kids⟩, h30, hh⟩ := hh
          refine ⟨[.lit (.int .i64 e29_Kind), .lit (.int .i64 e29_Sym), .lit (.int .i64 e29_N), .tree (qGEx e29_Kids)], (by cases hC; subst he_GEx; exact decide_eq_false (Int.not_lt.2 (by first | exact h28 | (simp; done) | (simp; omega) | (simp at h28 ⊢; omega) | (simp at h28 ⊢; exact h28)))), (by cases hC; subst he_GEx; first | exact r_GEx_get h30 | simp [h30]), ?_⟩
          cbv
          replace hh := bind_some hh
          obtain ⟨x32, h31, hh⟩ := hh
          have f33 := (ih k (Nat.lt_succ_self k)) h31
          try rw [he_GEx] at f33
          refine ⟨_, _, hF _ _ _ _ _ _ f33 (by cases hC; subst he_GEx; simp) rfl, ?_⟩
          cbv
          refine hN1 _ _ _ _ hh (Nat.lt_succ_self _) ?_
          rintro ⟨n, t0, t1, ⟨⟩⟩ e1
          refine cov_of [((2, 0), (2, 0))] ?_
          cbv
          all_goals (have e1_0 := congrArg (fun s => s.2.1) e1; dsimp only at e1_0; subst e1_0; have e1_1 := congrArg (fun s => s.2.2.1) e1; dsimp only at e1_1; subst e1_1; cases hC; subst he_GEx; (first | (simp; done) | (simp <;> first | rfl | omega | grind)))
        · have f27 : (lt 0 p1) = false := by cases hC; exact decide_eq_false b26
          rw [f27]; cbv
          refine hD1 _ _ hh ?_
          rintro t0 e1
          refine cov_of [] ?_
          cbv
          all_goals (subst e1; cases hC; subst he_GEx; (first | (simp; done) | (simp <;> first | rfl | omega | grind)))
      · have f25 : (lt s12 (cast (len (qGEx p0_Kids)))) = false := by cases hC; subst he_GEx; first | exact decide_eq_false b24 | (simp; done) | (simp; omega) | (simp at b24 ⊢; omega) | (simp at b24 ⊢; exact b24)
        rw [f25]; cbv
        refine hD1 _ _ hh ?_
        rintro t0 e1
        refine cov_of [] ?_
        cbv
        all_goals (subst e1; cases hC; subst he_GEx; (first | (simp; done) | (simp <;> first | rfl | omega | grind)))
theorem c_spec_l2Many {k : Nat} {p0 : GEx} {p1 : Int} {r : Int} (hh : spec_l2Many.f k p0 p1 = some r) : FunW P 85 [.agg [.lit (.int .i64 p0.Kind), .lit (.int .i64 p0.Sym), .lit (.int .i64 p0.N), .tree (r_GEx p0.Kids)], .lit (.int .i64 p1)] [.hole, .hole] (.lit (.int .i64 r)) := (c_scc85 k) hh


theorem c_spec_ExOk {k : Nat} {p0 : GEx} {r : Bool} (hh : spec_ExOk.f k p0 = some r) : FunW P 60 [.agg [.lit (.int .i64 p0.Kind), .lit (.int .i64 p0.Sym), .lit (.int .i64 p0.N), .tree (r_GEx p0.Kids)]] [.hole] (.lit (.bool r)) := by
  obtain ⟨p0_Kind, p0_Sym, p0_N, p0_Kids⟩ := p0
  unfold spec_ExOk.f at hh
  refine fun_go2 eok mixed (ts := [(2, none)]) (rm := [.own]) (gs := [1000000]) (pm := [.skip]) Try.func60 (by kernel_rfl) (by kernel_rfl) (by kernel_rfl) ?_
  intro Fn LW len cast toNat wrap add sub mul bin lt eq At set part app fz' rep nadd nmax ssize sext sget scat seq slt Wide Flat Ones Room r' post' hC hF hr hp
  generalize he_GEx : r_GEx = qGEx
  cbv
  replace hh := bind_some hh
  obtain ⟨x2, h1, hh⟩ := hh
  have f3 := c_spec_l2Form h1
  try rw [he_GEx] at f3
  refine ⟨_, _, hF _ _ _ _ _ _ f3 (by cases hC; subst he_GEx; simp) rfl, ?_⟩
  cbv
  replace hh := if_or hh
  rcases hh with ⟨b4, hh⟩ | ⟨b4, hh⟩
  · have f5 : x2 = true := by exact b4
    rw [f5]; cbv
    replace hh := bind_some hh
    obtain ⟨x7, h6, hh⟩ := hh
    have f8 := c_spec_l2Many h6
    try rw [he_GEx] at f8
    refine ⟨_, _, hF _ _ _ _ _ _ f8 (by cases hC; subst he_GEx; simp) rfl, ?_⟩
    cbv
    subst hr hp
    cases hh
    cases hC; subst he_GEx; first | (simp; done) | (simp <;> first | rfl | omega | grind)
  · have f5 : x2 = false := by exact Bool.eq_false_iff.2 b4
    rw [f5]; cbv
    subst hr hp
    cases hh
    cases hC; subst he_GEx; first | (simp; done) | (simp <;> first | rfl | omega | grind)

theorem c_scc61 : ∀ k : Nat, (∀ {p0 : GEx} {p1 : List Int} {r : GEx}, spec_l12Ex.f k p0 p1 = some r → FunW P 61 [.agg [.lit (.int .i64 p0.Kind), .lit (.int .i64 p0.Sym), .lit (.int .i64 p0.N), .tree (r_GEx p0.Kids)], .tree (r_Int p1)] [.hole, .hole] (.agg [.lit (.int .i64 r.Kind), .lit (.int .i64 r.Sym), .lit (.int .i64 r.N), .inl 4 (r_GExO r.Kids)])) := by
  intro k
  induction k using Nat.strongRecOn with
  | _ k ih =>
  · intro p0 p1 r hh
    cases k with
    | zero => unfold spec_l12Ex.f at hh; cases hh
    | succ k =>
    obtain ⟨p0_Kind, p0_Sym, p0_N, p0_Kids⟩ := p0
    unfold spec_l12Ex.f at hh
    refine fun_go2 eok mixed (ts := [(4, some 53)]) (rm := [.own]) (gs := [1000000, 1000001]) (pm := [.skip, .skip]) Try.func61 (by kernel_rfl) (by kernel_rfl) (by kernel_rfl) ?_
    intro Fn LW len cast toNat wrap add sub mul bin lt eq At set part app fz' rep nadd nmax ssize sext sget scat seq slt Wide Flat Ones Room r' post' hC hF hr hp
    generalize he_GEx : r_GEx = qGEx
    generalize he_GExO : r_GExO = qGExO
    generalize he_Int : r_Int = qInt
    cbv
    replace hh := if_or hh
    rcases hh with ⟨b1, hh⟩ | ⟨b1, hh⟩
    · have f2 : (eq p0_Kind 1) = true := by cases hC; exact beq_iff_eq.2 b1
      rw [f2]; cbv
      replace hh := req_some hh
      obtain ⟨h3, hh⟩ := hh
      try dsimp only at h3
      replace hh := bind_some hh
      obtain ⟨e4, h5, hh⟩ := hh
      refine ⟨[.lit (.int .i64 e4)], (by cases hC; subst he_GEx he_GExO he_Int; exact decide_eq_false (Int.not_lt.2 (by first | exact h3 | (simp; done) | (simp; omega) | (simp at h3 ⊢; omega) | (simp at h3 ⊢; exact h3)))), (by cases hC; subst he_GEx he_GExO he_Int; first | exact r_Int_get h5 | simp [h5]), ?_⟩
      cbv
      replace hh := bind_some hh
      obtain ⟨o1, hl1, hq1⟩ := hh
      refine loop_go3 hC eok mixed
        (fun s : Nat × (List GEx) × Int × Unit => match s with | (_, s15, s16, _) => (⟨[(1, .tree (qInt p1)), (2, .mptr (2, 0) 1 0 0), (4, .mptr (4, 0) 1 0 0), (5, .mptr (5, 0) 1 0 0), (6, .lit (.int .i64 s16))], [((2, 0), .box 1 [.lit (.int .i64 p0_Kind), .lit (.int .i64 p0_Sym), .lit (.int .i64 p0_N), .tree (qGEx p0_Kids)]), ((4, 0), .box 1 [.lit (.int .i64 0), .lit (.int .i64 0), .lit (.int .i64 0), .lit (.slice none 0 0)]), ((5, 0), .box 1 [.lit (.int .i64 p0_Kind), .lit (.int .i64 e4), .lit (.int .i64 p0_N), .ref (5, 53) 1 0 (len (qGExO s15))]), ((5, 53), .arr 1 4 (qGExO s15))]⟩ : St))
        (fun s : Nat × (List GEx) × Int × Unit => spec_l12Ex.l0 k (spec_l12Ex.f k) (⟨p0_Kind, p0_Sym, p0_N, p0_Kids⟩ : GEx) p1 s.1 s.2.1 s.2.2.1 = some o1)
        (fun s => s.1) (fun _ => .exit 0)
        (fun x : List GEx => match x with | x26 => (⟨[(4, .mptr (4, 0) 1 0 0), (5, .mptr (5, 0) 1 0 0)], [((4, 0), .box 1 [.lit (.int .i64 0), .lit (.int .i64 0), .lit (.int .i64 0), .lit (.slice none 0 0)]), ((5, 0), .box 1 [.lit (.int .i64 p0_Kind), .lit (.int .i64 e4), .lit (.int .i64 p0_N), .ref (5, 53) 1 0 (len (qGExO x26))]), ((5, 53), .arr 1 4 (qGExO x26))]⟩ : St))
        (fun x : List GEx => some (x) = some o1)
        (_, _, _, ()) hl1 ?_ ?_ ?_
      · rintro ⟨n, t0, t1, ⟨⟩⟩ e1
        refine cov_of [((2, 0), (2, 0)), ((4, 0), (4, 0)), ((5, 0), (5, 0))] ?_
        cbv
        all_goals (have e1_0 := congrArg (fun s => s.2.1) e1; dsimp only at e1_0; subst e1_0; have e1_1 := congrArg (fun s => s.2.2.1) e1; dsimp only at e1_1; subst e1_1; cases hC; subst he_GEx he_GExO he_Int; (first | (simp; done) | (simp <;> first | rfl | omega | grind)))
      · rintro x26 hx
        have hx := Option.some.inj hx
        subst hx
        have hh := hq1
        cbv
        subst hr hp
        cases hh
        cases hC; subst he_GEx he_GExO he_Int; first | (simp; done) | (simp <;> first | rfl | omega | grind)
      · rintro ⟨n, s15, s16, ⟨⟩⟩ N1 D1 hh hN1 hD1 hQ1
        replace hN1 := fun σ' n' a0 a1 (h : spec_l12Ex.l0 k (spec_l12Ex.f k) (⟨p0_Kind, p0_Sym, p0_N, p0_Kids⟩ : GEx) p1 n' a0 a1 = some o1) => hN1 σ' (n', a0, a1, ()) h
        replace hD1 := fun σ' (a0 : List GEx) (h : some (a0) = some o1) => hD1 σ' a0 h
        cases n with
        | zero => dsimp only at hh; unfold spec_l12Ex.l0 at hh; cases hh
        | succ n =>
        dsimp only at hh
        unfold spec_l12Ex.l0 at hh
        cbv
        replace hh := if_or hh
        rcases hh with ⟨b27, hh⟩ | ⟨b27, hh⟩
        · have f28 : (lt s16 (cast (len (qGEx p0_Kids)))) = true := by cases hC; subst he_GEx he_GExO he_Int; first | exact decide_eq_true b27 | (simp; done) | (simp; omega) | (simp at b27 ⊢; omega) | (simp at b27 ⊢; exact b27)
          rw [f28]; cbv
          replace hh := req_some hh
          obtain ⟨h29, hh⟩ := hh
          replace hh := bind_some hh
          obtain ⟨⟨e30_Kind, e30_Sym, e30_N, e30_Kids⟩, h31, hh⟩ := hh
          refine ⟨[.lit (.int .i64 e30_Kind), .lit (.int .i64 e30_Sym), .lit (.int .i64 e30_N), .tree (qGEx e30_Kids)], (by cases hC; subst he_GEx he_GExO he_Int; exact decide_eq_false (Int.not_lt.2 (by first | exact h29 | (simp; done) | (simp; omega) | (simp at h29 ⊢; omega) | (simp at h29 ⊢; exact h29)))), (by cases hC; subst he_GEx he_GExO he_Int; first | exact r_GEx_get h31 | simp [h31]), ?_⟩
          cbv
          replace hh := bind_some hh
          obtain ⟨⟨x33_Kind, x33_Sym, x33_N, x33_Kids⟩, h32, hh⟩ := hh
          have f34 := (ih k (Nat.lt_succ_self k)) h32
          try rw [he_GEx] at f34
          try rw [he_GExO] at f34
          try rw [he_Int] at f34
          refine ⟨_, _, hF _ _ _ _ _ _ f34 (by cases hC; subst he_GEx he_GExO he_Int; simp) rfl, ?_⟩
          cbv
          replace hh := req_some hh
          obtain ⟨h35, hh⟩ := hh
          refine ⟨⟨(by cases hC; subst he_GEx he_GExO he_Int; simp), (by cases hC; subst he_GEx he_GExO he_Int; first | exact r_GExO_ones _ | (simp [ocell]; done))⟩, ?_⟩
          refine ⟨⟨(by cases hC; subst he_GEx he_GExO he_Int; first | (simp; done) | (simp; first | omega | (simp only [natc] at *; omega))), by cases hC; subst he_GEx he_GExO he_Int; first | exact h35 | (simp; done) | (simp; omega) | (simp at h35 ⊢; omega) | (simp at h35 ⊢; exact h35)⟩, ?_⟩
          refine hN1 _ _ _ _ hh (Nat.lt_succ_self _) ?_
          rintro ⟨n, t0, t1, ⟨⟩⟩ e1
          refine cov_of [((2, 0), (2, 0)), ((4, 0), (4, 0)), ((5, 0), (5, 0)), ((5, 53), (40, 0))] ?_
          cbv
          all_goals (have e1_0 := congrArg (fun s => s.2.1) e1; dsimp only at e1_0; subst e1_0; have e1_1 := congrArg (fun s => s.2.2.1) e1; dsimp only at e1_1; subst e1_1; cases hC; subst he_GEx he_GExO he_Int; (first | (simp; done) | (simp <;> first | rfl | omega | grind)))
        · have f28 : (lt s16 (cast (len (qGEx p0_Kids)))) = false := by cases hC; subst he_GEx he_GExO he_Int; first | exact decide_eq_false b27 | (simp; done) | (simp; omega) | (simp at b27 ⊢; omega) | (simp at b27 ⊢; exact b27)
          rw [f28]; cbv
          refine hD1 _ _ hh ?_
          rintro t0 e1
          refine cov_of [((4, 0), (4, 0)), ((5, 0), (5, 0)), ((5, 53), (5, 53))] ?_
          cbv
          all_goals (subst e1; cases hC; subst he_GEx he_GExO he_Int; (first | (simp; done) | (simp <;> first | rfl | omega | grind)))
    · have f2 : (eq p0_Kind 1) = false := by cases hC; exact beq_false_of_ne b1
      rw [f2]; cbv
      replace hh := bind_some hh
      obtain ⟨o1, hl1, hq1⟩ := hh
      refine loop_go3 hC eok mixed
        (fun s : Nat × (List GEx) × Int × Unit => match s with | (_, s45, s46, _) => (⟨[(1, .tree (qInt p1)), (2, .mptr (2, 0) 1 0 0), (4, .mptr (4, 0) 1 0 0), (5, .mptr (5, 0) 1 0 0), (6, .lit (.int .i64 s46))], [((2, 0), .box 1 [.lit (.int .i64 p0_Kind), .lit (.int .i64 p0_Sym), .lit (.int .i64 p0_N), .tree (qGEx p0_Kids)]), ((4, 0), .box 1 [.lit (.int .i64 0), .lit (.int .i64 0), .lit (.int .i64 0), .lit (.slice none 0 0)]), ((5, 0), .box 1 [.lit (.int .i64 p0_Kind), .lit (.int .i64 p0_Sym), .lit (.int .i64 p0_N), .ref (5, 53) 1 0 (len (qGExO s45))]), ((5, 53), .arr 1 4 (qGExO s45))]⟩ : St))
        (fun s : Nat × (List GEx) × Int × Unit => spec_l12Ex.l1 k (spec_l12Ex.f k) (⟨p0_Kind, p0_Sym, p0_N, p0_Kids⟩ : GEx) p1 s.1 s.2.1 s.2.2.1 = some o1)
        (fun s => s.1) (fun _ => .exit 0)
        (fun x : List GEx => match x with | x56 => (⟨[(4, .mptr (4, 0) 1 0 0), (5, .mptr (5, 0) 1 0 0)], [((4, 0), .box 1 [.lit (.int .i64 0), .lit (.int .i64 0), .lit (.int .i64 0), .lit (.slice none 0 0)]), ((5, 0), .box 1 [.lit (.int .i64 p0_Kind), .lit (.int .i64 p0_Sym), .lit (.int .i64 p0_N), .ref (5, 53) 1 0 (len (qGExO x56))]), ((5, 53), .arr 1 4 (qGExO x56))]⟩ : St))
        (fun x : List GEx => some (x) = some o1)
        (_, _, _, ()) hl1 ?_ ?_ ?_
      · rintro ⟨n, t0, t1, ⟨⟩⟩ e1
        refine cov_of [((2, 0), (2, 0)), ((4, 0), (4, 0)), ((5, 0), (5, 0))] ?_
        cbv
        all_goals (have e1_0 := congrArg (fun s => s.2.1) e1; dsimp only at e1_0; subst e1_0; have e1_1 := congrArg (fun s => s.2.2.1) e1; dsimp only at e1_1; subst e1_1; cases hC; subst he_GEx he_GExO he_Int; (first | (simp; done) | (simp <;> first | rfl | omega | grind)))
      · rintro x56 hx
        have hx := Option.some.inj hx
        subst hx
        have hh := hq1
        cbv
        subst hr hp
        cases hh
        cases hC; subst he_GEx he_GExO he_Int; first | (simp; done) | (simp <;> first | rfl | omega | grind)
      · rintro ⟨n, s45, s46, ⟨⟩⟩ N1 D1 hh hN1 hD1 hQ1
        replace hN1 := fun σ' n' a0 a1 (h : spec_l12Ex.l1 k (spec_l12Ex.f k) (⟨p0_Kind, p0_Sym, p0_N, p0_Kids⟩ : GEx) p1 n' a0 a1 = some o1) => hN1 σ' (n', a0, a1, ()) h
        replace hD1 := fun σ' (a0 : List GEx) (h : some (a0) = some o1) => hD1 σ' a0 h
        cases n with
        | zero => dsimp only at hh; unfold spec_l12Ex.l1 at hh; cases hh
        | succ n =>
        dsimp only at hh
        unfold spec_l12Ex.l1 at hh
        cbv
        replace hh := if_or hh
        rcases hh with ⟨b57, hh⟩ | ⟨b57, hh⟩
        · have f58 : (lt s46 (cast (len (qGEx p0_Kids)))) = true := by cases hC; subst he_GEx he_GExO he_Int; first | exact decide_eq_true b57 | (simp; done) | (simp; omega) | (simp at b57 ⊢; omega) | (simp at b57 ⊢; exact b57)
          rw [f58]; cbv
          replace hh := req_some hh
          obtain ⟨h59, hh⟩ := hh
          replace hh := bind_some hh
          obtain ⟨⟨e60_Kind, e60_Sym, e60_N, e60_Kids⟩, h61, hh⟩ := hh
          refine ⟨[.lit (.int .i64 e60_Kind), .lit (.int .i64 e60_Sym), .lit (.int .i64 e60_N), .tree (qGEx e60_Kids)], (by cases hC; subst he_GEx he_GExO he_Int; exact decide_eq_false (Int.not_lt.2 (by first | exact h59 | (simp; done) | (simp; omega) | (simp at h59 ⊢; omega) | (simp at h59 ⊢; exact h59)))), (by cases hC; subst he_GEx he_GExO he_Int; first | exact r_GEx_get h61 | simp [h61]), ?_⟩
          cbv
          replace hh := bind_some hh
          obtain ⟨⟨x63_Kind, x63_Sym, x63_N, x63_Kids⟩, h62, hh⟩ := hh
          have f64 := (ih k (Nat.lt_succ_self k)) h62
          try rw [he_GEx] at f64
          try rw [he_GExO] at f64
          try rw [he_Int] at f64
          refine ⟨_, _, hF _ _ _ _ _ _ f64 (by cases hC; subst he_GEx he_GExO he_Int; simp) rfl, ?_⟩
          cbv
          replace hh := req_some hh
          obtain ⟨h65, hh⟩ := hh
          refine ⟨⟨(by cases hC; subst he_GEx he_GExO he_Int; simp), (by cases hC; subst he_GEx he_GExO he_Int; first | exact r_GExO_ones _ | (simp [ocell]; done))⟩, ?_⟩
          refine ⟨⟨(by cases hC; subst he_GEx he_GExO he_Int; first | (simp; done) | (simp; first | omega | (simp only [natc] at *; omega))), by cases hC; subst he_GEx he_GExO he_Int; first | exact h65 | (simp; done) | (simp; omega) | (simp at h65 ⊢; omega) | (simp at h65 ⊢; exact h65)⟩, ?_⟩
          refine hN1 _ _ _ _ hh (Nat.lt_succ_self _) ?_
          rintro ⟨n, t0, t1, ⟨⟩⟩ e1
          refine cov_of [((2, 0), (2, 0)), ((4, 0), (4, 0)), ((5, 0), (5, 0)), ((5, 53), (40, 0))] ?_
          cbv
          all_goals (have e1_0 := congrArg (fun s => s.2.1) e1; dsimp only at e1_0; subst e1_0; have e1_1 := congrArg (fun s => s.2.2.1) e1; dsimp only at e1_1; subst e1_1; cases hC; subst he_GEx he_GExO he_Int; (first | (simp; done) | (simp <;> first | rfl | omega | grind)))
        · have f58 : (lt s46 (cast (len (qGEx p0_Kids)))) = false := by cases hC; subst he_GEx he_GExO he_Int; first | exact decide_eq_false b57 | (simp; done) | (simp; omega) | (simp at b57 ⊢; omega) | (simp at b57 ⊢; exact b57)
          rw [f58]; cbv
          refine hD1 _ _ hh ?_
          rintro t0 e1
          refine cov_of [((4, 0), (4, 0)), ((5, 0), (5, 0)), ((5, 53), (5, 53))] ?_
          cbv
          all_goals (subst e1; cases hC; subst he_GEx he_GExO he_Int; (first | (simp; done) | (simp <;> first | rfl | omega | grind)))
theorem c_spec_l12Ex {k : Nat} {p0 : GEx} {p1 : List Int} {r : GEx} (hh : spec_l12Ex.f k p0 p1 = some r) : FunW P 61 [.agg [.lit (.int .i64 p0.Kind), .lit (.int .i64 p0.Sym), .lit (.int .i64 p0.N), .tree (r_GEx p0.Kids)], .tree (r_Int p1)] [.hole, .hole] (.agg [.lit (.int .i64 r.Kind), .lit (.int .i64 r.Sym), .lit (.int .i64 r.N), .inl 4 (r_GExO r.Kids)]) := (c_scc61 k) hh


theorem c_spec_TurnEx {k : Nat} {p0 : GEx} {p1 : List Int} {r : GEx} (hh : spec_TurnEx.f k p0 p1 = some r) : FunW P 27 [.agg [.lit (.int .i64 p0.Kind), .lit (.int .i64 p0.Sym), .lit (.int .i64 p0.N), .tree (r_GEx p0.Kids)], .tree (r_Int p1)] [.hole, .hole] (.agg [.lit (.int .i64 r.Kind), .lit (.int .i64 r.Sym), .lit (.int .i64 r.N), .inl 4 (r_GExO r.Kids)]) := by
  obtain ⟨p0_Kind, p0_Sym, p0_N, p0_Kids⟩ := p0
  unfold spec_TurnEx.f at hh
  refine fun_go2 eok mixed (ts := [(4, some 53)]) (rm := [.own]) (gs := [1000000, 1000001]) (pm := [.skip, .skip]) Try.func27 (by kernel_rfl) (by kernel_rfl) (by kernel_rfl) ?_
  intro Fn LW len cast toNat wrap add sub mul bin lt eq At set part app fz' rep nadd nmax ssize sext sget scat seq slt Wide Flat Ones Room r' post' hC hF hr hp
  generalize he_GEx : r_GEx = qGEx
  generalize he_GExO : r_GExO = qGExO
  generalize he_Int : r_Int = qInt
  cbv
  replace hh := bind_some hh
  obtain ⟨x2, h1, hh⟩ := hh
  have f3 := c_spec_ExOk h1
  try rw [he_GEx] at f3
  try rw [he_GExO] at f3
  try rw [he_Int] at f3
  refine ⟨_, _, hF _ _ _ _ _ _ f3 (by cases hC; subst he_GEx he_GExO he_Int; simp) rfl, ?_⟩
  cbv
  replace hh := if_or hh
  rcases hh with ⟨b4, hh⟩ | ⟨b4, hh⟩
  · have f5 : x2 = true := by exact b4
    rw [f5]; cbv
    replace hh := bind_some hh
    obtain ⟨x7, h6, hh⟩ := hh
    have f8 := c_spec_TurnBy h6
    try rw [he_GEx] at f8
    try rw [he_GExO] at f8
    try rw [he_Int] at f8
    refine ⟨_, _, hF _ _ _ _ _ _ f8 (by cases hC; subst he_GEx he_GExO he_Int; simp) rfl, ?_⟩
    cbv
    replace hh := if_or hh
    rcases hh with ⟨b9, hh⟩ | ⟨b9, hh⟩
    · have f10 : x7 = true := by exact b9
      rw [f10]; cbv
      replace hh := bind_some hh
      obtain ⟨⟨x12_Kind, x12_Sym, x12_N, x12_Kids⟩, h11, hh⟩ := hh
      have f13 := c_spec_l12Ex h11
      try rw [he_GEx] at f13
      try rw [he_GExO] at f13
      try rw [he_Int] at f13
      refine ⟨_, _, hF _ _ _ _ _ _ f13 (by cases hC; subst he_GEx he_GExO he_Int; simp) rfl, ?_⟩
      cbv
      subst hr hp
      cases hh
      cases hC; subst he_GEx he_GExO he_Int; first | (simp; done) | (simp <;> first | rfl | omega | grind)
    · have f10 : x7 = false := by exact Bool.eq_false_iff.2 b9
      rw [f10]; cbv
      refine ⟨4, ?_⟩
      cbv
      subst hr hp
      cases hh
      cases hC; subst he_GEx he_GExO he_Int; first | (simp; done) | (simp <;> first | rfl | omega | grind)
  · have f5 : x2 = false := by exact Bool.eq_false_iff.2 b4
    rw [f5]; cbv
    refine ⟨4, ?_⟩
    cbv
    subst hr hp
    cases hh
    cases hC; subst he_GEx he_GExO he_Int; first | (simp; done) | (simp <;> first | rfl | omega | grind)
theorem c_spec_TurnEx_L0_1 {k : Nat} {p0 : GEx} {p1 : List Int} {r : GEx} (hh : spec_TurnEx.f k p0 p1 = some r) : FunW P 27 [.agg [.lit (.int .i64 p0.Kind), .lit (.int .i64 p0.Sym), .lit (.int .i64 p0.N), .inl 4 (r_GExO p0.Kids)], .inl 1 (r_Int p1)] [.agg [.lit (.int .i64 p0.Kind), .lit (.int .i64 p0.Sym), .lit (.int .i64 p0.N), .inl 4 (r_GExO p0.Kids)], .inl 1 (r_Int p1)] (.agg [.lit (.int .i64 r.Kind), .lit (.int .i64 r.Sym), .lit (.int .i64 r.N), .inl 4 (r_GExO r.Kids)]) :=
  (c_spec_TurnEx hh).lend (by simp [Vm.ownd, owndL, -r_GExO_map, r_GExO_ownd]) (.lend (by simp [-r_GExO_map, -r_Int_map, -r_GEx_map, Vm.fz, fzCells, r_GExO_fz, r_Int_fz]) (.lend (congrArg A.tree (r_Int_fz _).symm) .nil))

theorem c_scc86 : ∀ k : Nat, (∀ {p0 : GEx} {r : Int × Int}, impl_Ex_size.f k p0 = some r → FunW P 86 [.agg [.lit (.int .i64 p0.Kind), .lit (.int .i64 p0.Sym), .lit (.int .i64 p0.N), .tree (r_GEx p0.Kids)]] [.hole] (.tup [.lit (.int .i64 r.1), .lit (.int .i64 r.2)])) := by
  intro k
  induction k using Nat.strongRecOn with
  | _ k ih =>
  · intro p0 r hh
    cases k with
    | zero => unfold impl_Ex_size.f at hh; cases hh
    | succ k =>
    obtain ⟨p0_Kind, p0_Sym, p0_N, p0_Kids⟩ := p0
    unfold impl_Ex_size.f at hh
    refine fun_go2 eok mixed (ts := [(2, none), (3, none)]) (rm := [.own, .own]) (gs := [1000000]) (pm := [.skip]) Try.func86 (by kernel_rfl) (by kernel_rfl) (by kernel_rfl) ?_
    intro Fn LW len cast toNat wrap add sub mul bin lt eq At set part app fz' rep nadd nmax ssize sext sget scat seq slt Wide Flat Ones Room r' post' hC hF hr hp
    generalize he_GEx : r_GEx = qGEx
    cbv
    replace hh := bind_some hh
    obtain ⟨o1, hl1, hq1⟩ := hh
    refine loop_go3 hC eok mixed
      (fun s : Nat × Int × Int × Int × Unit => match s with | (_, s11, s12, s13, _) => (⟨[(4, .lit (.int .i64 s11)), (5, .lit (.int .i64 s12)), (11, .tree (qGEx p0_Kids)), (12, .lit (.int .i64 (cast (len (qGEx p0_Kids))))), (13, .lit (.int .i64 s13))], []⟩ : St))
      (fun s : Nat × Int × Int × Int × Unit => impl_Ex_size.l0 k (impl_Ex_size.f k) (⟨p0_Kind, p0_Sym, p0_N, p0_Kids⟩ : GEx) s.1 s.2.1 s.2.2.1 s.2.2.2.1 = some o1)
      (fun s => s.1) (fun _ => .exit 0)
      (fun x : Int × Int => match x with | (x24, x25) => (⟨[(4, .lit (.int .i64 x24)), (5, .lit (.int .i64 x25))], []⟩ : St))
      (fun x : Int × Int => some (x) = some o1)
      (_, _, _, _, ()) hl1 ?_ ?_ ?_
    · rintro ⟨n, t0, t1, t2, ⟨⟩⟩ e1
      refine cov_of [] ?_
      cbv
      all_goals (have e1_0 := congrArg (fun s => s.2.1) e1; dsimp only at e1_0; subst e1_0; have e1_1 := congrArg (fun s => s.2.2.1) e1; dsimp only at e1_1; subst e1_1; have e1_2 := congrArg (fun s => s.2.2.2.1) e1; dsimp only at e1_2; subst e1_2; cases hC; subst he_GEx; (first | (simp; done) | (simp <;> first | rfl | omega | grind)))
    · rintro ⟨x24, x25⟩ hx
      have hx := Option.some.inj hx
      subst hx
      have hh := hq1
      cbv
      subst hr hp
      cases hh
      cases hC; subst he_GEx; first | (simp; done) | (simp <;> first | rfl | omega | grind)
    · rintro ⟨n, s11, s12, s13, ⟨⟩⟩ N1 D1 hh hN1 hD1 hQ1
      replace hN1 := fun σ' n' a0 a1 a2 (h : impl_Ex_size.l0 k (impl_Ex_size.f k) (⟨p0_Kind, p0_Sym, p0_N, p0_Kids⟩ : GEx) n' a0 a1 a2 = some o1) => hN1 σ' (n', a0, a1, a2, ()) h
      replace hD1 := fun σ' (a0 : Int) (a1 : Int) (h : some ((a0, a1)) = some o1) => hD1 σ' (a0, a1) h
      cases n with
      | zero => dsimp only at hh; unfold impl_Ex_size.l0 at hh; cases hh
      | succ n =>
      dsimp only at hh
      unfold impl_Ex_size.l0 at hh
      cbv
      replace hh := if_or hh
      rcases hh with ⟨b26, hh⟩ | ⟨b26, hh⟩
      · have f27 : (lt s13 (cast (len (qGEx p0_Kids)))) = true := by cases hC; subst he_GEx; first | exact decide_eq_true b26 | (simp; done) | (simp; omega) | (simp at b26 ⊢; omega) | (simp at b26 ⊢; exact b26)
        rw [f27]; cbv
        replace hh := req_some hh
        obtain ⟨h28, hh⟩ := hh
        replace hh := bind_some hh
        obtain ⟨⟨e29_Kind, e29_Sym, e29_N, e29_Kids⟩, h30, hh⟩ := hh
        refine ⟨[.lit (.int .i64 e29_Kind), .lit (.int .i64 e29_Sym), .lit (.int .i64 e29_N), .tree (qGEx e29_Kids)], (by cases hC; subst he_GEx; exact decide_eq_false (Int.not_lt.2 (by first | exact h28 | (simp; done) | (simp; omega) | (simp at h28 ⊢; omega) | (simp at h28 ⊢; exact h28)))), (by cases hC; subst he_GEx; first | exact r_GEx_get h30 | simp [h30]), ?_⟩
        cbv
        replace hh := bind_some hh
        obtain ⟨⟨x32_0, x32_1⟩, h31, hh⟩ := hh
        have f33 := (ih k (Nat.lt_succ_self k)) h31
        try rw [he_GEx] at f33
        refine ⟨_, _, hF _ _ _ _ _ _ f33 (by cases hC; subst he_GEx; simp) rfl, ?_⟩
        cbv
        replace hh := if_or hh
        rcases hh with ⟨b34, hh⟩ | ⟨b34, hh⟩
        · have f35 : (lt s12 (wrap .i64 (add x32_1 1))) = true := by cases hC; exact decide_eq_true b34
          rw [f35]; cbv
          refine hN1 _ _ _ _ _ hh (Nat.lt_succ_self _) ?_
          rintro ⟨n, t0, t1, t2, ⟨⟩⟩ e1
          refine cov_of [] ?_
          cbv
          all_goals (have e1_0 := congrArg (fun s => s.2.1) e1; dsimp only at e1_0; subst e1_0; have e1_1 := congrArg (fun s => s.2.2.1) e1; dsimp only at e1_1; subst e1_1; have e1_2 := congrArg (fun s => s.2.2.2.1) e1; dsimp only at e1_2; subst e1_2; cases hC; subst he_GEx; (first | (simp; done) | (simp <;> first | rfl | omega | grind)))
        · have f35 : (lt s12 (wrap .i64 (add x32_1 1))) = false := by cases hC; exact decide_eq_false b34
          rw [f35]; cbv
          refine hN1 _ _ _ _ _ hh (Nat.lt_succ_self _) ?_
          rintro ⟨n, t0, t1, t2, ⟨⟩⟩ e1
          refine cov_of [] ?_
          cbv
          all_goals (have e1_0 := congrArg (fun s => s.2.1) e1; dsimp only at e1_0; subst e1_0; have e1_1 := congrArg (fun s => s.2.2.1) e1; dsimp only at e1_1; subst e1_1; have e1_2 := congrArg (fun s => s.2.2.2.1) e1; dsimp only at e1_2; subst e1_2; cases hC; subst he_GEx; (first | (simp; done) | (simp <;> first | rfl | omega | grind)))
      · have f27 : (lt s13 (cast (len (qGEx p0_Kids)))) = false := by cases hC; subst he_GEx; first | exact decide_eq_false b26 | (simp; done) | (simp; omega) | (simp at b26 ⊢; omega) | (simp at b26 ⊢; exact b26)
        rw [f27]; cbv
        refine hD1 _ _ _ hh ?_
        rintro ⟨t0, t1⟩ e1
        refine cov_of [] ?_
        cbv
        all_goals (have e1_0 := congrArg (fun s => s.1) e1; dsimp only at e1_0; subst e1_0; have e1_1 := congrArg (fun s => s.2) e1; dsimp only at e1_1; subst e1_1; cases hC; subst he_GEx; (first | (simp; done) | (simp <;> first | rfl | omega | grind)))
theorem c_impl_Ex_size {k : Nat} {p0 : GEx} {r : Int × Int} (hh : impl_Ex_size.f k p0 = some r) : FunW P 86 [.agg [.lit (.int .i64 p0.Kind), .lit (.int .i64 p0.Sym), .lit (.int .i64 p0.N), .tree (r_GEx p0.Kids)]] [.hole] (.tup [.lit (.int .i64 r.1), .lit (.int .i64 r.2)]) := (c_scc86 k) hh


theorem c_impl_isKind {p0 : Int} {r : Bool} (hh : impl_isKind.f p0 = some r) : FunW P 94 [.lit (.int .i64 p0)] [.hole] (.lit (.bool r)) := by
  unfold impl_isKind.f at hh
  refine fun_go2 eok mixed (ts := [(2, none)]) (rm := [.own]) (gs := [1000000]) (pm := [.skip]) Try.func94 (by kernel_rfl) (by kernel_rfl) (by kernel_rfl) ?_
  intro Fn LW len cast toNat wrap add sub mul bin lt eq At set part app fz' rep nadd nmax ssize sext sget scat seq slt Wide Flat Ones Room r' post' hC hF hr hp
  cbv
  replace hh := bind_some hh
  obtain ⟨x2, h1, hh⟩ := hh
  have f3 := c_impl_in h1
  refine ⟨_, _, hF _ _ _ _ _ _ f3 (by cases hC; simp) rfl, ?_⟩
  cbv
  subst hr hp
  cases hh
  cases hC; first | (simp; done) | (simp <;> first | rfl | omega | grind)

theorem c_impl_kids {p0 : Int} {r : Int} (hh : impl_kids.f p0 = some r) : FunW P 95 [.lit (.int .i64 p0)] [.hole] (.lit (.int .i64 r)) := by
  unfold impl_kids.f at hh
  refine fun_go2 eok mixed (ts := [(2, none)]) (rm := [.own]) (gs := [1000000]) (pm := [.skip]) Try.func95 (by kernel_rfl) (by kernel_rfl) (by kernel_rfl) ?_
  intro Fn LW len cast toNat wrap add sub mul bin lt eq At set part app fz' rep nadd nmax ssize sext sget scat seq slt Wide Flat Ones Room r' post' hC hF hr hp
  generalize he_Int : r_Int = qInt
  cbv
  replace hh := req_some hh
  obtain ⟨h1, hh⟩ := hh
  replace hh := req_some hh
  obtain ⟨h2, hh⟩ := hh
  replace h2 : p0 < (8 : Nat) := h2
  refine ⟨(by cases hC; subst he_Int; exact decide_eq_false (Int.not_lt.2 (by first | exact h1 | (simp; done) | (simp; omega) | (simp at h1 ⊢; omega) | (simp at h1 ⊢; exact h1)))), (by cases hC; subst he_Int; exact decide_eq_true (by first | exact h2 | (simp; done) | (simp; omega) | (simp at h2 ⊢; omega) | (simp at h2 ⊢; exact h2))), ?_⟩
  replace hh := bind_some hh
  obtain ⟨e3, h4, hh⟩ := hh
  refine ⟨[.lit (.int .i64 e3)], (by cases hC; subst he_Int; first | exact r_Int_get h4 | (simp [h4]; done) | (have q := r_Int_get h4; rw [r_Int_map] at q; simpa [List.map] using q)), ?_⟩
  cbv
  subst hr hp
  cases hh
  cases hC; subst he_Int; first | (simp; done) | (simp <;> first | rfl | omega | grind)

theorem c_slices_IndexFunc_impl_Ex_formed_1 {k : Nat} {g1 : GEx → Option Bool} (hg1 : ∀ {y0 : GEx} {r : Bool}, g1 y0 = some r → FunW P 97 [.agg [.lit (.int .i64 y0.Kind), .lit (.int .i64 y0.Sym), .lit (.int .i64 y0.N), .tree (r_GEx y0.Kids)]] [.hole] (.lit (.bool r))) {p0 : List GEx} {r : Int} (hh : slices_IndexFunc.f g1 k p0 = some r) : FunW P 100 [.tree (r_GEx p0), .clo 97 []] [.hole, .hole] (.lit (.int .i64 r)) := by
  unfold slices_IndexFunc.f at hh
  refine fun_go2 eok mixed (ts := [(4, none)]) (rm := [.own]) (gs := [1000000, 1000001]) (pm := [.skip, .skip]) Try.func100 (by kernel_rfl) (by kernel_rfl) (by kernel_rfl) ?_
  intro Fn LW len cast toNat wrap add sub mul bin lt eq At set part app fz' rep nadd nmax ssize sext sget scat seq slt Wide Flat Ones Room r' post' hC hF hr hp
  generalize he_GEx : r_GEx = qGEx
  cbv
  replace hh := bind_some hh
  obtain ⟨o1, hl1, hq1⟩ := hh
  refine loop_go3 hC eok mixed
    (fun s : Nat × Int × Unit => match s with | (_, s11, _) => (⟨[(0, .tree (qGEx p0)), (1, .clo 97 []), (7, .lit (.int .i64 (cast (len (qGEx p0))))), (8, .lit (.int .i64 s11))], []⟩ : St))
    (fun s : Nat × Int × Unit => slices_IndexFunc.l0 k g1 p0 s.1 s.2.1 = some o1)
    (fun s => s.1) (fun _ => .exit 0)
    (fun x : Unit => match x with | _ => (⟨[], []⟩ : St))
    (fun x : Unit => some (.ok x) = some o1)
    (_, _, ()) hl1 ?_ ?_ ?_
  · rintro ⟨n, t0, ⟨⟩⟩ e1
    refine cov_of [] ?_
    cbv
    all_goals (have e1_0 := congrArg (fun s => s.2.1) e1; dsimp only at e1_0; subst e1_0; cases hC; subst he_GEx; (first | (simp; done) | (simp <;> first | rfl | omega | grind)))
  · rintro ⟨⟩ hx
    have hx := Option.some.inj hx
    subst hx
    have hh := hq1
    cbv
    subst hr hp
    cases hh
    cases hC; subst he_GEx; first | (simp; done) | (simp <;> first | rfl | omega | grind)
  · rintro ⟨n, s11, ⟨⟩⟩ N1 D1 hh hN1 hD1 hQ1
    replace hN1 := fun σ' n' a0 (h : slices_IndexFunc.l0 k g1 p0 n' a0 = some o1) => hN1 σ' (n', a0, ()) h
    replace hD1 := fun σ'  (h : some (Except.ok ()) = some o1) => hD1 σ' () h
    cases n with
    | zero => dsimp only at hh; unfold slices_IndexFunc.l0 at hh; cases hh
    | succ n =>
    dsimp only at hh
    unfold slices_IndexFunc.l0 at hh
    cbv
    replace hh := if_or hh
    rcases hh with ⟨b22, hh⟩ | ⟨b22, hh⟩
    · have f23 : (lt s11 (cast (len (qGEx p0)))) = true := by cases hC; subst he_GEx; first | exact decide_eq_true b22 | (simp; done) | (simp; omega) | (simp at b22 ⊢; omega) | (simp at b22 ⊢; exact b22)
      rw [f23]; cbv
      replace hh := req_some hh
      obtain ⟨h24, hh⟩ := hh
      replace hh := bind_some hh
      obtain ⟨⟨e25_Kind, e25_Sym, e25_N, e25_Kids⟩, h26, hh⟩ := hh
      refine ⟨[.lit (.int .i64 e25_Kind), .lit (.int .i64 e25_Sym), .lit (.int .i64 e25_N), .tree (qGEx e25_Kids)], (by cases hC; subst he_GEx; exact decide_eq_false (Int.not_lt.2 (by first | exact h24 | (simp; done) | (simp; omega) | (simp at h24 ⊢; omega) | (simp at h24 ⊢; exact h24)))), (by cases hC; subst he_GEx; first | exact r_GEx_get h26 | simp [h26]), ?_⟩
      cbv
      replace hh := bind_some hh
      obtain ⟨x28, h27, hh⟩ := hh
      have f29 := hg1 h27
      try rw [he_GEx] at f29
      refine ⟨_, _, hF _ _ _ _ _ _ f29 (by cases hC; subst he_GEx; simp) rfl, ?_⟩
      cbv
      replace hh := if_or hh
      rcases hh with ⟨b30, hh⟩ | ⟨b30, hh⟩
      · have f31 : x28 = true := by exact b30
        rw [f31]; cbv
        cases hh
        have hh : some _ = some _ := hq1
        refine hQ1 _ _ ?_
        cbv
        subst hr hp
        cases hh
        cases hC; subst he_GEx; first | (simp; done) | (simp <;> first | rfl | omega | grind)
      · have f31 : x28 = false := by exact Bool.eq_false_iff.2 b30
        rw [f31]; cbv
        refine hN1 _ _ _ hh (Nat.lt_succ_self _) ?_
        rintro ⟨n, t0, ⟨⟩⟩ e1
        refine cov_of [] ?_
        cbv
        all_goals (have e1_0 := congrArg (fun s => s.2.1) e1; dsimp only at e1_0; subst e1_0; cases hC; subst he_GEx; (first | (simp; done) | (simp <;> first | rfl | omega | grind)))
    · have f23 : (lt s11 (cast (len (qGEx p0)))) = false := by cases hC; subst he_GEx; first | exact decide_eq_false b22 | (simp; done) | (simp; omega) | (simp at b22 ⊢; omega) | (simp at b22 ⊢; exact b22)
      rw [f23]; cbv
      refine hD1 _  hh ?_
      rintro ⟨⟩ e1
      refine cov_of [] ?_
      cbv
      all_goals (cases hC; subst he_GEx; (first | (simp; done) | (simp <;> first | rfl | omega | grind)))

theorem c_slices_ContainsFunc_impl_Ex_formed_1 {k : Nat} {g1 : GEx → Option Bool} (hg1 : ∀ {y0 : GEx} {r : Bool}, g1 y0 = some r → FunW P 97 [.agg [.lit (.int .i64 y0.Kind), .lit (.int .i64 y0.Sym), .lit (.int .i64 y0.N), .tree (r_GEx y0.Kids)]] [.hole] (.lit (.bool r))) {p0 : List GEx} {r : Bool} (hh : slices_ContainsFunc.f g1 k p0 = some r) : FunW P 96 [.tree (r_GEx p0), .clo 97 []] [.hole, .hole] (.lit (.bool r)) := by
  unfold slices_ContainsFunc.f at hh
  refine fun_go2 eok mixed (ts := [(4, none)]) (rm := [.own]) (gs := [1000000, 1000001]) (pm := [.skip, .skip]) Try.func96 (by kernel_rfl) (by kernel_rfl) (by kernel_rfl) ?_
  intro Fn LW len cast toNat wrap add sub mul bin lt eq At set part app fz' rep nadd nmax ssize sext sget scat seq slt Wide Flat Ones Room r' post' hC hF hr hp
  generalize he_GEx : r_GEx = qGEx
  cbv
  replace hh := bind_some hh
  obtain ⟨x2, h1, hh⟩ := hh
  have f3 := c_slices_IndexFunc_impl_Ex_formed_1 (g1 := g1) hg1 h1
  try rw [he_GEx] at f3
  refine ⟨_, _, hF _ _ _ _ _ _ f3 (by cases hC; subst he_GEx; simp) rfl, ?_⟩
  cbv
  subst hr hp
  cases hh
  cases hC; subst he_GEx; first | (simp; done) | (simp <;> first | rfl | omega | grind)

theorem c_scc87 : ∀ k : Nat, (∀ {p0 : GEx} {r : Bool}, impl_Ex_formed_1.f k p0 = some r → FunW P 97 [.agg [.lit (.int .i64 p0.Kind), .lit (.int .i64 p0.Sym), .lit (.int .i64 p0.N), .tree (r_GEx p0.Kids)]] [.hole] (.lit (.bool r))) ∧ (∀ {p0 : GEx} {r : Bool}, impl_Ex_formed.f k p0 = some r → FunW P 87 [.agg [.lit (.int .i64 p0.Kind), .lit (.int .i64 p0.Sym), .lit (.int .i64 p0.N), .tree (r_GEx p0.Kids)]] [.hole] (.lit (.bool r))) := by
  intro k
  induction k using Nat.strongRecOn with
  | _ k ih =>
  refine ⟨?_, ?_⟩
  · intro p0 r hh
    cases k with
    | zero => unfold impl_Ex_formed_1.f at hh; cases hh
    | succ k =>
    obtain ⟨p0_Kind, p0_Sym, p0_N, p0_Kids⟩ := p0
    unfold impl_Ex_formed_1.f at hh
    refine fun_go2 eok mixed (ts := [(2, none)]) (rm := [.own]) (gs := [1000000]) (pm := [.skip]) Try.func97 (by kernel_rfl) (by kernel_rfl) (by kernel_rfl) ?_
    intro Fn LW len cast toNat wrap add sub mul bin lt eq At set part app fz' rep nadd nmax ssize sext sget scat seq slt Wide Flat Ones Room r' post' hC hF hr hp
    generalize he_GEx : r_GEx = qGEx
    cbv
    replace hh := bind_some hh
    obtain ⟨x2, h1, hh⟩ := hh
    have f3 := (ih k (Nat.lt_succ_self k)).2 h1
    try rw [he_GEx] at f3
    refine ⟨_, _, hF _ _ _ _ _ _ f3 (by cases hC; subst he_GEx; simp) rfl, ?_⟩
    cbv
    subst hr hp
    cases hh
    cases hC; subst he_GEx; first | (simp; done) | (simp <;> first | rfl | omega | grind)
  · intro p0 r hh
    cases k with
    | zero => unfold impl_Ex_formed.f at hh; cases hh
    | succ k =>
    obtain ⟨p0_Kind, p0_Sym, p0_N, p0_Kids⟩ := p0
    unfold impl_Ex_formed.f at hh
    refine fun_go2 eok mixed (ts := [(2, none)]) (rm := [.own]) (gs := [1000000]) (pm := [.skip]) Try.func87 (by kernel_rfl) (by kernel_rfl) (by kernel_rfl) ?_
    intro Fn LW len cast toNat wrap add sub mul bin lt eq At set part app fz' rep nadd nmax ssize sext sget scat seq slt Wide Flat Ones Room r' post' hC hF hr hp
    generalize he_GEx : r_GEx = qGEx
    cbv
    replace hh := bind_some hh
    obtain ⟨x2, h1, hh⟩ := hh
    have f3 := c_impl_isKind h1
    try rw [he_GEx] at f3
    refine ⟨_, _, hF _ _ _ _ _ _ f3 (by cases hC; subst he_GEx; simp) rfl, ?_⟩
    cbv
    replace hh := if_or hh
    rcases hh with ⟨b4, hh⟩ | ⟨b4, hh⟩
    · have f5 : x2 = true := by exact b4
      rw [f5]; cbv
      replace hh := bind_some hh
      obtain ⟨x7, h6, hh⟩ := hh
      have f8 := c_impl_kids h6
      try rw [he_GEx] at f8
      refine ⟨_, _, hF _ _ _ _ _ _ f8 (by cases hC; subst he_GEx; simp) rfl, ?_⟩
      cbv
      replace hh := if_or hh
      rcases hh with ⟨b9, hh⟩ | ⟨b9, hh⟩
      · have f10 : (eq (cast (len (qGEx p0_Kids))) x7) = true := by cases hC; subst he_GEx; first | exact beq_iff_eq.2 b9 | (simp; done) | (simp; omega) | (simp at b9 ⊢; omega) | (simp at b9 ⊢; exact b9)
        rw [f10]; cbv
        replace hh := if_or hh
        rcases hh with ⟨b11, hh⟩ | ⟨b11, hh⟩
        · have f12 : (eq p0_Kind 1) = true := by cases hC; exact beq_iff_eq.2 b11
          rw [f12]; cbv
          replace hh := bind_some hh
          obtain ⟨x14, h13, hh⟩ := hh
          have f15 := c_impl_isSym h13
          try rw [he_GEx] at f15
          refine ⟨_, _, hF _ _ _ _ _ _ f15 (by cases hC; subst he_GEx; simp) rfl, ?_⟩
          cbv
          replace hh := if_or hh
          rcases hh with ⟨b16, hh⟩ | ⟨b16, hh⟩
          · have f17 : x14 = true := by exact b16
            rw [f17]; cbv
            rw [f12]; cbv
            replace hh := if_or hh
            rcases hh with ⟨b18, hh⟩ | ⟨b18, hh⟩
            · have f19 : (eq p0_Kind 7) = true := by cases hC; exact beq_iff_eq.2 b18
              rw [f19]; cbv
              replace hh := bind_some hh
              obtain ⟨x21, h20, hh⟩ := hh
              have f22 := c_impl_in h20
              try rw [he_GEx] at f22
              refine ⟨_, _, hF _ _ _ _ _ _ f22 (by cases hC; subst he_GEx; simp) rfl, ?_⟩
              cbv
              replace hh := if_or hh
              rcases hh with ⟨b23, hh⟩ | ⟨b23, hh⟩
              · have f24 : x21 = true := by exact b23
                rw [f24]; cbv
                rw [f19]; cbv
                replace hh := bind_some hh
                obtain ⟨x26, h25, hh⟩ := hh
                have f27 := c_slices_ContainsFunc_impl_Ex_formed_1 (g1 := fun y0 => impl_Ex_formed_1.f k y0) (fun h => (ih k (Nat.lt_succ_self k)).1 h) h25
                try rw [he_GEx] at f27
                refine ⟨_, _, hF _ _ _ _ _ _ f27 (by cases hC; subst he_GEx; simp) rfl, ?_⟩
                cbv
                subst hr hp
                cases hh
                cases hC; subst he_GEx; first | (simp; done) | (simp <;> first | rfl | omega | grind)
              · have f24 : x21 = false := by exact Bool.eq_false_iff.2 b23
                rw [f24]; cbv
                subst hr hp
                cases hh
                cases hC; subst he_GEx; first | (simp; done) | (simp <;> first | rfl | omega | grind)
            · have f19 : (eq p0_Kind 7) = false := by cases hC; exact beq_false_of_ne b18
              rw [f19]; cbv
              rw [f19]; cbv
              replace hh := if_or hh
              rcases hh with ⟨b28, hh⟩ | ⟨b28, hh⟩
              · have f29 : (eq p0_N 0) = true := by cases hC; exact beq_iff_eq.2 b28
                rw [f29]; cbv
                replace hh := bind_some hh
                obtain ⟨x31, h30, hh⟩ := hh
                have f32 := c_slices_ContainsFunc_impl_Ex_formed_1 (g1 := fun y0 => impl_Ex_formed_1.f k y0) (fun h => (ih k (Nat.lt_succ_self k)).1 h) h30
                try rw [he_GEx] at f32
                refine ⟨_, _, hF _ _ _ _ _ _ f32 (by cases hC; subst he_GEx; simp) rfl, ?_⟩
                cbv
                subst hr hp
                cases hh
                cases hC; subst he_GEx; first | (simp; done) | (simp <;> first | rfl | omega | grind)
              · have f29 : (eq p0_N 0) = false := by cases hC; exact beq_false_of_ne b28
                rw [f29]; cbv
                subst hr hp
                cases hh
                cases hC; subst he_GEx; first | (simp; done) | (simp <;> first | rfl | omega | grind)
          · have f17 : x14 = false := by exact Bool.eq_false_iff.2 b16
            rw [f17]; cbv
            subst hr hp
            cases hh
            cases hC; subst he_GEx; first | (simp; done) | (simp <;> first | rfl | omega | grind)
        · have f12 : (eq p0_Kind 1) = false := by cases hC; exact beq_false_of_ne b11
          rw [f12]; cbv
          rw [f12]; cbv
          replace hh := if_or hh
          rcases hh with ⟨b33, hh⟩ | ⟨b33, hh⟩
          · have f34 : (eq p0_Sym 0) = true := by cases hC; exact beq_iff_eq.2 b33
            rw [f34]; cbv
            replace hh := if_or hh
            rcases hh with ⟨b35, hh⟩ | ⟨b35, hh⟩
            · have f36 : (eq p0_Kind 7) = true := by cases hC; exact beq_iff_eq.2 b35
              rw [f36]; cbv
              replace hh := bind_some hh
              obtain ⟨x38, h37, hh⟩ := hh
              have f39 := c_impl_in h37
              try rw [he_GEx] at f39
              refine ⟨_, _, hF _ _ _ _ _ _ f39 (by cases hC; subst he_GEx; simp) rfl, ?_⟩
              cbv
              replace hh := if_or hh
              rcases hh with ⟨b40, hh⟩ | ⟨b40, hh⟩
              · have f41 : x38 = true := by exact b40
                rw [f41]; cbv
                rw [f36]; cbv
                replace hh := bind_some hh
                obtain ⟨x43, h42, hh⟩ := hh
                have f44 := c_slices_ContainsFunc_impl_Ex_formed_1 (g1 := fun y0 => impl_Ex_formed_1.f k y0) (fun h => (ih k (Nat.lt_succ_self k)).1 h) h42
                try rw [he_GEx] at f44
                refine ⟨_, _, hF _ _ _ _ _ _ f44 (by cases hC; subst he_GEx; simp) rfl, ?_⟩
                cbv
                subst hr hp
                cases hh
                cases hC; subst he_GEx; first | (simp; done) | (simp <;> first | rfl | omega | grind)
              · have f41 : x38 = false := by exact Bool.eq_false_iff.2 b40
                rw [f41]; cbv
                subst hr hp
                cases hh
                cases hC; subst he_GEx; first | (simp; done) | (simp <;> first | rfl | omega | grind)
            · have f36 : (eq p0_Kind 7) = false := by cases hC; exact beq_false_of_ne b35
              rw [f36]; cbv
              rw [f36]; cbv
              replace hh := if_or hh
              rcases hh with ⟨b45, hh⟩ | ⟨b45, hh⟩
              · have f46 : (eq p0_N 0) = true := by cases hC; exact beq_iff_eq.2 b45
                rw [f46]; cbv
                replace hh := bind_some hh
                obtain ⟨x48, h47, hh⟩ := hh
                have f49 := c_slices_ContainsFunc_impl_Ex_formed_1 (g1 := fun y0 => impl_Ex_formed_1.f k y0) (fun h => (ih k (Nat.lt_succ_self k)).1 h) h47
                try rw [he_GEx] at f49
                refine ⟨_, _, hF _ _ _ _ _ _ f49 (by cases hC; subst he_GEx; simp) rfl, ?_⟩
                cbv
                subst hr hp
                cases hh
                cases hC; subst he_GEx; first | (simp; done) | (simp <;> first | rfl | omega | grind)
              · have f46 : (eq p0_N 0) = false := by cases hC; exact beq_false_of_ne b45
                rw [f46]; cbv
                subst hr hp
                cases hh
                cases hC; subst he_GEx; first | (simp; done) | (simp <;> first | rfl | omega | grind)
          · have f34 : (eq p0_Sym 0) = false := by cases hC; exact beq_false_of_ne b33
            rw [f34]; cbv
            subst hr hp
            cases hh
            cases hC; subst he_GEx; first | (simp; done) | (simp <;> first | rfl | omega | grind)
      · have f10 : (eq (cast (len (qGEx p0_Kids))) x7) = false := by cases hC; subst he_GEx; first | exact beq_false_of_ne b9 | (simp; done) | (simp; omega) | (simp at b9 ⊢; omega) | (simp at b9 ⊢; exact b9)
        rw [f10]; cbv
        subst hr hp
        cases hh
        cases hC; subst he_GEx; first | (simp; done) | (simp <;> first | rfl | omega | grind)
    · have f5 : x2 = false := by exact Bool.eq_false_iff.2 b4
      rw [f5]; cbv
      subst hr hp
      cases hh
      cases hC; subst he_GEx; first | (simp; done) | (simp <;> first | rfl | omega | grind)
theorem c_impl_Ex_formed_1 {k : Nat} {p0 : GEx} {r : Bool} (hh : impl_Ex_formed_1.f k p0 = some r) : FunW P 97 [.agg [.lit (.int .i64 p0.Kind), .lit (.int .i64 p0.Sym), .lit (.int .i64 p0.N), .tree (r_GEx p0.Kids)]] [.hole] (.lit (.bool r)) := (c_scc87 k).1 hh
theorem c_impl_Ex_formed {k : Nat} {p0 : GEx} {r : Bool} (hh : impl_Ex_formed.f k p0 = some r) : FunW P 87 [.agg [.lit (.int .i64 p0.Kind), .lit (.int .i64 p0.Sym), .lit (.int .i64 p0.N), .tree (r_GEx p0.Kids)]] [.hole] (.lit (.bool r)) := (c_scc87 k).2 hh



theorem c_impl_ExOk {k : Nat} {p0 : GEx} {r : Bool} (hh : impl_ExOk.f k p0 = some r) : FunW P 63 [.agg [.lit (.int .i64 p0.Kind), .lit (.int .i64 p0.Sym), .lit (.int .i64 p0.N), .tree (r_GEx p0.Kids)]] [.hole] (.lit (.bool r)) := by
  obtain ⟨p0_Kind, p0_Sym, p0_N, p0_Kids⟩ := p0
  unfold impl_ExOk.f at hh
  refine fun_go2 eok mixed (ts := [(2, none)]) (rm := [.own]) (gs := [1000000]) (pm := [.skip]) Try.func63 (by kernel_rfl) (by kernel_rfl) (by kernel_rfl) ?_
  intro Fn LW len cast toNat wrap add sub mul bin lt eq At set part app fz' rep nadd nmax ssize sext sget scat seq slt Wide Flat Ones Room r' post' hC hF hr hp
  generalize he_GEx : r_GEx = qGEx
  cbv
  replace hh := bind_some hh
  obtain ⟨⟨x2_0, x2_1⟩, h1, hh⟩ := hh
  have f3 := c_impl_Ex_size h1
  try rw [he_GEx] at f3
  refine ⟨_, _, hF _ _ _ _ _ _ f3 (by cases hC; subst he_GEx; simp) rfl, ?_⟩
  cbv
  replace hh := if_or hh
  rcases hh with ⟨b4, hh⟩ | ⟨b4, hh⟩
  · have f5 : (lt 12 x2_0) = true := by cases hC; exact decide_eq_true b4
    rw [f5]; cbv
    subst hr hp
    cases hh
    cases hC; subst he_GEx; first | (simp; done) | (simp <;> first | rfl | omega | grind)
  · have f5 : (lt 12 x2_0) = false := by cases hC; exact decide_eq_false b4
    rw [f5]; cbv
    replace hh := if_or hh
    rcases hh with ⟨b6, hh⟩ | ⟨b6, hh⟩
    · have f7 : (lt 5 x2_1) = true := by cases hC; exact decide_eq_true b6
      rw [f7]; cbv
      subst hr hp
      cases hh
      cases hC; subst he_GEx; first | (simp; done) | (simp <;> first | rfl | omega | grind)
    · have f7 : (lt 5 x2_1) = false := by cases hC; exact decide_eq_false b6
      rw [f7]; cbv
      replace hh := bind_some hh
      obtain ⟨x9, h8, hh⟩ := hh
      have f10 := c_impl_Ex_formed h8
      try rw [he_GEx] at f10
      refine ⟨_, _, hF _ _ _ _ _ _ f10 (by cases hC; subst he_GEx; simp) rfl, ?_⟩
      cbv
      subst hr hp
      cases hh
      cases hC; subst he_GEx; first | (simp; done) | (simp <;> first | rfl | omega | grind)

theorem c_scc64 : ∀ k : Nat, (∀ {p0 : GEx} {p1 : List Int} {r : GEx}, impl_Ex_turn.f k p0 p1 = some r → FunW P 64 [.agg [.lit (.int .i64 p0.Kind), .lit (.int .i64 p0.Sym), .lit (.int .i64 p0.N), .tree (r_GEx p0.Kids)], .tree (r_Int p1)] [.hole, .hole] (.agg [.lit (.int .i64 r.Kind), .lit (.int .i64 r.Sym), .lit (.int .i64 r.N), .inl 4 (r_GExO r.Kids)])) := by
  intro k
  induction k using Nat.strongRecOn with
  | _ k ih =>
  · intro p0 p1 r hh
    cases k with
    | zero => unfold impl_Ex_turn.f at hh; cases hh
    | succ k =>
    obtain ⟨p0_Kind, p0_Sym, p0_N, p0_Kids⟩ := p0
    unfold impl_Ex_turn.f at hh
    refine fun_go2 eok mixed (ts := [(4, some 53)]) (rm := [.own]) (gs := [1000000, 1000001]) (pm := [.skip, .skip]) Try.func64 (by kernel_rfl) (by kernel_rfl) (by kernel_rfl) ?_
    intro Fn LW len cast toNat wrap add sub mul bin lt eq At set part app fz' rep nadd nmax ssize sext sget scat seq slt Wide Flat Ones Room r' post' hC hF hr hp
    generalize he_GEx : r_GEx = qGEx
    generalize he_GExO : r_GExO = qGExO
    generalize he_Int : r_Int = qInt
    cbv
    replace hh := if_or hh
    rcases hh with ⟨b1, hh⟩ | ⟨b1, hh⟩
    · have f2 : (eq p0_Kind 1) = true := by cases hC; exact beq_iff_eq.2 b1
      rw [f2]; cbv
      replace hh := req_some hh
      obtain ⟨h3, hh⟩ := hh
      try dsimp only at h3
      replace hh := bind_some hh
      obtain ⟨e4, h5, hh⟩ := hh
      refine ⟨[.lit (.int .i64 e4)], (by cases hC; subst he_GEx he_GExO he_Int; exact decide_eq_false (Int.not_lt.2 (by first | exact h3 | (simp; done) | (simp; omega) | (simp at h3 ⊢; omega) | (simp at h3 ⊢; exact h3)))), (by cases hC; subst he_GEx he_GExO he_Int; first | exact r_Int_get h5 | simp [h5]), ?_⟩
      cbv
      refine ⟨4, ?_⟩
      cbv
      subst hr hp
      cases hh
      cases hC; subst he_GEx he_GExO he_Int; first | (simp; done) | (simp <;> first | rfl | omega | grind)
    · have f2 : (eq p0_Kind 1) = false := by cases hC; exact beq_false_of_ne b1
      rw [f2]; cbv
      replace hh := bind_some hh
      obtain ⟨o1, hl1, hq1⟩ := hh
      refine loop_go3 hC eok mixed
        (fun s : Nat × (List GEx) × Int × Unit => match s with | (_, s15, s16, _) => (⟨[(1, .tree (qInt p1)), (2, .mptr (2, 0) 1 0 0), (4, .mptr (4, 0) 1 0 0), (5, .ref (5, 50) 1 0 (len (qGExO s15))), (18, .tree (qGEx p0_Kids)), (19, .lit (.int .i64 (cast (len (qGEx p0_Kids))))), (20, .lit (.int .i64 s16))], [((2, 0), .box 1 [.lit (.int .i64 p0_Kind), .lit (.int .i64 p0_Sym), .lit (.int .i64 p0_N), .tree (qGEx p0_Kids)]), ((4, 0), .box 1 [.lit (.int .i64 0), .lit (.int .i64 0), .lit (.int .i64 0), .lit (.slice none 0 0)]), ((5, 50), .arr 1 4 (qGExO s15))]⟩ : St))
        (fun s : Nat × (List GEx) × Int × Unit => impl_Ex_turn.l0 k (impl_Ex_turn.f k) (⟨p0_Kind, p0_Sym, p0_N, p0_Kids⟩ : GEx) p1 s.1 s.2.1 s.2.2.1 = some o1)
        (fun s => s.1) (fun _ => .exit 0)
        (fun x : List GEx => match x with | x26 => (⟨[(2, .mptr (2, 0) 1 0 0), (4, .mptr (4, 0) 1 0 0), (5, .ref (5, 50) 1 0 (len (qGExO x26)))], [((2, 0), .box 1 [.lit (.int .i64 p0_Kind), .lit (.int .i64 p0_Sym), .lit (.int .i64 p0_N), .tree (qGEx p0_Kids)]), ((4, 0), .box 1 [.lit (.int .i64 0), .lit (.int .i64 0), .lit (.int .i64 0), .lit (.slice none 0 0)]), ((5, 50), .arr 1 4 (qGExO x26))]⟩ : St))
        (fun x : List GEx => some (x) = some o1)
        (_, _, _, ()) hl1 ?_ ?_ ?_
      · rintro ⟨n, t0, t1, ⟨⟩⟩ e1
        refine cov_of [((2, 0), (2, 0)), ((4, 0), (4, 0))] ?_
        cbv
        all_goals (have e1_0 := congrArg (fun s => s.2.1) e1; dsimp only at e1_0; subst e1_0; have e1_1 := congrArg (fun s => s.2.2.1) e1; dsimp only at e1_1; subst e1_1; cases hC; subst he_GEx he_GExO he_Int; (first | (simp; done) | (simp <;> first | rfl | omega | grind)))
      · rintro x26 hx
        have hx := Option.some.inj hx
        subst hx
        have hh := hq1
        cbv
        subst hr hp
        cases hh
        cases hC; subst he_GEx he_GExO he_Int; first | (simp; done) | (simp <;> first | rfl | omega | grind)
      · rintro ⟨n, s15, s16, ⟨⟩⟩ N1 D1 hh hN1 hD1 hQ1
        replace hN1 := fun σ' n' a0 a1 (h : impl_Ex_turn.l0 k (impl_Ex_turn.f k) (⟨p0_Kind, p0_Sym, p0_N, p0_Kids⟩ : GEx) p1 n' a0 a1 = some o1) => hN1 σ' (n', a0, a1, ()) h
        replace hD1 := fun σ' (a0 : List GEx) (h : some (a0) = some o1) => hD1 σ' a0 h
        cases n with
        | zero => dsimp only at hh; unfold impl_Ex_turn.l0 at hh; cases hh
        | succ n =>
        dsimp only at hh
        unfold impl_Ex_turn.l0 at hh
        cbv
        replace hh := if_or hh
        rcases hh with ⟨b27, hh⟩ | ⟨b27, hh⟩
        · have f28 : (lt s16 (cast (len (qGEx p0_Kids)))) = true := by cases hC; subst he_GEx he_GExO he_Int; first | exact decide_eq_true b27 | (simp; done) | (simp; omega) | (simp at b27 ⊢; omega) | (simp at b27 ⊢; exact b27)
          rw [f28]; cbv
          replace hh := req_some hh
          obtain ⟨h29, hh⟩ := hh
          replace hh := bind_some hh
          obtain ⟨⟨e30_Kind, e30_Sym, e30_N, e30_Kids⟩, h31, hh⟩ := hh
          refine ⟨[.lit (.int .i64 e30_Kind), .lit (.int .i64 e30_Sym), .lit (.int .i64 e30_N), .tree (qGEx e30_Kids)], (by cases hC; subst he_GEx he_GExO he_Int; exact decide_eq_false (Int.not_lt.2 (by first | exact h29 | (simp; done) | (simp; omega) | (simp at h29 ⊢; omega) | (simp at h29 ⊢; exact h29)))), (by cases hC; subst he_GEx he_GExO he_Int; first | exact r_GEx_get h31 | simp [h31]), ?_⟩
          cbv
          replace hh := bind_some hh
          obtain ⟨⟨x33_Kind, x33_Sym, x33_N, x33_Kids⟩, h32, hh⟩ := hh
          have f34 := (ih k (Nat.lt_succ_self k)) h32
          try rw [he_GEx] at f34
          try rw [he_GExO] at f34
          try rw [he_Int] at f34
          refine ⟨_, _, hF _ _ _ _ _ _ f34 (by cases hC; subst he_GEx he_GExO he_Int; simp) rfl, ?_⟩
          cbv
          replace hh := req_some hh
          obtain ⟨h35, hh⟩ := hh
          refine ⟨⟨(by cases hC; subst he_GEx he_GExO he_Int; simp), (by cases hC; subst he_GEx he_GExO he_Int; first | exact r_GExO_ones _ | (simp [ocell]; done))⟩, ?_⟩
          refine ⟨⟨(by cases hC; subst he_GEx he_GExO he_Int; first | (simp; done) | (simp; first | omega | (simp only [natc] at *; omega))), by cases hC; subst he_GEx he_GExO he_Int; first | exact h35 | (simp; done) | (simp; omega) | (simp at h35 ⊢; omega) | (simp at h35 ⊢; exact h35)⟩, ?_⟩
          refine hN1 _ _ _ _ hh (Nat.lt_succ_self _) ?_
          rintro ⟨n, t0, t1, ⟨⟩⟩ e1
          refine cov_of [((2, 0), (2, 0)), ((4, 0), (4, 0)), ((5, 50), (29, 0))] ?_
          cbv
          all_goals (have e1_0 := congrArg (fun s => s.2.1) e1; dsimp only at e1_0; subst e1_0; have e1_1 := congrArg (fun s => s.2.2.1) e1; dsimp only at e1_1; subst e1_1; cases hC; subst he_GEx he_GExO he_Int; (first | (simp; done) | (simp <;> first | rfl | omega | grind)))
        · have f28 : (lt s16 (cast (len (qGEx p0_Kids)))) = false := by cases hC; subst he_GEx he_GExO he_Int; first | exact decide_eq_false b27 | (simp; done) | (simp; omega) | (simp at b27 ⊢; omega) | (simp at b27 ⊢; exact b27)
          rw [f28]; cbv
          refine hD1 _ _ hh ?_
          rintro t0 e1
          refine cov_of [((2, 0), (2, 0)), ((4, 0), (4, 0)), ((5, 50), (5, 50))] ?_
          cbv
          all_goals (subst e1; cases hC; subst he_GEx he_GExO he_Int; (first | (simp; done) | (simp <;> first | rfl | omega | grind)))
theorem c_impl_Ex_turn {k : Nat} {p0 : GEx} {p1 : List Int} {r : GEx} (hh : impl_Ex_turn.f k p0 p1 = some r) : FunW P 64 [.agg [.lit (.int .i64 p0.Kind), .lit (.int .i64 p0.Sym), .lit (.int .i64 p0.N), .tree (r_GEx p0.Kids)], .tree (r_Int p1)] [.hole, .hole] (.agg [.lit (.int .i64 r.Kind), .lit (.int .i64 r.Sym), .lit (.int .i64 r.N), .inl 4 (r_GExO r.Kids)]) := (c_scc64 k) hh


theorem c_impl_TurnEx {k : Nat} {p0 : GEx} {p1 : List Int} {r : GEx} (hh : impl_TurnEx.f k p0 p1 = some r) : FunW P 29 [.agg [.lit (.int .i64 p0.Kind), .lit (.int .i64 p0.Sym), .lit (.int .i64 p0.N), .tree (r_GEx p0.Kids)], .tree (r_Int p1)] [.hole, .hole] (.agg [.lit (.int .i64 r.Kind), .lit (.int .i64 r.Sym), .lit (.int .i64 r.N), .inl 4 (r_GExO r.Kids)]) := by
  obtain ⟨p0_Kind, p0_Sym, p0_N, p0_Kids⟩ := p0
  unfold impl_TurnEx.f at hh
  refine fun_go2 eok mixed (ts := [(4, some 53)]) (rm := [.own]) (gs := [1000000, 1000001]) (pm := [.skip, .skip]) Try.func29 (by kernel_rfl) (by kernel_rfl) (by kernel_rfl) ?_
  intro Fn LW len cast toNat wrap add sub mul bin lt eq At set part app fz' rep nadd nmax ssize sext sget scat seq slt Wide Flat Ones Room r' post' hC hF hr hp
  generalize he_GEx : r_GEx = qGEx
  generalize he_GExO : r_GExO = qGExO
  generalize he_Int : r_Int = qInt
  cbv
  replace hh := bind_some hh
  obtain ⟨x2, h1, hh⟩ := hh
  have f3 := c_impl_ExOk h1
  try rw [he_GEx] at f3
  try rw [he_GExO] at f3
  try rw [he_Int] at f3
  refine ⟨_, _, hF _ _ _ _ _ _ f3 (by cases hC; subst he_GEx he_GExO he_Int; simp) rfl, ?_⟩
  cbv
  replace hh := if_or hh
  rcases hh with ⟨b4, hh⟩ | ⟨b4, hh⟩
  · have f5 : x2 = true := by exact b4
    rw [f5]; cbv
    replace hh := bind_some hh
    obtain ⟨x7, h6, hh⟩ := hh
    have f8 := c_impl_TurnBy h6
    try rw [he_GEx] at f8
    try rw [he_GExO] at f8
    try rw [he_Int] at f8
    refine ⟨_, _, hF _ _ _ _ _ _ f8 (by cases hC; subst he_GEx he_GExO he_Int; simp) rfl, ?_⟩
    cbv
    replace hh := if_or hh
    rcases hh with ⟨b9, hh⟩ | ⟨b9, hh⟩
    · have f10 : x7 = true := by exact b9
      rw [f10]; cbv
      replace hh := bind_some hh
      obtain ⟨⟨x12_Kind, x12_Sym, x12_N, x12_Kids⟩, h11, hh⟩ := hh
      have f13 := c_impl_Ex_turn h11
      try rw [he_GEx] at f13
      try rw [he_GExO] at f13
      try rw [he_Int] at f13
      refine ⟨_, _, hF _ _ _ _ _ _ f13 (by cases hC; subst he_GEx he_GExO he_Int; simp) rfl, ?_⟩
      cbv
      subst hr hp
      cases hh
      cases hC; subst he_GEx he_GExO he_Int; first | (simp; done) | (simp <;> first | rfl | omega | grind)
    · have f10 : x7 = false := by exact Bool.eq_false_iff.2 b9
      rw [f10]; cbv
      refine ⟨4, ?_⟩
      cbv
      subst hr hp
      cases hh
      cases hC; subst he_GEx he_GExO he_Int; first | (simp; done) | (simp <;> first | rfl | omega | grind)
  · have f5 : x2 = false := by exact Bool.eq_false_iff.2 b4
    rw [f5]; cbv
    refine ⟨4, ?_⟩
    cbv
    subst hr hp
    cases hh
    cases hC; subst he_GEx he_GExO he_Int; first | (simp; done) | (simp <;> first | rfl | omega | grind)
theorem c_impl_TurnEx_L0_1 {k : Nat} {p0 : GEx} {p1 : List Int} {r : GEx} (hh : impl_TurnEx.f k p0 p1 = some r) : FunW P 29 [.agg [.lit (.int .i64 p0.Kind), .lit (.int .i64 p0.Sym), .lit (.int .i64 p0.N), .inl 4 (r_GExO p0.Kids)], .inl 1 (r_Int p1)] [.agg [.lit (.int .i64 p0.Kind), .lit (.int .i64 p0.Sym), .lit (.int .i64 p0.N), .inl 4 (r_GExO p0.Kids)], .inl 1 (r_Int p1)] (.agg [.lit (.int .i64 r.Kind), .lit (.int .i64 r.Sym), .lit (.int .i64 r.N), .inl 4 (r_GExO r.Kids)]) :=
  (c_impl_TurnEx hh).lend (by simp [Vm.ownd, owndL, -r_GExO_map, r_GExO_ownd]) (.lend (by simp [-r_GExO_map, -r_Int_map, -r_GEx_map, Vm.fz, fzCells, r_GExO_fz, r_Int_fz]) (.lend (congrArg A.tree (r_Int_fz _).symm) .nil))

end Go.Proofs.Ytgbgabkdbfeibaa
