/- The functions of this program do what the plain ones do. -/
import Derived.Test.YtgbgabkdbfeibaaN
import Derived.Test.YtgbgabkdbfeibaaVE
namespace Go.Proofs.Ytgbgabkdbfeibaa
open Go Go.Vm
set_option linter.unusedVariables false
noncomputable abbrev P : Program := Try.prog
theorem c_laws_szEvS {p0 : List GEv} {p1 : Int} {r : Int} (hh : laws_szEvS.f p0 p1 = some r) : FunW P 8 [.tree (r_GEv p0), .lit (.int .i64 p1)] [.hole, .hole] (.lit (.int .i64 r)) := by
  unfold laws_szEvS.f at hh
  refine fun_go2 eok mixed (ts := [(4, none)]) (rm := [.own]) (gs := [1000000, 1000001]) (pm := [.skip, .skip]) Try.func8 (by kernel_rfl) (by kernel_rfl) (by kernel_rfl) ?_
  intro Fn LW len cast toNat wrap add sub mul bin lt eq At set part app fz' rep nadd nmax ssize sext sget scat seq slt Wide Flat Ones Room r' post' hC hF hr hp
  generalize he_GEv : r_GEv = qGEv
  cbv
  replace hh := if_or hh
  rcases hh with ⟨b1, hh⟩ | ⟨b1, hh⟩
  · have f2 : (lt (wrap .i64 (sub p1 (cast (len (qGEv p0))))) 0) = true := by cases hC; subst he_GEv; first | exact decide_eq_true b1 | (simp; done) | (simp; omega) | (simp at b1 ⊢; omega) | (simp at b1 ⊢; exact b1)
    rw [f2]; cbv
    subst hr hp
    cases hh
    cases hC; subst he_GEv; first | (simp; done) | (simp <;> first | rfl | omega | grind)
  · have f2 : (lt (wrap .i64 (sub p1 (cast (len (qGEv p0))))) 0) = false := by cases hC; subst he_GEv; first | exact decide_eq_false b1 | (simp; done) | (simp; omega) | (simp at b1 ⊢; omega) | (simp at b1 ⊢; exact b1)
    rw [f2]; cbv
    subst hr hp
    cases hh
    cases hC; subst he_GEv; first | (simp; done) | (simp <;> first | rfl | omega | grind)

theorem c_laws_toEv {p0 : GEv} {r : GEv} (hh : laws_toEv.f p0 = some r) : FunW P 40 [.agg [.lit (.int .i64 p0.Sym), .lit (.int .i64 p0.At), .lit (.int .i64 p0.Val)]] [.hole] (.agg [.lit (.int .i64 r.Sym), .lit (.int .i64 r.At), .lit (.int .i64 r.Val)]) := by
  obtain ⟨p0_Sym, p0_At, p0_Val⟩ := p0
  unfold laws_toEv.f at hh
  refine fun_go2 eok mixed (ts := [(2, some 67)]) (rm := [.own]) (gs := [1000000]) (pm := [.skip]) Try.func40 (by kernel_rfl) (by kernel_rfl) (by kernel_rfl) ?_
  intro Fn LW len cast toNat wrap add sub mul bin lt eq At set part app fz' rep nadd nmax ssize sext sget scat seq slt Wide Flat Ones Room r' post' hC hF hr hp
  cbv
  subst hr hp
  cases hh
  cases hC; first | (simp; done) | (simp <;> first | rfl | omega | grind)

theorem c_laws_toEvS {k : Nat} {p0 : List GEv} {r : List GEv} (hh : laws_toEvS.f k p0 = some r) : FunW P 10 [.tree (r_GEv p0)] [.hole] (.inl 3 (r_GEv r)) := by
  unfold laws_toEvS.f at hh
  refine fun_go2 eok mixed (ts := [(2, none)]) (rm := [.own]) (gs := [1000000]) (pm := [.skip]) Try.func10 (by kernel_rfl) (by kernel_rfl) (by kernel_rfl) ?_
  intro Fn LW len cast toNat wrap add sub mul bin lt eq At set part app fz' rep nadd nmax ssize sext sget scat seq slt Wide Flat Ones Room r' post' hC hF hr hp
  generalize he_GEv : r_GEv = qGEv
  cbv
  replace hh := req_some hh
  obtain ⟨h1, hh⟩ := hh
  replace hh := req_some hh
  obtain ⟨h2, hh⟩ := hh
  replace hh := req_some hh
  obtain ⟨h3, hh⟩ := hh
  refine ⟨⟨(by cases hC; subst he_GEv; exact decide_eq_false (Int.not_lt.2 (by first | exact h1 | (simp; done) | (simp; omega) | (simp at h1 ⊢; omega) | (simp at h1 ⊢; exact h1)))), (by cases hC; subst he_GEv; exact decide_eq_false (Int.not_lt.2 (by first | exact h2 | (simp; done) | (simp; omega) | (simp at h2 ⊢; omega) | (simp at h2 ⊢; exact h2)))), (by cases hC; subst he_GEv; first | exact h3 | (simp; done) | (simp; omega) | (simp at h3 ⊢; omega) | (simp at h3 ⊢; exact h3))⟩, ?_⟩
  replace hh := bind_some hh
  obtain ⟨o1, hl1, hq1⟩ := hh
  refine loop_go3 hC eok mixed
    (fun s : Nat × (List GEv) × Int × Unit => match s with | (_, s16, s17, _) => (⟨[(0, .tree (qGEv p0)), (3, .ref (7, 0) 1 0 (len (qGEv s16))), (4, .lit (.int .i64 s17))], [((7, 0), .arr 1 3 (qGEv s16))]⟩ : St))
    (fun s : Nat × (List GEv) × Int × Unit => laws_toEvS.l0 k p0 s.1 s.2.1 s.2.2.1 = some o1)
    (fun s => s.1) (fun _ => .exit 0)
    (fun x : List GEv => match x with | x30 => (⟨[(3, .ref (7, 0) 1 0 (len (qGEv x30)))], [((7, 0), .arr 1 3 (qGEv x30))]⟩ : St))
    (fun x : List GEv => some (x) = some o1)
    (_, _, _, ()) hl1 ?_ ?_ ?_
  · rintro ⟨n, t0, t1, ⟨⟩⟩ e1
    refine cov_of [((7, 0), (7, 0))] ?_
    cbv
    all_goals (have e1_0 := congrArg (fun s => s.2.1) e1; dsimp only at e1_0; subst e1_0; have e1_1 := congrArg (fun s => s.2.2.1) e1; dsimp only at e1_1; subst e1_1; cases hC; subst he_GEv; (first | (simp; done) | (simp <;> first | rfl | omega | grind)))
  · rintro x30 hx
    have hx := Option.some.inj hx
    subst hx
    have hh := hq1
    cbv
    subst hr hp
    cases hh
    cases hC; subst he_GEv; first | (simp; done) | (simp <;> first | rfl | omega | grind)
  · rintro ⟨n, s16, s17, ⟨⟩⟩ N1 D1 hh hN1 hD1 hQ1
    replace hN1 := fun σ' n' a0 a1 (h : laws_toEvS.l0 k p0 n' a0 a1 = some o1) => hN1 σ' (n', a0, a1, ()) h
    replace hD1 := fun σ' (a0 : List GEv) (h : some (a0) = some o1) => hD1 σ' a0 h
    cases n with
    | zero => dsimp only at hh; unfold laws_toEvS.l0 at hh; cases hh
    | succ n =>
    dsimp only at hh
    unfold laws_toEvS.l0 at hh
    cbv
    replace hh := if_or hh
    rcases hh with ⟨b31, hh⟩ | ⟨b31, hh⟩
    · have f32 : (lt s17 (cast (len (qGEv p0)))) = true := by cases hC; subst he_GEv; first | exact decide_eq_true b31 | (simp; done) | (simp; omega) | (simp at b31 ⊢; omega) | (simp at b31 ⊢; exact b31)
      rw [f32]; cbv
      replace hh := req_some hh
      obtain ⟨h33, hh⟩ := hh
      replace hh := bind_some hh
      obtain ⟨⟨e34_Sym, e34_At, e34_Val⟩, h35, hh⟩ := hh
      refine ⟨[.lit (.int .i64 e34_Sym), .lit (.int .i64 e34_At), .lit (.int .i64 e34_Val)], (by cases hC; subst he_GEv; exact decide_eq_false (Int.not_lt.2 (by first | exact h33 | (simp; done) | (simp; omega) | (simp at h33 ⊢; omega) | (simp at h33 ⊢; exact h33)))), (by cases hC; subst he_GEv; first | exact r_GEv_get h35 | simp [h35]), ?_⟩
      cbv
      replace hh := bind_some hh
      obtain ⟨⟨x37_Sym, x37_At, x37_Val⟩, h36, hh⟩ := hh
      have f38 := c_laws_toEv h36
      try rw [he_GEv] at f38
      refine ⟨_, _, hF _ _ _ _ _ _ f38 (by cases hC; subst he_GEv; simp) rfl, ?_⟩
      cbv
      replace hh := req_some hh
      obtain ⟨h39, hh⟩ := hh
      replace hh := req_some hh
      obtain ⟨h40, hh⟩ := hh
      replace h40 : s17 < (s16.length : Nat) := h40
      refine ⟨(by cases hC; subst he_GEv; exact decide_eq_false (Int.not_lt.2 (by first | exact h39 | (simp; done) | (simp; omega) | (simp at h39 ⊢; omega) | (simp at h39 ⊢; exact h39)))), (by cases hC; subst he_GEv; exact decide_eq_true (by first | exact h40 | (simp; done) | (simp; omega) | (simp at h40 ⊢; omega) | (simp at h40 ⊢; exact h40))), ?_⟩
      replace hh := bind_some hh
      obtain ⟨⟨e41_Sym, e41_At, e41_Val⟩, h42, hh⟩ := hh
      refine ⟨[.lit (.int .i64 e41_Sym), .lit (.int .i64 e41_At), .lit (.int .i64 e41_Val)], (by cases hC; subst he_GEv; first | exact r_GEv_get h42 | (simp [h42]; done) | (have q := r_GEv_get h42; rw [r_GEv_map] at q; simpa [List.map] using q)), ?_⟩
      cbv
      refine hN1 _ _ _ _ hh (Nat.lt_succ_self _) ?_
      rintro ⟨n, t0, t1, ⟨⟩⟩ e1
      refine cov_of [((7, 0), (7, 0))] ?_
      cbv
      all_goals (have e1_0 := congrArg (fun s => s.2.1) e1; dsimp only at e1_0; subst e1_0; have e1_1 := congrArg (fun s => s.2.2.1) e1; dsimp only at e1_1; subst e1_1; cases hC; subst he_GEv; (first | (simp; done) | (simp <;> first | rfl | omega | grind)))
    · have f32 : (lt s17 (cast (len (qGEv p0)))) = false := by cases hC; subst he_GEv; first | exact decide_eq_false b31 | (simp; done) | (simp; omega) | (simp at b31 ⊢; omega) | (simp at b31 ⊢; exact b31)
      rw [f32]; cbv
      refine hD1 _ _ hh ?_
      rintro t0 e1
      refine cov_of [((7, 0), (7, 0))] ?_
      cbv
      all_goals (subst e1; cases hC; subst he_GEv; (first | (simp; done) | (simp <;> first | rfl | omega | grind)))

theorem c_spec_EvOk {p0 : GEv} {r : Bool} (hh : spec_EvOk.f p0 = some r) : FunW P 72 [.agg [.lit (.int .i64 p0.Sym), .lit (.int .i64 p0.At), .lit (.int .i64 p0.Val)]] [.hole] (.lit (.bool r)) := by
  obtain ⟨p0_Sym, p0_At, p0_Val⟩ := p0
  unfold spec_EvOk.f at hh
  refine fun_go2 eok mixed (ts := [(2, none)]) (rm := [.own]) (gs := [1000000]) (pm := [.skip]) Try.func72 (by kernel_rfl) (by kernel_rfl) (by kernel_rfl) ?_
  intro Fn LW len cast toNat wrap add sub mul bin lt eq At set part app fz' rep nadd nmax ssize sext sget scat seq slt Wide Flat Ones Room r' post' hC hF hr hp
  cbv
  replace hh := if_or hh
  rcases hh with ⟨b1, hh⟩ | ⟨b1, hh⟩
  · have f2 : (lt p0_Sym 0) = true := by cases hC; exact decide_eq_true b1
    rw [f2]; cbv
    subst hr hp
    cases hh
    cases hC; first | (simp; done) | (simp <;> first | rfl | omega | grind)
  · have f2 : (lt p0_Sym 0) = false := by cases hC; exact decide_eq_false b1
    rw [f2]; cbv
    replace hh := if_or hh
    rcases hh with ⟨b3, hh⟩ | ⟨b3, hh⟩
    · have f4 : (lt p0_Sym 5) = true := by cases hC; exact decide_eq_true b3
      rw [f4]; cbv
      replace hh := if_or hh
      rcases hh with ⟨b5, hh⟩ | ⟨b5, hh⟩
      · have f6 : (lt p0_At 1) = true := by cases hC; exact decide_eq_true b5
        rw [f6]; cbv
        subst hr hp
        cases hh
        cases hC; first | (simp; done) | (simp <;> first | rfl | omega | grind)
      · have f6 : (lt p0_At 1) = false := by cases hC; exact decide_eq_false b5
        rw [f6]; cbv
        replace hh := if_or hh
        rcases hh with ⟨b7, hh⟩ | ⟨b7, hh⟩
        · have f8 : (lt 1000 p0_At) = true := by cases hC; exact decide_eq_true b7
          rw [f8]; cbv
          subst hr hp
          cases hh
          cases hC; first | (simp; done) | (simp <;> first | rfl | omega | grind)
        · have f8 : (lt 1000 p0_At) = false := by cases hC; exact decide_eq_false b7
          rw [f8]; cbv
          replace hh := if_or hh
          rcases hh with ⟨b9, hh⟩ | ⟨b9, hh⟩
          · have f10 : (lt p0_Val 0) = true := by cases hC; exact decide_eq_true b9
            rw [f10]; cbv
            subst hr hp
            cases hh
            cases hC; first | (simp; done) | (simp <;> first | rfl | omega | grind)
          · have f10 : (lt p0_Val 0) = false := by cases hC; exact decide_eq_false b9
            rw [f10]; cbv
            subst hr hp
            cases hh
            cases hC; first | (simp; done) | (simp <;> first | rfl | omega | grind)
    · have f4 : (lt p0_Sym 5) = false := by cases hC; exact decide_eq_false b3
      rw [f4]; cbv
      subst hr hp
      cases hh
      cases hC; first | (simp; done) | (simp <;> first | rfl | omega | grind)

theorem c_spec_EvsOk {k : Nat} {p0 : List GEv} {r : Bool} (hh : spec_EvsOk.f k p0 = some r) : FunW P 38 [.tree (r_GEv p0)] [.hole] (.lit (.bool r)) := by
  unfold spec_EvsOk.f at hh
  refine fun_go2 eok mixed (ts := [(2, none)]) (rm := [.own]) (gs := [1000000]) (pm := [.skip]) Try.func38 (by kernel_rfl) (by kernel_rfl) (by kernel_rfl) ?_
  intro Fn LW len cast toNat wrap add sub mul bin lt eq At set part app fz' rep nadd nmax ssize sext sget scat seq slt Wide Flat Ones Room r' post' hC hF hr hp
  generalize he_GEv : r_GEv = qGEv
  cbv
  replace hh := if_or hh
  rcases hh with ⟨b1, hh⟩ | ⟨b1, hh⟩
  · have f2 : (lt 24 (cast (len (qGEv p0)))) = true := by cases hC; subst he_GEv; first | exact decide_eq_true b1 | (simp; done) | (simp; omega) | (simp at b1 ⊢; omega) | (simp at b1 ⊢; exact b1)
    rw [f2]; cbv
    subst hr hp
    cases hh
    cases hC; subst he_GEv; first | (simp; done) | (simp <;> first | rfl | omega | grind)
  · have f2 : (lt 24 (cast (len (qGEv p0)))) = false := by cases hC; subst he_GEv; first | exact decide_eq_false b1 | (simp; done) | (simp; omega) | (simp at b1 ⊢; omega) | (simp at b1 ⊢; exact b1)
    rw [f2]; cbv
    replace hh := bind_some hh
    obtain ⟨o1, hl1, hq1⟩ := hh
    refine loop_go3 hC eok mixed
      (fun s : Nat × Int × Unit => match s with | (_, s23, _) => (⟨[(0, .tree (qGEv p0)), (3, .lit (.int .i64 s23))], []⟩ : St))
      (fun s : Nat × Int × Unit => spec_EvsOk.l0 k p0 s.1 s.2.1 = some o1)
      (fun s => s.1) (fun _ => .exit 0)
      (fun x : Unit => match x with | _ => (⟨[], []⟩ : St))
      (fun x : Unit => some (.ok x) = some o1)
      (_, _, ()) hl1 ?_ ?_ ?_
    · rintro ⟨n, t0, ⟨⟩⟩ e1
      refine cov_of [] ?_
      cbv
      all_goals (have e1_0 := congrArg (fun s => s.2.1) e1; dsimp only at e1_0; subst e1_0; cases hC; subst he_GEv; (first | (simp; done) | (simp <;> first | rfl | omega | grind)))
    · rintro ⟨⟩ hx
      have hx := Option.some.inj hx
      subst hx
      have hh := hq1
      cbv
      subst hr hp
      cases hh
      cases hC; subst he_GEv; first | (simp; done) | (simp <;> first | rfl | omega | grind)
    · rintro ⟨n, s23, ⟨⟩⟩ N1 D1 hh hN1 hD1 hQ1
      replace hN1 := fun σ' n' a0 (h : spec_EvsOk.l0 k p0 n' a0 = some o1) => hN1 σ' (n', a0, ()) h
      replace hD1 := fun σ'  (h : some (Except.ok ()) = some o1) => hD1 σ' () h
      cases n with
      | zero => dsimp only at hh; unfold spec_EvsOk.l0 at hh; cases hh
      | succ n =>
      dsimp only at hh
      unfold spec_EvsOk.l0 at hh
      cbv
      replace hh := if_or hh
      rcases hh with ⟨b44, hh⟩ | ⟨b44, hh⟩
      · have f45 : (lt s23 (cast (len (qGEv p0)))) = true := by cases hC; subst he_GEv; first | exact decide_eq_true b44 | (simp; done) | (simp; omega) | (simp at b44 ⊢; omega) | (simp at b44 ⊢; exact b44)
        rw [f45]; cbv
        replace hh := req_some hh
        obtain ⟨h46, hh⟩ := hh
        replace hh := bind_some hh
        obtain ⟨⟨e47_Sym, e47_At, e47_Val⟩, h48, hh⟩ := hh
        refine ⟨[.lit (.int .i64 e47_Sym), .lit (.int .i64 e47_At), .lit (.int .i64 e47_Val)], (by cases hC; subst he_GEv; exact decide_eq_false (Int.not_lt.2 (by first | exact h46 | (simp; done) | (simp; omega) | (simp at h46 ⊢; omega) | (simp at h46 ⊢; exact h46)))), (by cases hC; subst he_GEv; first | exact r_GEv_get h48 | simp [h48]), ?_⟩
        cbv
        replace hh := bind_some hh
        obtain ⟨x50, h49, hh⟩ := hh
        have f51 := c_spec_EvOk h49
        try rw [he_GEv] at f51
        refine ⟨_, _, hF _ _ _ _ _ _ f51 (by cases hC; subst he_GEv; simp) rfl, ?_⟩
        cbv
        replace hh := if_or hh
        rcases hh with ⟨b52, hh⟩ | ⟨b52, hh⟩
        · have f53 : x50 = true := by exact b52
          rw [f53]; cbv
          replace hh := if_or hh
          rcases hh with ⟨b54, hh⟩ | ⟨b54, hh⟩
          · have f55 : (lt 0 s23) = true := by cases hC; exact decide_eq_true b54
            rw [f55]; cbv
            replace hh := req_some hh
            obtain ⟨h56, hh⟩ := hh
            replace hh := bind_some hh
            obtain ⟨⟨e57_Sym, e57_At, e57_Val⟩, h58, hh⟩ := hh
            refine ⟨[.lit (.int .i64 e57_Sym), .lit (.int .i64 e57_At), .lit (.int .i64 e57_Val)], (by cases hC; subst he_GEv; exact decide_eq_false (Int.not_lt.2 (by first | exact h56 | (simp; done) | (simp; omega) | (simp at h56 ⊢; omega) | (simp at h56 ⊢; exact h56)))), (by cases hC; subst he_GEv; first | exact r_GEv_get h58 | simp [h58]), ?_⟩
            cbv
            replace hh := req_some hh
            obtain ⟨h59, hh⟩ := hh
            replace hh := bind_some hh
            obtain ⟨⟨e60_Sym, e60_At, e60_Val⟩, h61, hh⟩ := hh
            refine ⟨[.lit (.int .i64 e60_Sym), .lit (.int .i64 e60_At), .lit (.int .i64 e60_Val)], (by cases hC; subst he_GEv; exact decide_eq_false (Int.not_lt.2 (by first | exact h59 | (simp; done) | (simp; omega) | (simp at h59 ⊢; omega) | (simp at h59 ⊢; exact h59)))), (by cases hC; subst he_GEv; first | exact r_GEv_get h61 | simp [h61]), ?_⟩
            cbv
            replace hh := if_or hh
            rcases hh with ⟨b62, hh⟩ | ⟨b62, hh⟩
            · have f63 : (lt e60_At e57_At) = true := by cases hC; exact decide_eq_true b62
              rw [f63]; cbv
              refine hN1 _ _ _ hh (Nat.lt_succ_self _) ?_
              rintro ⟨n, t0, ⟨⟩⟩ e1
              refine cov_of [] ?_
              cbv
              all_goals (have e1_0 := congrArg (fun s => s.2.1) e1; dsimp only at e1_0; subst e1_0; cases hC; subst he_GEv; (first | (simp; done) | (simp <;> first | rfl | omega | grind)))
            · have f63 : (lt e60_At e57_At) = false := by cases hC; exact decide_eq_false b62
              rw [f63]; cbv
              cases hh
              have hh : some _ = some _ := hq1
              refine hQ1 _ _ ?_
              cbv
              subst hr hp
              cases hh
              cases hC; subst he_GEv; first | (simp; done) | (simp <;> first | rfl | omega | grind)
          · have f55 : (lt 0 s23) = false := by cases hC; exact decide_eq_false b54
            rw [f55]; cbv
            refine hN1 _ _ _ hh (Nat.lt_succ_self _) ?_
            rintro ⟨n, t0, ⟨⟩⟩ e1
            refine cov_of [] ?_
            cbv
            all_goals (have e1_0 := congrArg (fun s => s.2.1) e1; dsimp only at e1_0; subst e1_0; cases hC; subst he_GEv; (first | (simp; done) | (simp <;> first | rfl | omega | grind)))
        · have f53 : x50 = false := by exact Bool.eq_false_iff.2 b52
          rw [f53]; cbv
          cases hh
          have hh : some _ = some _ := hq1
          refine hQ1 _ _ ?_
          cbv
          subst hr hp
          cases hh
          cases hC; subst he_GEv; first | (simp; done) | (simp <;> first | rfl | omega | grind)
      · have f45 : (lt s23 (cast (len (qGEv p0)))) = false := by cases hC; subst he_GEv; first | exact decide_eq_false b44 | (simp; done) | (simp; omega) | (simp at b44 ⊢; omega) | (simp at b44 ⊢; exact b44)
        rw [f45]; cbv
        refine hD1 _  hh ?_
        rintro ⟨⟩ e1
        refine cov_of [] ?_
        cbv
        all_goals (cases hC; subst he_GEv; (first | (simp; done) | (simp <;> first | rfl | omega | grind)))

theorem c_spec_l6End {p0 : List GEv} {r : Int} (hh : spec_l6End.f p0 = some r) : FunW P 39 [.tree (r_GEv p0)] [.hole] (.lit (.int .i64 r)) := by
  unfold spec_l6End.f at hh
  refine fun_go2 eok mixed (ts := [(2, none)]) (rm := [.own]) (gs := [1000000]) (pm := [.skip]) Try.func39 (by kernel_rfl) (by kernel_rfl) (by kernel_rfl) ?_
  intro Fn LW len cast toNat wrap add sub mul bin lt eq At set part app fz' rep nadd nmax ssize sext sget scat seq slt Wide Flat Ones Room r' post' hC hF hr hp
  generalize he_GEv : r_GEv = qGEv
  cbv
  replace hh := if_or hh
  rcases hh with ⟨b1, hh⟩ | ⟨b1, hh⟩
  · have f2 : (eq (cast (len (qGEv p0))) 0) = true := by cases hC; subst he_GEv; first | exact beq_iff_eq.2 b1 | (simp; done) | (simp; omega) | (simp at b1 ⊢; omega) | (simp at b1 ⊢; exact b1)
    rw [f2]; cbv
    subst hr hp
    cases hh
    cases hC; subst he_GEv; first | (simp; done) | (simp <;> first | rfl | omega | grind)
  · have f2 : (eq (cast (len (qGEv p0))) 0) = false := by cases hC; subst he_GEv; first | exact beq_false_of_ne b1 | (simp; done) | (simp; omega) | (simp at b1 ⊢; omega) | (simp at b1 ⊢; exact b1)
    rw [f2]; cbv
    replace hh := req_some hh
    obtain ⟨h3, hh⟩ := hh
    replace hh := bind_some hh
    obtain ⟨⟨e4_Sym, e4_At, e4_Val⟩, h5, hh⟩ := hh
    refine ⟨[.lit (.int .i64 e4_Sym), .lit (.int .i64 e4_At), .lit (.int .i64 e4_Val)], (by cases hC; subst he_GEv; exact decide_eq_false (Int.not_lt.2 (by first | exact h3 | (simp; done) | (simp; omega) | (simp at h3 ⊢; omega) | (simp at h3 ⊢; exact h3)))), (by cases hC; subst he_GEv; first | exact r_GEv_get h5 | simp [h5]), ?_⟩
    cbv
    subst hr hp
    cases hh
    cases hC; subst he_GEv; first | (simp; done) | (simp <;> first | rfl | omega | grind)

theorem c_spec_TurnLate {k : Nat} {p0 : List GEv} {p1 : Int} {r : List GEv} (hh : spec_TurnLate.f k p0 p1 = some r) : FunW P 9 [.tree (r_GEv p0), .lit (.int .i64 p1)] [.hole, .hole] (.inl 3 (r_GEv r)) := by
  unfold spec_TurnLate.f at hh
  refine fun_go2 eok mixed (ts := [(4, none)]) (rm := [.own]) (gs := [1000000, 1000001]) (pm := [.skip, .skip]) Try.func9 (by kernel_rfl) (by kernel_rfl) (by kernel_rfl) ?_
  intro Fn LW len cast toNat wrap add sub mul bin lt eq At set part app fz' rep nadd nmax ssize sext sget scat seq slt Wide Flat Ones Room r' post' hC hF hr hp
  generalize he_GEv : r_GEv = qGEv
  cbv
  replace hh := bind_some hh
  obtain ⟨x2, h1, hh⟩ := hh
  have f3 := c_spec_EvsOk h1
  try rw [he_GEv] at f3
  refine ⟨_, _, hF _ _ _ _ _ _ f3 (by cases hC; subst he_GEv; simp) rfl, ?_⟩
  cbv
  replace hh := if_or hh
  rcases hh with ⟨b4, hh⟩ | ⟨b4, hh⟩
  · have f5 : x2 = true := by exact b4
    rw [f5]; cbv
    replace hh := if_or hh
    rcases hh with ⟨b6, hh⟩ | ⟨b6, hh⟩
    · have f7 : (lt p1 0) = true := by cases hC; exact decide_eq_true b6
      rw [f7]; cbv
      subst hr hp
      cases hh
      cases hC; subst he_GEv; first | (simp; done) | (simp <;> first | rfl | omega | grind)
    · have f7 : (lt p1 0) = false := by cases hC; exact decide_eq_false b6
      rw [f7]; cbv
      replace hh := if_or hh
      rcases hh with ⟨b8, hh⟩ | ⟨b8, hh⟩
      · have f9 : (lt 1000 p1) = true := by cases hC; exact decide_eq_true b8
        rw [f9]; cbv
        subst hr hp
        cases hh
        cases hC; subst he_GEv; first | (simp; done) | (simp <;> first | rfl | omega | grind)
      · have f9 : (lt 1000 p1) = false := by cases hC; exact decide_eq_false b8
        rw [f9]; cbv
        replace hh := bind_some hh
        obtain ⟨x11, h10, hh⟩ := hh
        have f12 := c_spec_l6End h10
        try rw [he_GEv] at f12
        refine ⟨_, _, hF _ _ _ _ _ _ f12 (by cases hC; subst he_GEv; simp) rfl, ?_⟩
        cbv
        replace hh := if_or hh
        rcases hh with ⟨b13, hh⟩ | ⟨b13, hh⟩
        · have f14 : (lt 1000 (wrap .i64 (add x11 p1))) = true := by cases hC; exact decide_eq_true b13
          rw [f14]; cbv
          subst hr hp
          cases hh
          cases hC; subst he_GEv; first | (simp; done) | (simp <;> first | rfl | omega | grind)
        · have f14 : (lt 1000 (wrap .i64 (add x11 p1))) = false := by cases hC; exact decide_eq_false b13
          rw [f14]; cbv
          replace hh := bind_some hh
          obtain ⟨o1, hl1, hq1⟩ := hh
          refine loop_go3 hC eok mixed
            (fun s : Nat × (List GEv) × Int × Unit => match s with | (_, s21, s22, _) => (⟨[(0, .tree (qGEv p0)), (1, .lit (.int .i64 p1)), (5, .ref (8, 0) 1 0 (len (qGEv s21))), (6, .lit (.int .i64 s22))], [((8, 0), .arr 1 3 (qGEv s21))]⟩ : St))
            (fun s : Nat × (List GEv) × Int × Unit => spec_TurnLate.l0 k p0 p1 s.1 s.2.1 s.2.2.1 = some o1)
            (fun s => s.1) (fun _ => .exit 0)
            (fun x : List GEv => match x with | x29 => (⟨[(5, .ref (8, 0) 1 0 (len (qGEv x29)))], [((8, 0), .arr 1 3 (qGEv x29))]⟩ : St))
            (fun x : List GEv => some (x) = some o1)
            (_, _, _, ()) hl1 ?_ ?_ ?_
          · rintro ⟨n, t0, t1, ⟨⟩⟩ e1
            refine cov_of [((8, 0), (8, 0))] ?_
            cbv
            all_goals (have e1_0 := congrArg (fun s => s.2.1) e1; dsimp only at e1_0; subst e1_0; have e1_1 := congrArg (fun s => s.2.2.1) e1; dsimp only at e1_1; subst e1_1; cases hC; subst he_GEv; (first | (simp; done) | (simp <;> first | rfl | omega | grind)))
          · rintro x29 hx
            have hx := Option.some.inj hx
            subst hx
            have hh := hq1
            cbv
            subst hr hp
            cases hh
            cases hC; subst he_GEv; first | (simp; done) | (simp <;> first | rfl | omega | grind)
          · rintro ⟨n, s21, s22, ⟨⟩⟩ N1 D1 hh hN1 hD1 hQ1
            replace hN1 := fun σ' n' a0 a1 (h : spec_TurnLate.l0 k p0 p1 n' a0 a1 = some o1) => hN1 σ' (n', a0, a1, ()) h
            replace hD1 := fun σ' (a0 : List GEv) (h : some (a0) = some o1) => hD1 σ' a0 h
            cases n with
            | zero => dsimp only at hh; unfold spec_TurnLate.l0 at hh; cases hh
            | succ n =>
            dsimp only at hh
            unfold spec_TurnLate.l0 at hh
            cbv
            replace hh := if_or hh
            rcases hh with ⟨b30, hh⟩ | ⟨b30, hh⟩
            · have f31 : (lt s22 (cast (len (qGEv p0)))) = true := by cases hC; subst he_GEv; first | exact decide_eq_true b30 | (simp; done) | (simp; omega) | (simp at b30 ⊢; omega) | (simp at b30 ⊢; exact b30)
              rw [f31]; cbv
              replace hh := req_some hh
              obtain ⟨h32, hh⟩ := hh
              replace hh := bind_some hh
              obtain ⟨⟨e33_Sym, e33_At, e33_Val⟩, h34, hh⟩ := hh
              refine ⟨[.lit (.int .i64 e33_Sym), .lit (.int .i64 e33_At), .lit (.int .i64 e33_Val)], (by cases hC; subst he_GEv; exact decide_eq_false (Int.not_lt.2 (by first | exact h32 | (simp; done) | (simp; omega) | (simp at h32 ⊢; omega) | (simp at h32 ⊢; exact h32)))), (by cases hC; subst he_GEv; first | exact r_GEv_get h34 | simp [h34]), ?_⟩
              cbv
              replace hh := req_some hh
              obtain ⟨h35, hh⟩ := hh
              refine ⟨⟨(by cases hC; subst he_GEv; simp), (by cases hC; subst he_GEv; first | exact r_GEv_ones _ | (simp [ocell]; done))⟩, ?_⟩
              refine ⟨⟨(by cases hC; subst he_GEv; first | (simp; done) | (simp; first | omega | (simp only [natc] at *; omega))), by cases hC; subst he_GEv; first | exact h35 | (simp; done) | (simp; omega) | (simp at h35 ⊢; omega) | (simp at h35 ⊢; exact h35)⟩, ?_⟩
              refine hN1 _ _ _ _ hh (Nat.lt_succ_self _) ?_
              rintro ⟨n, t0, t1, ⟨⟩⟩ e1
              refine cov_of [((8, 0), (46, 0))] ?_
              cbv
              all_goals (have e1_0 := congrArg (fun s => s.2.1) e1; dsimp only at e1_0; subst e1_0; have e1_1 := congrArg (fun s => s.2.2.1) e1; dsimp only at e1_1; subst e1_1; cases hC; subst he_GEv; (first | (simp; done) | (simp <;> first | rfl | omega | grind)))
            · have f31 : (lt s22 (cast (len (qGEv p0)))) = false := by cases hC; subst he_GEv; first | exact decide_eq_false b30 | (simp; done) | (simp; omega) | (simp at b30 ⊢; omega) | (simp at b30 ⊢; exact b30)
              rw [f31]; cbv
              refine hD1 _ _ hh ?_
              rintro t0 e1
              refine cov_of [((8, 0), (8, 0))] ?_
              cbv
              all_goals (subst e1; cases hC; subst he_GEv; (first | (simp; done) | (simp <;> first | rfl | omega | grind)))
  · have f5 : x2 = false := by exact Bool.eq_false_iff.2 b4
    rw [f5]; cbv
    subst hr hp
    cases hh
    cases hC; subst he_GEv; first | (simp; done) | (simp <;> first | rfl | omega | grind)
theorem c_spec_TurnLate_L0 {k : Nat} {p0 : List GEv} {p1 : Int} {r : List GEv} (hh : spec_TurnLate.f k p0 p1 = some r) : FunW P 9 [.inl 3 (r_GEv p0), .lit (.int .i64 p1)] [.inl 3 (r_GEv p0), .hole] (.inl 3 (r_GEv r)) :=
  (c_spec_TurnLate hh).lend (r_GEv_ownd _) (.lend (congrArg A.tree (r_GEv_fz _).symm) (.same rfl .nil))

theorem c_impl_in {p0 : Int} {p1 : Int} {p2 : Int} {r : Bool} (hh : impl_in.f p0 p1 p2 = some r) : FunW P 42 [.lit (.int .i64 p0), .lit (.int .i64 p1), .lit (.int .i64 p2)] [.hole, .hole, .hole] (.lit (.bool r)) := by
  unfold impl_in.f at hh
  refine fun_go2 eok mixed (ts := [(6, none)]) (rm := [.own]) (gs := [1000000, 1000001, 1000002]) (pm := [.skip, .skip, .skip]) Try.func42 (by kernel_rfl) (by kernel_rfl) (by kernel_rfl) ?_
  intro Fn LW len cast toNat wrap add sub mul bin lt eq At set part app fz' rep nadd nmax ssize sext sget scat seq slt Wide Flat Ones Room r' post' hC hF hr hp
  cbv
  replace hh := if_or hh
  rcases hh with ⟨b1, hh⟩ | ⟨b1, hh⟩
  · have f2 : (lt p0 p1) = true := by cases hC; exact decide_eq_true b1
    rw [f2]; cbv
    subst hr hp
    cases hh
    cases hC; first | (simp; done) | (simp <;> first | rfl | omega | grind)
  · have f2 : (lt p0 p1) = false := by cases hC; exact decide_eq_false b1
    rw [f2]; cbv
    subst hr hp
    cases hh
    cases hC; first | (simp; done) | (simp <;> first | rfl | omega | grind)

theorem c_impl_isSym {p0 : Int} {r : Bool} (hh : impl_isSym.f p0 = some r) : FunW P 74 [.lit (.int .i64 p0)] [.hole] (.lit (.bool r)) := by
  unfold impl_isSym.f at hh
  refine fun_go2 eok mixed (ts := [(2, none)]) (rm := [.own]) (gs := [1000000]) (pm := [.skip]) Try.func74 (by kernel_rfl) (by kernel_rfl) (by kernel_rfl) ?_
  intro Fn LW len cast toNat wrap add sub mul bin lt eq At set part app fz' rep nadd nmax ssize sext sget scat seq slt Wide Flat Ones Room r' post' hC hF hr hp
  cbv
  replace hh := bind_some hh
  obtain ⟨x2, h1, hh⟩ := hh
  have f3 := c_impl_in h1
  refine ⟨_, _, hF _ _ _ _ _ _ f3 (by cases hC; simp) rfl, ?_⟩
  cbv
  subst hr hp
  cases hh
  cases hC; first | (simp; done) | (simp <;> first | rfl | omega | grind)

theorem c_impl_EvOk {p0 : GEv} {r : Bool} (hh : impl_EvOk.f p0 = some r) : FunW P 73 [.agg [.lit (.int .i64 p0.Sym), .lit (.int .i64 p0.At), .lit (.int .i64 p0.Val)]] [.hole] (.lit (.bool r)) := by
  obtain ⟨p0_Sym, p0_At, p0_Val⟩ := p0
  unfold impl_EvOk.f at hh
  refine fun_go2 eok mixed (ts := [(2, none)]) (rm := [.own]) (gs := [1000000]) (pm := [.skip]) Try.func73 (by kernel_rfl) (by kernel_rfl) (by kernel_rfl) ?_
  intro Fn LW len cast toNat wrap add sub mul bin lt eq At set part app fz' rep nadd nmax ssize sext sget scat seq slt Wide Flat Ones Room r' post' hC hF hr hp
  cbv
  replace hh := bind_some hh
  obtain ⟨x2, h1, hh⟩ := hh
  have f3 := c_impl_isSym h1
  refine ⟨_, _, hF _ _ _ _ _ _ f3 (by cases hC; simp) rfl, ?_⟩
  cbv
  replace hh := if_or hh
  rcases hh with ⟨b4, hh⟩ | ⟨b4, hh⟩
  · have f5 : x2 = true := by exact b4
    rw [f5]; cbv
    replace hh := bind_some hh
    obtain ⟨x7, h6, hh⟩ := hh
    have f8 := c_impl_in h6
    refine ⟨_, _, hF _ _ _ _ _ _ f8 (by cases hC; simp) rfl, ?_⟩
    cbv
    replace hh := if_or hh
    rcases hh with ⟨b9, hh⟩ | ⟨b9, hh⟩
    · have f10 : x7 = true := by exact b9
      rw [f10]; cbv
      replace hh := bind_some hh
      obtain ⟨x12, h11, hh⟩ := hh
      have f13 := c_impl_in h11
      refine ⟨_, _, hF _ _ _ _ _ _ f13 (by cases hC; simp) rfl, ?_⟩
      cbv
      subst hr hp
      cases hh
      cases hC; first | (simp; done) | (simp <;> first | rfl | omega | grind)
    · have f10 : x7 = false := by exact Bool.eq_false_iff.2 b9
      rw [f10]; cbv
      subst hr hp
      cases hh
      cases hC; first | (simp; done) | (simp <;> first | rfl | omega | grind)
  · have f5 : x2 = false := by exact Bool.eq_false_iff.2 b4
    rw [f5]; cbv
    subst hr hp
    cases hh
    cases hC; first | (simp; done) | (simp <;> first | rfl | omega | grind)

theorem c_impl_EvsOk {k : Nat} {p0 : List GEv} {r : Bool} (hh : impl_EvsOk.f k p0 = some r) : FunW P 41 [.tree (r_GEv p0)] [.hole] (.lit (.bool r)) := by
  unfold impl_EvsOk.f at hh
  refine fun_go2 eok mixed (ts := [(2, none)]) (rm := [.own]) (gs := [1000000]) (pm := [.skip]) Try.func41 (by kernel_rfl) (by kernel_rfl) (by kernel_rfl) ?_
  intro Fn LW len cast toNat wrap add sub mul bin lt eq At set part app fz' rep nadd nmax ssize sext sget scat seq slt Wide Flat Ones Room r' post' hC hF hr hp
  generalize he_GEv : r_GEv = qGEv
  cbv
  replace hh := bind_some hh
  obtain ⟨o1, hl1, hq1⟩ := hh
  refine loop_go3 hC eok mixed
    (fun s : Nat × Int × Unit => match s with | (_, s18, _) => (⟨[(0, .tree (qGEv p0)), (5, .tree (qGEv p0)), (6, .lit (.int .i64 (cast (len (qGEv p0))))), (7, .lit (.int .i64 s18))], []⟩ : St))
    (fun s : Nat × Int × Unit => impl_EvsOk.l0 k p0 s.1 s.2.1 = some o1)
    (fun s => s.1) (fun _ => .exit 0)
    (fun x : Unit => match x with | _ => (⟨[(0, .tree (qGEv p0))], []⟩ : St))
    (fun x : Unit => some (.ok x) = some o1)
    (_, _, ()) hl1 ?_ ?_ ?_
  · rintro ⟨n, t0, ⟨⟩⟩ e1
    refine cov_of [] ?_
    cbv
    all_goals (have e1_0 := congrArg (fun s => s.2.1) e1; dsimp only at e1_0; subst e1_0; cases hC; subst he_GEv; (first | (simp; done) | (simp <;> first | rfl | omega | grind)))
  · rintro ⟨⟩ hx
    have hx := Option.some.inj hx
    subst hx
    have hh := hq1
    cbv
    subst hr hp
    cases hh
    cases hC; subst he_GEv; first | (simp; done) | (simp <;> first | rfl | omega | grind)
  · rintro ⟨n, s18, ⟨⟩⟩ N1 D1 hh hN1 hD1 hQ1
    replace hN1 := fun σ' n' a0 (h : impl_EvsOk.l0 k p0 n' a0 = some o1) => hN1 σ' (n', a0, ()) h
    replace hD1 := fun σ'  (h : some (Except.ok ()) = some o1) => hD1 σ' () h
    cases n with
    | zero => dsimp only at hh; unfold impl_EvsOk.l0 at hh; cases hh
    | succ n =>
    dsimp only at hh
    unfold impl_EvsOk.l0 at hh
    cbv
    replace hh := if_or hh
    rcases hh with ⟨b36, hh⟩ | ⟨b36, hh⟩
    · have f37 : (lt s18 (cast (len (qGEv p0)))) = true := by cases hC; subst he_GEv; first | exact decide_eq_true b36 | (simp; done) | (simp; omega) | (simp at b36 ⊢; omega) | (simp at b36 ⊢; exact b36)
      rw [f37]; cbv
      replace hh := req_some hh
      obtain ⟨h38, hh⟩ := hh
      replace hh := bind_some hh
      obtain ⟨⟨e39_Sym, e39_At, e39_Val⟩, h40, hh⟩ := hh
      refine ⟨[.lit (.int .i64 e39_Sym), .lit (.int .i64 e39_At), .lit (.int .i64 e39_Val)], (by cases hC; subst he_GEv; exact decide_eq_false (Int.not_lt.2 (by first | exact h38 | (simp; done) | (simp; omega) | (simp at h38 ⊢; omega) | (simp at h38 ⊢; exact h38)))), (by cases hC; subst he_GEv; first | exact r_GEv_get h40 | simp [h40]), ?_⟩
      cbv
      replace hh := bind_some hh
      obtain ⟨x42, h41, hh⟩ := hh
      have f43 := c_impl_EvOk h41
      try rw [he_GEv] at f43
      refine ⟨_, _, hF _ _ _ _ _ _ f43 (by cases hC; subst he_GEv; simp) rfl, ?_⟩
      cbv
      replace hh := if_or hh
      rcases hh with ⟨b44, hh⟩ | ⟨b44, hh⟩
      · have f45 : x42 = true := by exact b44
        rw [f45]; cbv
        replace hh := if_or hh
        rcases hh with ⟨b46, hh⟩ | ⟨b46, hh⟩
        · have f47 : (lt 0 s18) = true := by cases hC; exact decide_eq_true b46
          rw [f47]; cbv
          replace hh := req_some hh
          obtain ⟨h48, hh⟩ := hh
          replace hh := bind_some hh
          obtain ⟨⟨e49_Sym, e49_At, e49_Val⟩, h50, hh⟩ := hh
          refine ⟨[.lit (.int .i64 e49_Sym), .lit (.int .i64 e49_At), .lit (.int .i64 e49_Val)], (by cases hC; subst he_GEv; exact decide_eq_false (Int.not_lt.2 (by first | exact h48 | (simp; done) | (simp; omega) | (simp at h48 ⊢; omega) | (simp at h48 ⊢; exact h48)))), (by cases hC; subst he_GEv; first | exact r_GEv_get h50 | simp [h50]), ?_⟩
          cbv
          replace hh := if_or hh
          rcases hh with ⟨b51, hh⟩ | ⟨b51, hh⟩
          · have f52 : (lt e49_At e39_At) = true := by cases hC; exact decide_eq_true b51
            rw [f52]; cbv
            refine hN1 _ _ _ hh (Nat.lt_succ_self _) ?_
            rintro ⟨n, t0, ⟨⟩⟩ e1
            refine cov_of [] ?_
            cbv
            all_goals (have e1_0 := congrArg (fun s => s.2.1) e1; dsimp only at e1_0; subst e1_0; cases hC; subst he_GEv; (first | (simp; done) | (simp <;> first | rfl | omega | grind)))
          · have f52 : (lt e49_At e39_At) = false := by cases hC; exact decide_eq_false b51
            rw [f52]; cbv
            cases hh
            have hh : some _ = some _ := hq1
            refine hQ1 _ _ ?_
            cbv
            subst hr hp
            cases hh
            cases hC; subst he_GEv; first | (simp; done) | (simp <;> first | rfl | omega | grind)
        · have f47 : (lt 0 s18) = false := by cases hC; exact decide_eq_false b46
          rw [f47]; cbv
          refine hN1 _ _ _ hh (Nat.lt_succ_self _) ?_
          rintro ⟨n, t0, ⟨⟩⟩ e1
          refine cov_of [] ?_
          cbv
          all_goals (have e1_0 := congrArg (fun s => s.2.1) e1; dsimp only at e1_0; subst e1_0; cases hC; subst he_GEv; (first | (simp; done) | (simp <;> first | rfl | omega | grind)))
      · have f45 : x42 = false := by exact Bool.eq_false_iff.2 b44
        rw [f45]; cbv
        cases hh
        have hh : some _ = some _ := hq1
        refine hQ1 _ _ ?_
        cbv
        subst hr hp
        cases hh
        cases hC; subst he_GEv; first | (simp; done) | (simp <;> first | rfl | omega | grind)
    · have f37 : (lt s18 (cast (len (qGEv p0)))) = false := by cases hC; subst he_GEv; first | exact decide_eq_false b36 | (simp; done) | (simp; omega) | (simp at b36 ⊢; omega) | (simp at b36 ⊢; exact b36)
      rw [f37]; cbv
      refine hD1 _  hh ?_
      rintro ⟨⟩ e1
      refine cov_of [] ?_
      cbv
      all_goals (cases hC; subst he_GEv; (first | (simp; done) | (simp <;> first | rfl | omega | grind)))

theorem c_impl_now {p0 : List GEv} {r : Int} (hh : impl_now.f p0 = some r) : FunW P 43 [.tree (r_GEv p0)] [.hole] (.lit (.int .i64 r)) := by
  unfold impl_now.f at hh
  refine fun_go2 eok mixed (ts := [(2, none)]) (rm := [.own]) (gs := [1000000]) (pm := [.skip]) Try.func43 (by kernel_rfl) (by kernel_rfl) (by kernel_rfl) ?_
  intro Fn LW len cast toNat wrap add sub mul bin lt eq At set part app fz' rep nadd nmax ssize sext sget scat seq slt Wide Flat Ones Room r' post' hC hF hr hp
  generalize he_GEv : r_GEv = qGEv
  cbv
  replace hh := if_or hh
  rcases hh with ⟨b1, hh⟩ | ⟨b1, hh⟩
  · have f2 : (eq (cast (len (qGEv p0))) 0) = true := by cases hC; subst he_GEv; first | exact beq_iff_eq.2 b1 | (simp; done) | (simp; omega) | (simp at b1 ⊢; omega) | (simp at b1 ⊢; exact b1)
    rw [f2]; cbv
    subst hr hp
    cases hh
    cases hC; subst he_GEv; first | (simp; done) | (simp <;> first | rfl | omega | grind)
  · have f2 : (eq (cast (len (qGEv p0))) 0) = false := by cases hC; subst he_GEv; first | exact beq_false_of_ne b1 | (simp; done) | (simp; omega) | (simp at b1 ⊢; omega) | (simp at b1 ⊢; exact b1)
    rw [f2]; cbv
    replace hh := req_some hh
    obtain ⟨h3, hh⟩ := hh
    replace hh := bind_some hh
    obtain ⟨⟨e4_Sym, e4_At, e4_Val⟩, h5, hh⟩ := hh
    refine ⟨[.lit (.int .i64 e4_Sym), .lit (.int .i64 e4_At), .lit (.int .i64 e4_Val)], (by cases hC; subst he_GEv; exact decide_eq_false (Int.not_lt.2 (by first | exact h3 | (simp; done) | (simp; omega) | (simp at h3 ⊢; omega) | (simp at h3 ⊢; exact h3)))), (by cases hC; subst he_GEv; first | exact r_GEv_get h5 | simp [h5]), ?_⟩
    cbv
    subst hr hp
    cases hh
    cases hC; subst he_GEv; first | (simp; done) | (simp <;> first | rfl | omega | grind)

theorem c_impl_cloneEvs {p0 : List GEv} {r : List GEv} (hh : impl_cloneEvs.f p0 = some r) : FunW P 44 [.tree (r_GEv p0)] [.hole] (.inl 3 (r_GEv r)) := by
  unfold impl_cloneEvs.f at hh
  refine fun_go2 eok mixed (ts := [(2, none)]) (rm := [.own]) (gs := [1000000]) (pm := [.skip]) Try.func44 (by kernel_rfl) (by kernel_rfl) (by kernel_rfl) ?_
  intro Fn LW len cast toNat wrap add sub mul bin lt eq At set part app fz' rep nadd nmax ssize sext sget scat seq slt Wide Flat Ones Room r' post' hC hF hr hp
  generalize he_GEv : r_GEv = qGEv
  cbv
  replace hh := req_some hh
  obtain ⟨h1, hh⟩ := hh
  refine ⟨⟨(by cases hC; subst he_GEv; first | exact r_GEv_wide _ | (simp; done)), (by cases hC; subst he_GEv; first | exact r_GEv_ones _ | (simp; done))⟩, ?_⟩
  refine ⟨by cases hC; subst he_GEv; first | exact h1 | (simp; done) | (simp; omega) | (simp at h1 ⊢; omega) | (simp at h1 ⊢; exact h1), ?_⟩
  subst hr hp
  cases hh
  cases hC; subst he_GEv; first | (simp; done) | (simp <;> first | rfl | omega | grind)

theorem c_impl_TurnLate {k : Nat} {p0 : List GEv} {p1 : Int} {r : List GEv} (hh : impl_TurnLate.f k p0 p1 = some r) : FunW P 11 [.tree (r_GEv p0), .lit (.int .i64 p1)] [.hole, .hole] (.inl 3 (r_GEv r)) := by
  unfold impl_TurnLate.f at hh
  refine fun_go2 eok mixed (ts := [(4, none)]) (rm := [.own]) (gs := [1000000, 1000001]) (pm := [.skip, .skip]) Try.func11 (by kernel_rfl) (by kernel_rfl) (by kernel_rfl) ?_
  intro Fn LW len cast toNat wrap add sub mul bin lt eq At set part app fz' rep nadd nmax ssize sext sget scat seq slt Wide Flat Ones Room r' post' hC hF hr hp
  generalize he_GEv : r_GEv = qGEv
  cbv
  replace hh := bind_some hh
  obtain ⟨x2, h1, hh⟩ := hh
  have f3 := c_impl_EvsOk h1
  try rw [he_GEv] at f3
  refine ⟨_, _, hF _ _ _ _ _ _ f3 (by cases hC; subst he_GEv; simp) rfl, ?_⟩
  cbv
  replace hh := if_or hh
  rcases hh with ⟨b4, hh⟩ | ⟨b4, hh⟩
  · have f5 : x2 = true := by exact b4
    rw [f5]; cbv
    replace hh := bind_some hh
    obtain ⟨x7, h6, hh⟩ := hh
    have f8 := c_impl_in h6
    try rw [he_GEv] at f8
    refine ⟨_, _, hF _ _ _ _ _ _ f8 (by cases hC; subst he_GEv; simp) rfl, ?_⟩
    cbv
    replace hh := if_or hh
    rcases hh with ⟨b9, hh⟩ | ⟨b9, hh⟩
    · have f10 : x7 = true := by exact b9
      rw [f10]; cbv
      replace hh := bind_some hh
      obtain ⟨x12, h11, hh⟩ := hh
      have f13 := c_impl_now h11
      try rw [he_GEv] at f13
      refine ⟨_, _, hF _ _ _ _ _ _ f13 (by cases hC; subst he_GEv; simp) rfl, ?_⟩
      cbv
      replace hh := if_or hh
      rcases hh with ⟨b14, hh⟩ | ⟨b14, hh⟩
      · have f15 : (lt 1000 (wrap .i64 (add x12 p1))) = true := by cases hC; exact decide_eq_true b14
        rw [f15]; cbv
        refine ⟨3, ?_⟩
        cbv
        subst hr hp
        cases hh
        cases hC; subst he_GEv; first | (simp; done) | (simp <;> first | rfl | omega | grind)
      · have f15 : (lt 1000 (wrap .i64 (add x12 p1))) = false := by cases hC; exact decide_eq_false b14
        rw [f15]; cbv
        replace hh := bind_some hh
        obtain ⟨x17, h16, hh⟩ := hh
        have f18 := c_impl_cloneEvs h16
        try rw [he_GEv] at f18
        refine ⟨_, _, hF _ _ _ _ _ _ f18 (by cases hC; subst he_GEv; simp) rfl, ?_⟩
        cbv
        replace hh := bind_some hh
        obtain ⟨o1, hl1, hq1⟩ := hh
        refine loop_go3 hC eok mixed
          (fun s : Nat × (List GEv) × Int × Unit => match s with | (_, s27, s28, _) => (⟨[(1, .lit (.int .i64 p1)), (5, .ref (23, 0) 1 0 (len (qGEv s27))), (25, .lit (.int .i64 (cast (len (qGEv x17))))), (26, .lit (.int .i64 s28))], [((23, 0), .arr 1 3 (qGEv s27))]⟩ : St))
          (fun s : Nat × (List GEv) × Int × Unit => impl_TurnLate.l0 k p1 x17 s.1 s.2.1 s.2.2.1 = some o1)
          (fun s => s.1) (fun _ => .exit 0)
          (fun x : List GEv => match x with | x37 => (⟨[(5, .ref (23, 0) 1 0 (len (qGEv x37)))], [((23, 0), .arr 1 3 (qGEv x37))]⟩ : St))
          (fun x : List GEv => some (x) = some o1)
          (_, _, _, ()) hl1 ?_ ?_ ?_
        · rintro ⟨n, t0, t1, ⟨⟩⟩ e1
          refine cov_of [((23, 0), (23, 0))] ?_
          cbv
          all_goals (have e1_0 := congrArg (fun s => s.2.1) e1; dsimp only at e1_0; subst e1_0; have e1_1 := congrArg (fun s => s.2.2.1) e1; dsimp only at e1_1; subst e1_1; cases hC; subst he_GEv; (first | (simp; done) | (simp <;> first | rfl | omega | grind)))
        · rintro x37 hx
          have hx := Option.some.inj hx
          subst hx
          have hh := hq1
          cbv
          subst hr hp
          cases hh
          cases hC; subst he_GEv; first | (simp; done) | (simp <;> first | rfl | omega | grind)
        · rintro ⟨n, s27, s28, ⟨⟩⟩ N1 D1 hh hN1 hD1 hQ1
          replace hN1 := fun σ' n' a0 a1 (h : impl_TurnLate.l0 k p1 x17 n' a0 a1 = some o1) => hN1 σ' (n', a0, a1, ()) h
          replace hD1 := fun σ' (a0 : List GEv) (h : some (a0) = some o1) => hD1 σ' a0 h
          cases n with
          | zero => dsimp only at hh; unfold impl_TurnLate.l0 at hh; cases hh
          | succ n =>
          dsimp only at hh
          unfold impl_TurnLate.l0 at hh
          cbv
          replace hh := if_or hh
          rcases hh with ⟨b38, hh⟩ | ⟨b38, hh⟩
          · have f39 : (lt s28 (cast (len (qGEv x17)))) = true := by cases hC; subst he_GEv; first | exact decide_eq_true b38 | (simp; done) | (simp; omega) | (simp at b38 ⊢; omega) | (simp at b38 ⊢; exact b38)
            rw [f39]; cbv
            replace hh := req_some hh
            obtain ⟨h40, hh⟩ := hh
            replace hh := req_some hh
            obtain ⟨h41, hh⟩ := hh
            replace h41 : s28 < (s27.length : Nat) := h41
            refine ⟨(by cases hC; subst he_GEv; exact decide_eq_false (Int.not_lt.2 (by first | exact h40 | (simp; done) | (simp; omega) | (simp at h40 ⊢; omega) | (simp at h40 ⊢; exact h40)))), (by cases hC; subst he_GEv; exact decide_eq_true (by first | exact h41 | (simp; done) | (simp; omega) | (simp at h41 ⊢; omega) | (simp at h41 ⊢; exact h41))), ?_⟩
            replace hh := bind_some hh
            obtain ⟨⟨e42_Sym, e42_At, e42_Val⟩, h43, hh⟩ := hh
            refine ⟨[.lit (.int .i64 e42_Sym), .lit (.int .i64 e42_At), .lit (.int .i64 e42_Val)], (by cases hC; subst he_GEv; first | exact r_GEv_get h43 | (simp [h43]; done) | (have q := r_GEv_get h43; rw [r_GEv_map] at q; simpa [List.map] using q)), ?_⟩
            cbv
            replace hh := req_some hh
            obtain ⟨h44, hh⟩ := hh
            replace hh := req_some hh
            obtain ⟨h45, hh⟩ := hh
            replace h45 : s28 < (s27.length : Nat) := h45
            refine ⟨(by cases hC; subst he_GEv; exact decide_eq_false (Int.not_lt.2 (by first | exact h44 | (simp; done) | (simp; omega) | (simp at h44 ⊢; omega) | (simp at h44 ⊢; exact h44)))), (by cases hC; subst he_GEv; exact decide_eq_true (by first | exact h45 | (simp; done) | (simp; omega) | (simp at h45 ⊢; omega) | (simp at h45 ⊢; exact h45))), ?_⟩
            refine ⟨[.lit (.int .i64 e42_Sym), .lit (.int .i64 e42_At), .lit (.int .i64 e42_Val)], (by cases hC; subst he_GEv; first | exact r_GEv_get h43 | (simp [h43]; done) | (have q := r_GEv_get h43; rw [r_GEv_map] at q; simpa [List.map] using q)), ?_⟩
            cbv
            refine hN1 _ _ _ _ hh (Nat.lt_succ_self _) ?_
            rintro ⟨n, t0, t1, ⟨⟩⟩ e1
            refine cov_of [((23, 0), (23, 0))] ?_
            cbv
            all_goals (have e1_0 := congrArg (fun s => s.2.1) e1; dsimp only at e1_0; subst e1_0; have e1_1 := congrArg (fun s => s.2.2.1) e1; dsimp only at e1_1; subst e1_1; cases hC; subst he_GEv; (first | (simp; done) | (simp <;> first | rfl | omega | grind)))
          · have f39 : (lt s28 (cast (len (qGEv x17)))) = false := by cases hC; subst he_GEv; first | exact decide_eq_false b38 | (simp; done) | (simp; omega) | (simp at b38 ⊢; omega) | (simp at b38 ⊢; exact b38)
            rw [f39]; cbv
            refine hD1 _ _ hh ?_
            rintro t0 e1
            refine cov_of [((23, 0), (23, 0))] ?_
            cbv
            all_goals (subst e1; cases hC; subst he_GEv; (first | (simp; done) | (simp <;> first | rfl | omega | grind)))
    · have f10 : x7 = false := by exact Bool.eq_false_iff.2 b9
      rw [f10]; cbv
      refine ⟨3, ?_⟩
      cbv
      subst hr hp
      cases hh
      cases hC; subst he_GEv; first | (simp; done) | (simp <;> first | rfl | omega | grind)
  · have f5 : x2 = false := by exact Bool.eq_false_iff.2 b4
    rw [f5]; cbv
    refine ⟨3, ?_⟩
    cbv
    subst hr hp
    cases hh
    cases hC; subst he_GEv; first | (simp; done) | (simp <;> first | rfl | omega | grind)
theorem c_impl_TurnLate_L0 {k : Nat} {p0 : List GEv} {p1 : Int} {r : List GEv} (hh : impl_TurnLate.f k p0 p1 = some r) : FunW P 11 [.inl 3 (r_GEv p0), .lit (.int .i64 p1)] [.inl 3 (r_GEv p0), .hole] (.inl 3 (r_GEv r)) :=
  (c_impl_TurnLate hh).lend (r_GEv_ownd _) (.lend (congrArg A.tree (r_GEv_fz _).symm) (.same rfl .nil))

theorem c_laws_eqEv {p0 : GEv} {p1 : GEv} {r : Bool} (hh : laws_eqEv.f p0 p1 = some r) : FunW P 45 [.agg [.lit (.int .i64 p0.Sym), .lit (.int .i64 p0.At), .lit (.int .i64 p0.Val)], .agg [.lit (.int .i64 p1.Sym), .lit (.int .i64 p1.At), .lit (.int .i64 p1.Val)]] [.hole, .hole] (.lit (.bool r)) := by
  obtain ⟨p0_Sym, p0_At, p0_Val⟩ := p0
  obtain ⟨p1_Sym, p1_At, p1_Val⟩ := p1
  unfold laws_eqEv.f at hh
  refine fun_go2 eok mixed (ts := [(4, none)]) (rm := [.own]) (gs := [1000000, 1000001]) (pm := [.skip, .skip]) Try.func45 (by kernel_rfl) (by kernel_rfl) (by kernel_rfl) ?_
  intro Fn LW len cast toNat wrap add sub mul bin lt eq At set part app fz' rep nadd nmax ssize sext sget scat seq slt Wide Flat Ones Room r' post' hC hF hr hp
  cbv
  replace hh := if_or hh
  rcases hh with ⟨b1, hh⟩ | ⟨b1, hh⟩
  · have f2 : (eq p0_Sym p1_Sym) = true := by cases hC; exact beq_iff_eq.2 b1
    rw [f2]; cbv
    replace hh := if_or hh
    rcases hh with ⟨b3, hh⟩ | ⟨b3, hh⟩
    · have f4 : (eq p0_At p1_At) = true := by cases hC; exact beq_iff_eq.2 b3
      rw [f4]; cbv
      replace hh := if_or hh
      rcases hh with ⟨b5, hh⟩ | ⟨b5, hh⟩
      · have f6 : (eq p0_Val p1_Val) = true := by cases hC; exact beq_iff_eq.2 b5
        rw [f6]; cbv
        subst hr hp
        cases hh
        cases hC; first | (simp; done) | (simp <;> first | rfl | omega | grind)
      · have f6 : (eq p0_Val p1_Val) = false := by cases hC; exact beq_false_of_ne b5
        rw [f6]; cbv
        subst hr hp
        cases hh
        cases hC; first | (simp; done) | (simp <;> first | rfl | omega | grind)
    · have f4 : (eq p0_At p1_At) = false := by cases hC; exact beq_false_of_ne b3
      rw [f4]; cbv
      subst hr hp
      cases hh
      cases hC; first | (simp; done) | (simp <;> first | rfl | omega | grind)
  · have f2 : (eq p0_Sym p1_Sym) = false := by cases hC; exact beq_false_of_ne b1
    rw [f2]; cbv
    subst hr hp
    cases hh
    cases hC; first | (simp; done) | (simp <;> first | rfl | omega | grind)

theorem c_laws_eqEvS {k : Nat} {p0 : List GEv} {p1 : List GEv} {r : Bool} (hh : laws_eqEvS.f k p0 p1 = some r) : FunW P 12 [.tree (r_GEv p0), .tree (r_GEv p1)] [.hole, .hole] (.lit (.bool r)) := by
  unfold laws_eqEvS.f at hh
  refine fun_go2 eok mixed (ts := [(4, none)]) (rm := [.own]) (gs := [1000000, 1000001]) (pm := [.skip, .skip]) Try.func12 (by kernel_rfl) (by kernel_rfl) (by kernel_rfl) ?_
  intro Fn LW len cast toNat wrap add sub mul bin lt eq At set part app fz' rep nadd nmax ssize sext sget scat seq slt Wide Flat Ones Room r' post' hC hF hr hp
  generalize he_GEv : r_GEv = qGEv
  cbv
  replace hh := if_or hh
  rcases hh with ⟨b1, hh⟩ | ⟨b1, hh⟩
  · have f2 : (eq (cast (len (qGEv p0))) (cast (len (qGEv p1)))) = true := by cases hC; subst he_GEv; first | exact beq_iff_eq.2 b1 | (simp; done) | (simp; omega) | (simp at b1 ⊢; omega) | (simp at b1 ⊢; exact b1)
    rw [f2]; cbv
    replace hh := bind_some hh
    obtain ⟨o1, hl1, hq1⟩ := hh
    refine loop_go3 hC eok mixed
      (fun s : Nat × Int × Unit => match s with | (_, s16, _) => (⟨[(0, .tree (qGEv p0)), (1, .tree (qGEv p1)), (5, .lit (.int .i64 s16))], []⟩ : St))
      (fun s : Nat × Int × Unit => laws_eqEvS.l0 k p0 p1 s.1 s.2.1 = some o1)
      (fun s => s.1) (fun _ => .exit 0)
      (fun x : Unit => match x with | _ => (⟨[], []⟩ : St))
      (fun x : Unit => some (.ok x) = some o1)
      (_, _, ()) hl1 ?_ ?_ ?_
    · rintro ⟨n, t0, ⟨⟩⟩ e1
      refine cov_of [] ?_
      cbv
      all_goals (have e1_0 := congrArg (fun s => s.2.1) e1; dsimp only at e1_0; subst e1_0; cases hC; subst he_GEv; (first | (simp; done) | (simp <;> first | rfl | omega | grind)))
    · rintro ⟨⟩ hx
      have hx := Option.some.inj hx
      subst hx
      have hh := hq1
      cbv
      subst hr hp
      cases hh
      cases hC; subst he_GEv; first | (simp; done) | (simp <;> first | rfl | omega | grind)
    · rintro ⟨n, s16, ⟨⟩⟩ N1 D1 hh hN1 hD1 hQ1
      replace hN1 := fun σ' n' a0 (h : laws_eqEvS.l0 k p0 p1 n' a0 = some o1) => hN1 σ' (n', a0, ()) h
      replace hD1 := fun σ'  (h : some (Except.ok ()) = some o1) => hD1 σ' () h
      cases n with
      | zero => dsimp only at hh; unfold laws_eqEvS.l0 at hh; cases hh
      | succ n =>
      dsimp only at hh
      unfold laws_eqEvS.l0 at hh
      cbv
      replace hh := if_or hh
      rcases hh with ⟨b30, hh⟩ | ⟨b30, hh⟩
      · have f31 : (lt s16 (cast (len (qGEv p0)))) = true := by cases hC; subst he_GEv; first | exact decide_eq_true b30 | (simp; done) | (simp; omega) | (simp at b30 ⊢; omega) | (simp at b30 ⊢; exact b30)
        rw [f31]; cbv
        replace hh := req_some hh
        obtain ⟨h32, hh⟩ := hh
        replace hh := bind_some hh
        obtain ⟨⟨e33_Sym, e33_At, e33_Val⟩, h34, hh⟩ := hh
        refine ⟨[.lit (.int .i64 e33_Sym), .lit (.int .i64 e33_At), .lit (.int .i64 e33_Val)], (by cases hC; subst he_GEv; exact decide_eq_false (Int.not_lt.2 (by first | exact h32 | (simp; done) | (simp; omega) | (simp at h32 ⊢; omega) | (simp at h32 ⊢; exact h32)))), (by cases hC; subst he_GEv; first | exact r_GEv_get h34 | simp [h34]), ?_⟩
        cbv
        replace hh := req_some hh
        obtain ⟨h35, hh⟩ := hh
        replace hh := bind_some hh
        obtain ⟨⟨e36_Sym, e36_At, e36_Val⟩, h37, hh⟩ := hh
        refine ⟨[.lit (.int .i64 e36_Sym), .lit (.int .i64 e36_At), .lit (.int .i64 e36_Val)], (by cases hC; subst he_GEv; exact decide_eq_false (Int.not_lt.2 (by first | exact h35 | (simp; done) | (simp; omega) | (simp at h35 ⊢; omega) | (simp at h35 ⊢; exact h35)))), (by cases hC; subst he_GEv; first | exact r_GEv_get h37 | simp [h37]), ?_⟩
        cbv
        replace hh := bind_some hh
        obtain ⟨x39, h38, hh⟩ := hh
        have f40 := c_laws_eqEv h38
        try rw [he_GEv] at f40
        refine ⟨_, _, hF _ _ _ _ _ _ f40 (by cases hC; subst he_GEv; simp) rfl, ?_⟩
        cbv
        replace hh := if_or hh
        rcases hh with ⟨b41, hh⟩ | ⟨b41, hh⟩
        · have f42 : x39 = true := by exact b41
          rw [f42]; cbv
          refine hN1 _ _ _ hh (Nat.lt_succ_self _) ?_
          rintro ⟨n, t0, ⟨⟩⟩ e1
          refine cov_of [] ?_
          cbv
          all_goals (have e1_0 := congrArg (fun s => s.2.1) e1; dsimp only at e1_0; subst e1_0; cases hC; subst he_GEv; (first | (simp; done) | (simp <;> first | rfl | omega | grind)))
        · have f42 : x39 = false := by exact Bool.eq_false_iff.2 b41
          rw [f42]; cbv
          cases hh
          have hh : some _ = some _ := hq1
          refine hQ1 _ _ ?_
          cbv
          subst hr hp
          cases hh
          cases hC; subst he_GEv; first | (simp; done) | (simp <;> first | rfl | omega | grind)
      · have f31 : (lt s16 (cast (len (qGEv p0)))) = false := by cases hC; subst he_GEv; first | exact decide_eq_false b30 | (simp; done) | (simp; omega) | (simp at b30 ⊢; omega) | (simp at b30 ⊢; exact b30)
        rw [f31]; cbv
        refine hD1 _  hh ?_
        rintro ⟨⟩ e1
        refine cov_of [] ?_
        cbv
        all_goals (cases hC; subst he_GEv; (first | (simp; done) | (simp <;> first | rfl | omega | grind)))
  · have f2 : (eq (cast (len (qGEv p0))) (cast (len (qGEv p1)))) = false := by cases hC; subst he_GEv; first | exact beq_false_of_ne b1 | (simp; done) | (simp; omega) | (simp at b1 ⊢; omega) | (simp at b1 ⊢; exact b1)
    rw [f2]; cbv
    subst hr hp
    cases hh
    cases hC; subst he_GEv; first | (simp; done) | (simp <;> first | rfl | omega | grind)
theorem c_laws_eqEvS_L0_1 {k : Nat} {p0 : List GEv} {p1 : List GEv} {r : Bool} (hh : laws_eqEvS.f k p0 p1 = some r) : FunW P 12 [.inl 3 (r_GEv p0), .inl 3 (r_GEv p1)] [.inl 3 (r_GEv p0), .inl 3 (r_GEv p1)] (.lit (.bool r)) :=
  (c_laws_eqEvS hh).lend (rfl) (.lend (congrArg A.tree (r_GEv_fz _).symm) (.lend (congrArg A.tree (r_GEv_fz _).symm) .nil))

theorem c_laws_markEvS {k : Nat} {p0 : List GEv} {p1 : Int} {r : Int × (List GEv)} (hh : laws_markEvS.f k p0 p1 = some r) : FunW P 13 [.inl 3 (r_GEv p0), .lit (.int .i64 p1)] [.inl 3 (r_GEv r.2), .hole] (.lit (.int .i64 r.1)) := by
  unfold laws_markEvS.f at hh
  refine fun_go2 eok mixed (ts := [(4, none)]) (rm := [.own]) (gs := [1000000, 1000001]) (pm := [.own, .skip]) Try.func13 (by kernel_rfl) (by kernel_rfl) (by kernel_rfl) ?_
  intro Fn LW len cast toNat wrap add sub mul bin lt eq At set part app fz' rep nadd nmax ssize sext sget scat seq slt Wide Flat Ones Room r' post' hC hF hr hp
  generalize he_GEv : r_GEv = qGEv
  cbv
  replace hh := bind_some hh
  obtain ⟨o1, hl1, hq1⟩ := hh
  refine loop_go3 hC eok mixed
    (fun s : Nat × (List GEv) × Int × Int × Unit => match s with | (_, s11, s12, s13, _) => (⟨[(0, .ref (0, 0) 1 0 (len (qGEv s11))), (1, .lit (.int .i64 s12)), (5, .lit (.int .i64 s13)), (1000000, .ref (0, 0) 1 0 (len (qGEv s11)))], [((0, 0), .arr 1 3 (qGEv s11))]⟩ : St))
    (fun s : Nat × (List GEv) × Int × Int × Unit => laws_markEvS.l0 k s.1 s.2.1 s.2.2.1 s.2.2.2.1 = some o1)
    (fun s => s.1) (fun _ => .exit 0)
    (fun x : Int × (List GEv) => match x with | (x24, x25) => (⟨[(1, .lit (.int .i64 x24)), (1000000, .ref (0, 0) 1 0 (len (qGEv x25)))], [((0, 0), .arr 1 3 (qGEv x25))]⟩ : St))
    (fun x : Int × (List GEv) => some (x) = some o1)
    (_, _, _, _, ()) hl1 ?_ ?_ ?_
  · rintro ⟨n, t0, t1, t2, ⟨⟩⟩ e1
    refine cov_of [((0, 0), (0, 0))] ?_
    cbv
    all_goals (have e1_0 := congrArg (fun s => s.2.1) e1; dsimp only at e1_0; subst e1_0; have e1_1 := congrArg (fun s => s.2.2.1) e1; dsimp only at e1_1; subst e1_1; have e1_2 := congrArg (fun s => s.2.2.2.1) e1; dsimp only at e1_2; subst e1_2; cases hC; subst he_GEv; (first | (simp; done) | (simp <;> first | rfl | omega | grind)))
  · rintro ⟨x24, x25⟩ hx
    have hx := Option.some.inj hx
    subst hx
    have hh := hq1
    cbv
    subst hr hp
    cases hh
    cases hC; subst he_GEv; first | (simp; done) | (simp <;> first | rfl | omega | grind)
  · rintro ⟨n, s11, s12, s13, ⟨⟩⟩ N1 D1 hh hN1 hD1 hQ1
    replace hN1 := fun σ' n' a0 a1 a2 (h : laws_markEvS.l0 k n' a0 a1 a2 = some o1) => hN1 σ' (n', a0, a1, a2, ()) h
    replace hD1 := fun σ' (a0 : Int) (a1 : List GEv) (h : some ((a0, a1)) = some o1) => hD1 σ' (a0, a1) h
    cases n with
    | zero => dsimp only at hh; unfold laws_markEvS.l0 at hh; cases hh
    | succ n =>
    dsimp only at hh
    unfold laws_markEvS.l0 at hh
    cbv
    replace hh := if_or hh
    rcases hh with ⟨b26, hh⟩ | ⟨b26, hh⟩
    · have f27 : (lt s13 (cast (len (qGEv s11)))) = true := by cases hC; subst he_GEv; first | exact decide_eq_true b26 | (simp; done) | (simp; omega) | (simp at b26 ⊢; omega) | (simp at b26 ⊢; exact b26)
      rw [f27]; cbv
      replace hh := req_some hh
      obtain ⟨h28, hh⟩ := hh
      replace hh := req_some hh
      obtain ⟨h29, hh⟩ := hh
      replace h29 : s13 < (s11.length : Nat) := h29
      refine ⟨(by cases hC; subst he_GEv; exact decide_eq_false (Int.not_lt.2 (by first | exact h28 | (simp; done) | (simp; omega) | (simp at h28 ⊢; omega) | (simp at h28 ⊢; exact h28)))), (by cases hC; subst he_GEv; exact decide_eq_true (by first | exact h29 | (simp; done) | (simp; omega) | (simp at h29 ⊢; omega) | (simp at h29 ⊢; exact h29))), ?_⟩
      replace hh := bind_some hh
      obtain ⟨⟨e30_Sym, e30_At, e30_Val⟩, h31, hh⟩ := hh
      refine ⟨[.lit (.int .i64 e30_Sym), .lit (.int .i64 e30_At), .lit (.int .i64 e30_Val)], (by cases hC; subst he_GEv; first | exact r_GEv_get h31 | (simp [h31]; done) | (have q := r_GEv_get h31; rw [r_GEv_map] at q; simpa [List.map] using q)), ?_⟩
      cbv
      replace hh := req_some hh
      obtain ⟨h32, hh⟩ := hh
      replace hh := req_some hh
      obtain ⟨h33, hh⟩ := hh
      replace h33 : s13 < (s11.length : Nat) := h33
      refine ⟨(by cases hC; subst he_GEv; exact decide_eq_false (Int.not_lt.2 (by first | exact h32 | (simp; done) | (simp; omega) | (simp at h32 ⊢; omega) | (simp at h32 ⊢; exact h32)))), (by cases hC; subst he_GEv; exact decide_eq_true (by first | exact h33 | (simp; done) | (simp; omega) | (simp at h33 ⊢; omega) | (simp at h33 ⊢; exact h33))), ?_⟩
      refine ⟨[.lit (.int .i64 s12), .lit (.int .i64 e30_At), .lit (.int .i64 e30_Val)], (by cases hC; subst he_GEv; first | exact r_GEv_get h31 | (simp [h31]; done) | (have q := r_GEv_get h31; rw [r_GEv_map] at q; simpa [List.map] using q) | (simp [(List.getElem?_eq_some_iff.1 h31).1]; done) | simp [h31, (List.getElem?_eq_some_iff.1 h31).1]), ?_⟩
      cbv
      replace hh := req_some hh
      obtain ⟨h34, hh⟩ := hh
      replace hh := req_some hh
      obtain ⟨h35, hh⟩ := hh
      replace h35 : s13 < (s11.length : Nat) := h35
      refine ⟨(by cases hC; subst he_GEv; exact decide_eq_false (Int.not_lt.2 (by first | exact h34 | (simp; done) | (simp; omega) | (simp at h34 ⊢; omega) | (simp at h34 ⊢; exact h34)))), (by cases hC; subst he_GEv; exact decide_eq_true (by first | exact h35 | (simp; done) | (simp; omega) | (simp at h35 ⊢; omega) | (simp at h35 ⊢; exact h35))), ?_⟩
      refine ⟨[.lit (.int .i64 s12), .lit (.int .i64 (wrap .i64 (add s12 1))), .lit (.int .i64 e30_Val)], (by cases hC; subst he_GEv; first | exact r_GEv_get h31 | (simp [h31]; done) | (have q := r_GEv_get h31; rw [r_GEv_map] at q; simpa [List.map] using q) | (simp [(List.getElem?_eq_some_iff.1 h31).1]; done) | simp [h31, (List.getElem?_eq_some_iff.1 h31).1]), ?_⟩
      cbv
      refine hN1 _ _ _ _ _ hh (Nat.lt_succ_self _) ?_
      rintro ⟨n, t0, t1, t2, ⟨⟩⟩ e1
      refine cov_of [((0, 0), (0, 0))] ?_
      cbv
      all_goals (have e1_0 := congrArg (fun s => s.2.1) e1; dsimp only at e1_0; subst e1_0; have e1_1 := congrArg (fun s => s.2.2.1) e1; dsimp only at e1_1; subst e1_1; have e1_2 := congrArg (fun s => s.2.2.2.1) e1; dsimp only at e1_2; subst e1_2; cases hC; subst he_GEv; (first | (simp; done) | (simp <;> first | rfl | omega | grind)))
    · have f27 : (lt s13 (cast (len (qGEv s11)))) = false := by cases hC; subst he_GEv; first | exact decide_eq_false b26 | (simp; done) | (simp; omega) | (simp at b26 ⊢; omega) | (simp at b26 ⊢; exact b26)
      rw [f27]; cbv
      refine hD1 _ _ _ hh ?_
      rintro ⟨t0, t1⟩ e1
      refine cov_of [((0, 0), (0, 0))] ?_
      cbv
      all_goals (have e1_0 := congrArg (fun s => s.1) e1; dsimp only at e1_0; subst e1_0; have e1_1 := congrArg (fun s => s.2) e1; dsimp only at e1_1; subst e1_1; cases hC; subst he_GEv; (first | (simp; done) | (simp <;> first | rfl | omega | grind)))

theorem c_laws_heldEvS {k : Nat} {p0 : List GEv} {p1 : Int} {r : Int} (hh : laws_heldEvS.f k p0 p1 = some r) : FunW P 14 [.tree (r_GEv p0), .lit (.int .i64 p1)] [.hole, .hole] (.lit (.int .i64 r)) := by
  unfold laws_heldEvS.f at hh
  refine fun_go2 eok mixed (ts := [(4, none)]) (rm := [.own]) (gs := [1000000, 1000001]) (pm := [.skip, .skip]) Try.func14 (by kernel_rfl) (by kernel_rfl) (by kernel_rfl) ?_
  intro Fn LW len cast toNat wrap add sub mul bin lt eq At set part app fz' rep nadd nmax ssize sext sget scat seq slt Wide Flat Ones Room r' post' hC hF hr hp
  generalize he_GEv : r_GEv = qGEv
  cbv
  replace hh := bind_some hh
  obtain ⟨o1, hl1, hq1⟩ := hh
  refine loop_go3 hC eok mixed
    (fun s : Nat × Int × Int × Unit => match s with | (_, s18, s19, _) => (⟨[(0, .tree (qGEv p0)), (1, .lit (.int .i64 s18)), (5, .lit (.int .i64 s19))], []⟩ : St))
    (fun s : Nat × Int × Int × Unit => laws_heldEvS.l0 k p0 s.1 s.2.1 s.2.2.1 = some o1)
    (fun s => s.1) (fun _ => .exit 0)
    (fun x : Int => match x with | x37 => (⟨[(1, .lit (.int .i64 x37))], []⟩ : St))
    (fun x : Int => some (.ok x) = some o1)
    (_, _, _, ()) hl1 ?_ ?_ ?_
  · rintro ⟨n, t0, t1, ⟨⟩⟩ e1
    refine cov_of [] ?_
    cbv
    all_goals (have e1_0 := congrArg (fun s => s.2.1) e1; dsimp only at e1_0; subst e1_0; have e1_1 := congrArg (fun s => s.2.2.1) e1; dsimp only at e1_1; subst e1_1; cases hC; subst he_GEv; (first | (simp; done) | (simp <;> first | rfl | omega | grind)))
  · rintro x37 hx
    have hx := Option.some.inj hx
    subst hx
    have hh := hq1
    cbv
    subst hr hp
    cases hh
    cases hC; subst he_GEv; first | (simp; done) | (simp <;> first | rfl | omega | grind)
  · rintro ⟨n, s18, s19, ⟨⟩⟩ N1 D1 hh hN1 hD1 hQ1
    replace hN1 := fun σ' n' a0 a1 (h : laws_heldEvS.l0 k p0 n' a0 a1 = some o1) => hN1 σ' (n', a0, a1, ()) h
    replace hD1 := fun σ' (a0 : Int) (h : some (Except.ok a0) = some o1) => hD1 σ' a0 h
    cases n with
    | zero => dsimp only at hh; unfold laws_heldEvS.l0 at hh; cases hh
    | succ n =>
    dsimp only at hh
    unfold laws_heldEvS.l0 at hh
    cbv
    replace hh := if_or hh
    rcases hh with ⟨b38, hh⟩ | ⟨b38, hh⟩
    · have f39 : (lt s19 (cast (len (qGEv p0)))) = true := by cases hC; subst he_GEv; first | exact decide_eq_true b38 | (simp; done) | (simp; omega) | (simp at b38 ⊢; omega) | (simp at b38 ⊢; exact b38)
      rw [f39]; cbv
      replace hh := req_some hh
      obtain ⟨h40, hh⟩ := hh
      replace hh := bind_some hh
      obtain ⟨⟨e41_Sym, e41_At, e41_Val⟩, h42, hh⟩ := hh
      refine ⟨[.lit (.int .i64 e41_Sym), .lit (.int .i64 e41_At), .lit (.int .i64 e41_Val)], (by cases hC; subst he_GEv; exact decide_eq_false (Int.not_lt.2 (by first | exact h40 | (simp; done) | (simp; omega) | (simp at h40 ⊢; omega) | (simp at h40 ⊢; exact h40)))), (by cases hC; subst he_GEv; first | exact r_GEv_get h42 | simp [h42]), ?_⟩
      cbv
      replace hh := if_or hh
      rcases hh with ⟨b43, hh⟩ | ⟨b43, hh⟩
      · have f44 : (eq e41_Sym s18) = true := by cases hC; exact beq_iff_eq.2 b43
        rw [f44]; cbv
        replace hh := req_some hh
        obtain ⟨h45, hh⟩ := hh
        replace hh := bind_some hh
        obtain ⟨⟨e46_Sym, e46_At, e46_Val⟩, h47, hh⟩ := hh
        refine ⟨[.lit (.int .i64 e46_Sym), .lit (.int .i64 e46_At), .lit (.int .i64 e46_Val)], (by cases hC; subst he_GEv; exact decide_eq_false (Int.not_lt.2 (by first | exact h45 | (simp; done) | (simp; omega) | (simp at h45 ⊢; omega) | (simp at h45 ⊢; exact h45)))), (by cases hC; subst he_GEv; first | exact r_GEv_get h47 | simp [h47]), ?_⟩
        cbv
        replace hh := if_or hh
        rcases hh with ⟨b48, hh⟩ | ⟨b48, hh⟩
        · have f49 : (eq e46_At (wrap .i64 (add s18 1))) = true := by cases hC; exact beq_iff_eq.2 b48
          rw [f49]; cbv
          replace hh := req_some hh
          obtain ⟨h50, hh⟩ := hh
          replace hh := bind_some hh
          obtain ⟨⟨e51_Sym, e51_At, e51_Val⟩, h52, hh⟩ := hh
          refine ⟨[.lit (.int .i64 e51_Sym), .lit (.int .i64 e51_At), .lit (.int .i64 e51_Val)], (by cases hC; subst he_GEv; exact decide_eq_false (Int.not_lt.2 (by first | exact h50 | (simp; done) | (simp; omega) | (simp at h50 ⊢; omega) | (simp at h50 ⊢; exact h50)))), (by cases hC; subst he_GEv; first | exact r_GEv_get h52 | simp [h52]), ?_⟩
          cbv
          replace hh := if_or hh
          rcases hh with ⟨b53, hh⟩ | ⟨b53, hh⟩
          · have f54 : (eq e51_Val (wrap .i64 (add (wrap .i64 (add s18 1)) 1))) = true := by cases hC; exact beq_iff_eq.2 b53
            rw [f54]; cbv
            refine hN1 _ _ _ _ hh (Nat.lt_succ_self _) ?_
            rintro ⟨n, t0, t1, ⟨⟩⟩ e1
            refine cov_of [] ?_
            cbv
            all_goals (have e1_0 := congrArg (fun s => s.2.1) e1; dsimp only at e1_0; subst e1_0; have e1_1 := congrArg (fun s => s.2.2.1) e1; dsimp only at e1_1; subst e1_1; cases hC; subst he_GEv; (first | (simp; done) | (simp <;> first | rfl | omega | grind)))
          · have f54 : (eq e51_Val (wrap .i64 (add (wrap .i64 (add s18 1)) 1))) = false := by cases hC; exact beq_false_of_ne b53
            rw [f54]; cbv
            cases hh
            have hh : some _ = some _ := hq1
            refine hQ1 _ _ ?_
            cbv
            subst hr hp
            cases hh
            cases hC; subst he_GEv; first | (simp; done) | (simp <;> first | rfl | omega | grind)
        · have f49 : (eq e46_At (wrap .i64 (add s18 1))) = false := by cases hC; exact beq_false_of_ne b48
          rw [f49]; cbv
          cases hh
          have hh : some _ = some _ := hq1
          refine hQ1 _ _ ?_
          cbv
          subst hr hp
          cases hh
          cases hC; subst he_GEv; first | (simp; done) | (simp <;> first | rfl | omega | grind)
      · have f44 : (eq e41_Sym s18) = false := by cases hC; exact beq_false_of_ne b43
        rw [f44]; cbv
        cases hh
        have hh : some _ = some _ := hq1
        refine hQ1 _ _ ?_
        cbv
        subst hr hp
        cases hh
        cases hC; subst he_GEv; first | (simp; done) | (simp <;> first | rfl | omega | grind)
    · have f39 : (lt s19 (cast (len (qGEv p0)))) = false := by cases hC; subst he_GEv; first | exact decide_eq_false b38 | (simp; done) | (simp; omega) | (simp at b38 ⊢; omega) | (simp at b38 ⊢; exact b38)
      rw [f39]; cbv
      refine hD1 _ _ hh ?_
      rintro t0 e1
      refine cov_of [] ?_
      cbv
      all_goals (subst e1; cases hC; subst he_GEv; (first | (simp; done) | (simp <;> first | rfl | omega | grind)))
theorem c_laws_heldEvS_L0 {k : Nat} {p0 : List GEv} {p1 : Int} {r : Int} (hh : laws_heldEvS.f k p0 p1 = some r) : FunW P 14 [.inl 3 (r_GEv p0), .lit (.int .i64 p1)] [.inl 3 (r_GEv p0), .hole] (.lit (.int .i64 r)) :=
  (c_laws_heldEvS hh).lend (rfl) (.lend (congrArg A.tree (r_GEv_fz _).symm) (.same rfl .nil))

theorem c_laws_FnExactTurnLate {k : Nat} {p0 : List GEv} {p1 : Int} {r : Bool} (hh : laws_FnExactTurnLate.f k p0 p1 = some r) : FunW P 3 [.tree (r_GEv p0), .lit (.int .i64 p1)] [.hole, .hole] (.lit (.bool r)) := by
  unfold laws_FnExactTurnLate.f at hh
  refine fun_go2 eok mixed (ts := [(4, none)]) (rm := [.own]) (gs := [1000000, 1000001]) (pm := [.skip, .skip]) Try.func3 (by kernel_rfl) (by kernel_rfl) (by kernel_rfl) ?_
  intro Fn LW len cast toNat wrap add sub mul bin lt eq At set part app fz' rep nadd nmax ssize sext sget scat seq slt Wide Flat Ones Room r' post' hC hF hr hp
  generalize he_GEv : r_GEv = qGEv
  cbv
  replace hh := bind_some hh
  obtain ⟨x2, h1, hh⟩ := hh
  have f3 := c_laws_szEvS h1
  try rw [he_GEv] at f3
  refine ⟨_, _, hF _ _ _ _ _ _ f3 (by cases hC; subst he_GEv; simp) rfl, ?_⟩
  cbv
  replace hh := if_or hh
  rcases hh with ⟨b4, hh⟩ | ⟨b4, hh⟩
  · have f5 : (lt x2 0) = true := by cases hC; exact decide_eq_true b4
    rw [f5]; cbv
    subst hr hp
    cases hh
    cases hC; subst he_GEv; first | (simp; done) | (simp <;> first | rfl | omega | grind)
  · have f5 : (lt x2 0) = false := by cases hC; exact decide_eq_false b4
    rw [f5]; cbv
    replace hh := bind_some hh
    obtain ⟨x7, h6, hh⟩ := hh
    have f8 := c_laws_toEvS h6
    try rw [he_GEv] at f8
    refine ⟨_, _, hF _ _ _ _ _ _ f8 (by cases hC; subst he_GEv; simp) rfl, ?_⟩
    cbv
    replace hh := bind_some hh
    obtain ⟨x10, h9, hh⟩ := hh
    have f11 := c_spec_TurnLate_L0 h9
    try rw [he_GEv] at f11
    refine ⟨_, _, hF _ _ _ _ _ _ f11 (by cases hC; subst he_GEv; simp) rfl, ?_⟩
    cbv
    replace hh := bind_some hh
    obtain ⟨x13, h12, hh⟩ := hh
    have f14 := c_laws_toEvS h12
    try rw [he_GEv] at f14
    refine ⟨_, _, hF _ _ _ _ _ _ f14 (by cases hC; subst he_GEv; simp) rfl, ?_⟩
    cbv
    replace hh := bind_some hh
    obtain ⟨x16, h15, hh⟩ := hh
    have f17 := c_impl_TurnLate_L0 h15
    try rw [he_GEv] at f17
    refine ⟨_, _, hF _ _ _ _ _ _ f17 (by cases hC; subst he_GEv; simp) rfl, ?_⟩
    cbv
    replace hh := bind_some hh
    obtain ⟨x19, h18, hh⟩ := hh
    have f20 := c_laws_eqEvS_L0_1 h18
    try rw [he_GEv] at f20
    refine ⟨_, _, hF _ _ _ _ _ _ f20 (by cases hC; subst he_GEv; simp) rfl, ?_⟩
    cbv
    replace hh := if_or hh
    rcases hh with ⟨b21, hh⟩ | ⟨b21, hh⟩
    · have f22 : x19 = true := by exact b21
      rw [f22]; cbv
      replace hh := bind_some hh
      obtain ⟨x24, h23, hh⟩ := hh
      have f25 := c_laws_toEvS h23
      try rw [he_GEv] at f25
      refine ⟨_, _, hF _ _ _ _ _ _ f25 (by cases hC; subst he_GEv; simp) rfl, ?_⟩
      cbv
      replace hh := bind_some hh
      obtain ⟨x27, h26, hh⟩ := hh
      have f28 := c_laws_eqEvS_L0_1 h26
      try rw [he_GEv] at f28
      refine ⟨_, _, hF _ _ _ _ _ _ f28 (by cases hC; subst he_GEv; simp) rfl, ?_⟩
      cbv
      replace hh := if_or hh
      rcases hh with ⟨b29, hh⟩ | ⟨b29, hh⟩
      · have f30 : x27 = true := by exact b29
        rw [f30]; cbv
        replace hh := bind_some hh
        obtain ⟨⟨x32_0, x32_1⟩, h31, hh⟩ := hh
        replace hh := req_some hh
        obtain ⟨h70, hh⟩ := hh
        try dsimp only at h70
        have f33 := c_laws_markEvS h31
        try rw [he_GEv] at f33
        refine ⟨_, _, hF _ _ _ _ _ _ f33 (by cases hC; subst he_GEv; simp) rfl, ?_⟩
        cbv
        replace hh := if_or hh
        rcases hh with ⟨b34, hh⟩ | ⟨b34, hh⟩
        · have f35 : (lt x32_0 0) = true := by cases hC; exact decide_eq_true b34
          rw [f35]; cbv
          subst hr hp
          cases hh
          cases hC; subst he_GEv; first | (simp; done) | (simp <;> first | rfl | omega | grind)
        · have f35 : (lt x32_0 0) = false := by cases hC; exact decide_eq_false b34
          rw [f35]; cbv
          replace hh := bind_some hh
          obtain ⟨x37, h36, hh⟩ := hh
          have f38 := c_laws_eqEvS_L0_1 h36
          try rw [he_GEv] at f38
          refine ⟨_, _, hF _ _ _ _ _ _ f38 (by cases hC; subst he_GEv; simp) rfl, ?_⟩
          cbv
          replace hh := if_or hh
          rcases hh with ⟨b39, hh⟩ | ⟨b39, hh⟩
          · have f40 : x37 = true := by exact b39
            rw [f40]; cbv
            replace hh := bind_some hh
            obtain ⟨⟨x42_0, x42_1⟩, h41, hh⟩ := hh
            replace hh := req_some hh
            obtain ⟨h69, hh⟩ := hh
            try dsimp only at h69
            have f43 := c_laws_markEvS h41
            try rw [he_GEv] at f43
            refine ⟨_, _, hF _ _ _ _ _ _ f43 (by cases hC; subst he_GEv; simp) rfl, ?_⟩
            cbv
            replace hh := bind_some hh
            obtain ⟨x45, h44, hh⟩ := hh
            refine ⟨by cases hC; subst he_GEv; first | (simp; done) | (simp; first | omega | (simp only [natc] at *; omega)), ?_⟩
            have f46 := c_laws_heldEvS_L0 h44
            try rw [he_GEv] at f46
            refine ⟨_, _, hF _ _ _ _ _ _ f46 (by cases hC; subst he_GEv; simp) rfl, ?_⟩
            cbv
            replace hh := if_or hh
            rcases hh with ⟨b47, hh⟩ | ⟨b47, hh⟩
            · have f48 : (lt x45 0) = true := by cases hC; exact decide_eq_true b47
              rw [f48]; cbv
              subst hr hp
              cases hh
              cases hC; subst he_GEv; first | (simp; done) | (simp <;> first | rfl | omega | grind)
            · have f48 : (lt x45 0) = false := by cases hC; exact decide_eq_false b47
              rw [f48]; cbv
              replace hh := if_or hh
              rcases hh with ⟨b49, hh⟩ | ⟨b49, hh⟩
              · have f50 : (eq x45 x42_0) = true := by cases hC; exact beq_iff_eq.2 b49
                rw [f50]; cbv
                replace hh := bind_some hh
                obtain ⟨x52, h51, hh⟩ := hh
                have f53 := c_laws_toEvS h51
                try rw [he_GEv] at f53
                refine ⟨_, _, hF _ _ _ _ _ _ f53 (by cases hC; subst he_GEv; simp) rfl, ?_⟩
                cbv
                replace hh := bind_some hh
                obtain ⟨x55, h54, hh⟩ := hh
                have f56 := c_impl_TurnLate_L0 h54
                try rw [he_GEv] at f56
                refine ⟨_, _, hF _ _ _ _ _ _ f56 (by cases hC; subst he_GEv; simp) rfl, ?_⟩
                cbv
                replace hh := bind_some hh
                obtain ⟨x58, h57, hh⟩ := hh
                have f59 := c_laws_eqEvS_L0_1 h57
                try rw [he_GEv] at f59
                refine ⟨_, _, hF _ _ _ _ _ _ f59 (by cases hC; subst he_GEv; simp) rfl, ?_⟩
                cbv
                replace hh := if_or hh
                rcases hh with ⟨b60, hh⟩ | ⟨b60, hh⟩
                · have f61 : x58 = true := by exact b60
                  rw [f61]; cbv
                  replace hh := bind_some hh
                  obtain ⟨x63, h62, hh⟩ := hh
                  refine ⟨by cases hC; subst he_GEv; first | (simp; done) | (simp; first | omega | (simp only [natc] at *; omega)), ?_⟩
                  have f64 := c_laws_heldEvS_L0 h62
                  try rw [he_GEv] at f64
                  refine ⟨_, _, hF _ _ _ _ _ _ f64 (by cases hC; subst he_GEv; simp) rfl, ?_⟩
                  cbv
                  replace hh := if_or hh
                  rcases hh with ⟨b65, hh⟩ | ⟨b65, hh⟩
                  · have f66 : (lt x63 0) = true := by cases hC; exact decide_eq_true b65
                    rw [f66]; cbv
                    subst hr hp
                    cases hh
                    cases hC; subst he_GEv; first | (simp; done) | (simp <;> first | rfl | omega | grind)
                  · have f66 : (lt x63 0) = false := by cases hC; exact decide_eq_false b65
                    rw [f66]; cbv
                    replace hh := if_or hh
                    rcases hh with ⟨b67, hh⟩ | ⟨b67, hh⟩
                    · have f68 : (eq x63 x42_0) = true := by cases hC; exact beq_iff_eq.2 b67
                      rw [f68]; cbv
                      subst hr hp
                      cases hh
                      cases hC; subst he_GEv; first | (simp; done) | (simp <;> first | rfl | omega | grind)
                    · have f68 : (eq x63 x42_0) = false := by cases hC; exact beq_false_of_ne b67
                      rw [f68]; cbv
                      subst hr hp
                      cases hh
                      cases hC; subst he_GEv; first | (simp; done) | (simp <;> first | rfl | omega | grind)
                · have f61 : x58 = false := by exact Bool.eq_false_iff.2 b60
                  rw [f61]; cbv
                  subst hr hp
                  cases hh
                  cases hC; subst he_GEv; first | (simp; done) | (simp <;> first | rfl | omega | grind)
              · have f50 : (eq x45 x42_0) = false := by cases hC; exact beq_false_of_ne b49
                rw [f50]; cbv
                subst hr hp
                cases hh
                cases hC; subst he_GEv; first | (simp; done) | (simp <;> first | rfl | omega | grind)
          · have f40 : x37 = false := by exact Bool.eq_false_iff.2 b39
            rw [f40]; cbv
            subst hr hp
            cases hh
            cases hC; subst he_GEv; first | (simp; done) | (simp <;> first | rfl | omega | grind)
      · have f30 : x27 = false := by exact Bool.eq_false_iff.2 b29
        rw [f30]; cbv
        subst hr hp
        cases hh
        cases hC; subst he_GEv; first | (simp; done) | (simp <;> first | rfl | omega | grind)
    · have f22 : x19 = false := by exact Bool.eq_false_iff.2 b21
      rw [f22]; cbv
      subst hr hp
      cases hh
      cases hC; subst he_GEv; first | (simp; done) | (simp <;> first | rfl | omega | grind)

theorem c_laws_toIntS {k : Nat} {p0 : List Int} {r : List Int} (hh : laws_toIntS.f k p0 = some r) : FunW P 16 [.tree (r_Int p0)] [.hole] (.inl 1 (r_Int r)) := by
  unfold laws_toIntS.f at hh
  refine fun_go2 eok mixed (ts := [(2, none)]) (rm := [.own]) (gs := [1000000]) (pm := [.skip]) Try.func16 (by kernel_rfl) (by kernel_rfl) (by kernel_rfl) ?_
  intro Fn LW len cast toNat wrap add sub mul bin lt eq At set part app fz' rep nadd nmax ssize sext sget scat seq slt Wide Flat Ones Room r' post' hC hF hr hp
  generalize he_Int : r_Int = qInt
  cbv
  replace hh := req_some hh
  obtain ⟨h1, hh⟩ := hh
  replace hh := req_some hh
  obtain ⟨h2, hh⟩ := hh
  replace hh := req_some hh
  obtain ⟨h3, hh⟩ := hh
  refine ⟨⟨(by cases hC; subst he_Int; exact decide_eq_false (Int.not_lt.2 (by first | exact h1 | (simp; done) | (simp; omega) | (simp at h1 ⊢; omega) | (simp at h1 ⊢; exact h1)))), (by cases hC; subst he_Int; exact decide_eq_false (Int.not_lt.2 (by first | exact h2 | (simp; done) | (simp; omega) | (simp at h2 ⊢; omega) | (simp at h2 ⊢; exact h2)))), (by cases hC; subst he_Int; first | exact h3 | (simp; done) | (simp; omega) | (simp at h3 ⊢; omega) | (simp at h3 ⊢; exact h3))⟩, ?_⟩
  replace hh := bind_some hh
  obtain ⟨o1, hl1, hq1⟩ := hh
  refine loop_go3 hC eok mixed
    (fun s : Nat × (List Int) × Int × Unit => match s with | (_, s13, s14, _) => (⟨[(0, .tree (qInt p0)), (3, .ref (7, 0) 1 0 (len (qInt s13))), (4, .lit (.int .i64 s14))], [((7, 0), .arr 1 1 (qInt s13))]⟩ : St))
    (fun s : Nat × (List Int) × Int × Unit => laws_toIntS.l0 k p0 s.1 s.2.1 s.2.2.1 = some o1)
    (fun s => s.1) (fun _ => .exit 0)
    (fun x : List Int => match x with | x24 => (⟨[(3, .ref (7, 0) 1 0 (len (qInt x24)))], [((7, 0), .arr 1 1 (qInt x24))]⟩ : St))
    (fun x : List Int => some (x) = some o1)
    (_, _, _, ()) hl1 ?_ ?_ ?_
  · rintro ⟨n, t0, t1, ⟨⟩⟩ e1
    refine cov_of [((7, 0), (7, 0))] ?_
    cbv
    all_goals (have e1_0 := congrArg (fun s => s.2.1) e1; dsimp only at e1_0; subst e1_0; have e1_1 := congrArg (fun s => s.2.2.1) e1; dsimp only at e1_1; subst e1_1; cases hC; subst he_Int; (first | (simp; done) | (simp <;> first | rfl | omega | grind)))
  · rintro x24 hx
    have hx := Option.some.inj hx
    subst hx
    have hh := hq1
    cbv
    subst hr hp
    cases hh
    cases hC; subst he_Int; first | (simp; done) | (simp <;> first | rfl | omega | grind)
  · rintro ⟨n, s13, s14, ⟨⟩⟩ N1 D1 hh hN1 hD1 hQ1
    replace hN1 := fun σ' n' a0 a1 (h : laws_toIntS.l0 k p0 n' a0 a1 = some o1) => hN1 σ' (n', a0, a1, ()) h
    replace hD1 := fun σ' (a0 : List Int) (h : some (a0) = some o1) => hD1 σ' a0 h
    cases n with
    | zero => dsimp only at hh; unfold laws_toIntS.l0 at hh; cases hh
    | succ n =>
    dsimp only at hh
    unfold laws_toIntS.l0 at hh
    cbv
    replace hh := if_or hh
    rcases hh with ⟨b25, hh⟩ | ⟨b25, hh⟩
    · have f26 : (lt s14 (cast (len (qInt p0)))) = true := by cases hC; subst he_Int; first | exact decide_eq_true b25 | (simp; done) | (simp; omega) | (simp at b25 ⊢; omega) | (simp at b25 ⊢; exact b25)
      rw [f26]; cbv
      replace hh := req_some hh
      obtain ⟨h27, hh⟩ := hh
      replace hh := bind_some hh
      obtain ⟨e28, h29, hh⟩ := hh
      refine ⟨[.lit (.int .i64 e28)], (by cases hC; subst he_Int; exact decide_eq_false (Int.not_lt.2 (by first | exact h27 | (simp; done) | (simp; omega) | (simp at h27 ⊢; omega) | (simp at h27 ⊢; exact h27)))), (by cases hC; subst he_Int; first | exact r_Int_get h29 | simp [h29]), ?_⟩
      cbv
      replace hh := req_some hh
      obtain ⟨h30, hh⟩ := hh
      replace hh := req_some hh
      obtain ⟨h31, hh⟩ := hh
      replace h31 : s14 < (s13.length : Nat) := h31
      refine ⟨(by cases hC; subst he_Int; exact decide_eq_false (Int.not_lt.2 (by first | exact h30 | (simp; done) | (simp; omega) | (simp at h30 ⊢; omega) | (simp at h30 ⊢; exact h30)))), (by cases hC; subst he_Int; exact decide_eq_true (by first | exact h31 | (simp; done) | (simp; omega) | (simp at h31 ⊢; omega) | (simp at h31 ⊢; exact h31))), ?_⟩
      replace hh := bind_some hh
      obtain ⟨e32, h33, hh⟩ := hh
      refine ⟨[.lit (.int .i64 e32)], (by cases hC; subst he_Int; first | exact r_Int_get h33 | (simp [h33]; done) | (have q := r_Int_get h33; rw [r_Int_map] at q; simpa [List.map] using q)), ?_⟩
      cbv
      refine hN1 _ _ _ _ hh (Nat.lt_succ_self _) ?_
      rintro ⟨n, t0, t1, ⟨⟩⟩ e1
      refine cov_of [((7, 0), (7, 0))] ?_
      cbv
      all_goals (have e1_0 := congrArg (fun s => s.2.1) e1; dsimp only at e1_0; subst e1_0; have e1_1 := congrArg (fun s => s.2.2.1) e1; dsimp only at e1_1; subst e1_1; cases hC; subst he_Int; (first | (simp; done) | (simp <;> first | rfl | omega | grind)))
    · have f26 : (lt s14 (cast (len (qInt p0)))) = false := by cases hC; subst he_Int; first | exact decide_eq_false b25 | (simp; done) | (simp; omega) | (simp at b25 ⊢; omega) | (simp at b25 ⊢; exact b25)
      rw [f26]; cbv
      refine hD1 _ _ hh ?_
      rintro t0 e1
      refine cov_of [((7, 0), (7, 0))] ?_
      cbv
      all_goals (subst e1; cases hC; subst he_Int; (first | (simp; done) | (simp <;> first | rfl | omega | grind)))

theorem c_spec_TurnBy {k : Nat} {p0 : List Int} {r : Bool} (hh : spec_TurnBy.f k p0 = some r) : FunW P 46 [.tree (r_Int p0)] [.hole] (.lit (.bool r)) := by
  unfold spec_TurnBy.f at hh
  refine fun_go2 eok mixed (ts := [(2, none)]) (rm := [.own]) (gs := [1000000]) (pm := [.skip]) Try.func46 (by kernel_rfl) (by kernel_rfl) (by kernel_rfl) ?_
  intro Fn LW len cast toNat wrap add sub mul bin lt eq At set part app fz' rep nadd nmax ssize sext sget scat seq slt Wide Flat Ones Room r' post' hC hF hr hp
  generalize he_Int : r_Int = qInt
  cbv
  replace hh := if_or hh
  rcases hh with ⟨b1, hh⟩ | ⟨b1, hh⟩
  · have f2 : (eq (cast (len (qInt p0))) 5) = true := by cases hC; subst he_Int; first | exact beq_iff_eq.2 b1 | (simp; done) | (simp; omega) | (simp at b1 ⊢; omega) | (simp at b1 ⊢; exact b1)
    rw [f2]; cbv
    replace hh := bind_some hh
    obtain ⟨o1, hl1, hq1⟩ := hh
    refine loop_go3 hC eok mixed
      (fun s : Nat × Int × Unit => match s with | (_, s46, _) => (⟨[(0, .tree (qInt p0)), (3, .lit (.int .i64 s46))], []⟩ : St))
      (fun s : Nat × Int × Unit => spec_TurnBy.l2 k p0 s.1 s.2.1 = some o1)
      (fun s => s.1) (fun _ => .exit 0)
      (fun x : Unit => match x with | _ => (⟨[], []⟩ : St))
      (fun x : Unit => some (.ok x) = some o1)
      (_, _, ()) hl1 ?_ ?_ ?_
    · rintro ⟨n, t0, ⟨⟩⟩ e1
      refine cov_of [] ?_
      cbv
      all_goals (have e1_0 := congrArg (fun s => s.2.1) e1; dsimp only at e1_0; subst e1_0; cases hC; subst he_Int; (first | (simp; done) | (simp <;> first | rfl | omega | grind)))
    · rintro ⟨⟩ hx
      have hx := Option.some.inj hx
      subst hx
      have hh := hq1
      cbv
      subst hr hp
      cases hh
      cases hC; subst he_Int; first | (simp; done) | (simp <;> first | rfl | omega | grind)
    · rintro ⟨n, s46, ⟨⟩⟩ N1 D1 hh hN1 hD1 hQ1
      replace hN1 := fun σ' n' a0 (h : spec_TurnBy.l2 k p0 n' a0 = some o1) => hN1 σ' (n', a0, ()) h
      replace hD1 := fun σ'  (h : some (Except.ok ()) = some o1) => hD1 σ' () h
      cases n with
      | zero => dsimp only at hh; unfold spec_TurnBy.l2 at hh; cases hh
      | succ n =>
      dsimp only at hh
      unfold spec_TurnBy.l2 at hh
      cbv
      replace hh := if_or hh
      rcases hh with ⟨b90, hh⟩ | ⟨b90, hh⟩
      · have f91 : (lt s46 (cast (len (qInt p0)))) = true := by cases hC; subst he_Int; first | exact decide_eq_true b90 | (simp; done) | (simp; omega) | (simp at b90 ⊢; omega) | (simp at b90 ⊢; exact b90)
        rw [f91]; cbv
        replace hh := req_some hh
        obtain ⟨h92, hh⟩ := hh
        replace hh := bind_some hh
        obtain ⟨e93, h94, hh⟩ := hh
        refine ⟨[.lit (.int .i64 e93)], (by cases hC; subst he_Int; exact decide_eq_false (Int.not_lt.2 (by first | exact h92 | (simp; done) | (simp; omega) | (simp at h92 ⊢; omega) | (simp at h92 ⊢; exact h92)))), (by cases hC; subst he_Int; first | exact r_Int_get h94 | simp [h94]), ?_⟩
        cbv
        replace hh := if_or hh
        rcases hh with ⟨b95, hh⟩ | ⟨b95, hh⟩
        · have f96 : (lt e93 0) = true := by cases hC; exact decide_eq_true b95
          rw [f96]; cbv
          cases hh
          have hh : some _ = some _ := hq1
          refine hQ1 _ _ ?_
          cbv
          subst hr hp
          cases hh
          cases hC; subst he_Int; first | (simp; done) | (simp <;> first | rfl | omega | grind)
        · have f96 : (lt e93 0) = false := by cases hC; exact decide_eq_false b95
          rw [f96]; cbv
          replace hh := req_some hh
          obtain ⟨h97, hh⟩ := hh
          replace hh := bind_some hh
          obtain ⟨e98, h99, hh⟩ := hh
          refine ⟨[.lit (.int .i64 e98)], (by cases hC; subst he_Int; exact decide_eq_false (Int.not_lt.2 (by first | exact h97 | (simp; done) | (simp; omega) | (simp at h97 ⊢; omega) | (simp at h97 ⊢; exact h97)))), (by cases hC; subst he_Int; first | exact r_Int_get h99 | simp [h99]), ?_⟩
          cbv
          replace hh := if_or hh
          rcases hh with ⟨b100, hh⟩ | ⟨b100, hh⟩
          · have f101 : (lt e98 5) = true := by cases hC; exact decide_eq_true b100
            rw [f101]; cbv
            replace hh := bind_some hh
            obtain ⟨o2, hl2, hq2⟩ := hh
            refine loop_go3 hC eok mixed
              (fun s : Nat × Int × Unit => match s with | (_, s112, _) => (⟨[(0, .tree (qInt p0)), (3, .lit (.int .i64 s46)), (4, .lit (.int .i64 s112))], []⟩ : St))
              (fun s : Nat × Int × Unit => spec_TurnBy.l3 k p0 s46 s.1 s.2.1 = some o2)
              (fun s => s.1) (fun _ => .exit 2)
              (fun x : Unit => match x with | _ => (⟨[(0, .tree (qInt p0)), (3, .lit (.int .i64 s46))], []⟩ : St))
              (fun x : Unit => some (.ok x) = some o2)
              (_, _, ()) hl2 ?_ ?_ ?_
            · rintro ⟨n, t0, ⟨⟩⟩ e2
              refine cov_of [] ?_
              cbv
              all_goals (have e2_0 := congrArg (fun s => s.2.1) e2; dsimp only at e2_0; subst e2_0; cases hC; subst he_Int; (first | (simp; done) | (simp <;> first | rfl | omega | grind)))
            · rintro ⟨⟩ hx
              have hx := Option.some.inj hx
              subst hx
              have hh := hq2
              cbv
              refine hN1 _ _ _ hh (Nat.lt_succ_self _) ?_
              rintro ⟨n, t0, ⟨⟩⟩ e1
              refine cov_of [] ?_
              cbv
              all_goals (have e1_0 := congrArg (fun s => s.2.1) e1; dsimp only at e1_0; subst e1_0; cases hC; subst he_Int; (first | (simp; done) | (simp <;> first | rfl | omega | grind)))
            · rintro ⟨n, s112, ⟨⟩⟩ N2 D2 hh hN2 hD2 hQ2
              replace hN2 := fun σ' n' a0 (h : spec_TurnBy.l3 k p0 s46 n' a0 = some o2) => hN2 σ' (n', a0, ()) h
              replace hD2 := fun σ'  (h : some (Except.ok ()) = some o2) => hD2 σ' () h
              cases n with
              | zero => dsimp only at hh; unfold spec_TurnBy.l3 at hh; cases hh
              | succ n =>
              dsimp only at hh
              unfold spec_TurnBy.l3 at hh
              cbv
              replace hh := if_or hh
              rcases hh with ⟨b123, hh⟩ | ⟨b123, hh⟩
              · have f124 : (lt s112 s46) = true := by cases hC; exact decide_eq_true b123
                rw [f124]; cbv
                replace hh := req_some hh
                obtain ⟨h125, hh⟩ := hh
                replace hh := bind_some hh
                obtain ⟨e126, h127, hh⟩ := hh
                refine ⟨[.lit (.int .i64 e126)], (by cases hC; subst he_Int; exact decide_eq_false (Int.not_lt.2 (by first | exact h125 | (simp; done) | (simp; omega) | (simp at h125 ⊢; omega) | (simp at h125 ⊢; exact h125)))), (by cases hC; subst he_Int; first | exact r_Int_get h127 | simp [h127]), ?_⟩
                cbv
                replace hh := req_some hh
                obtain ⟨h128, hh⟩ := hh
                replace hh := bind_some hh
                obtain ⟨e129, h130, hh⟩ := hh
                refine ⟨[.lit (.int .i64 e129)], (by cases hC; subst he_Int; exact decide_eq_false (Int.not_lt.2 (by first | exact h128 | (simp; done) | (simp; omega) | (simp at h128 ⊢; omega) | (simp at h128 ⊢; exact h128)))), (by cases hC; subst he_Int; first | exact r_Int_get h130 | simp [h130]), ?_⟩
                cbv
                replace hh := if_or hh
                rcases hh with ⟨b131, hh⟩ | ⟨b131, hh⟩
                · have f132 : (eq e126 e129) = true := by cases hC; exact beq_iff_eq.2 b131
                  rw [f132]; cbv
                  cases hh
                  have hh : some _ = some _ := hq2
                  cases hh
                  have hh : some _ = some _ := hq1
                  refine hQ2 _ _ ?_
                  refine hQ1 _ _ ?_
                  cbv
                  subst hr hp
                  cases hh
                  cases hC; subst he_Int; first | (simp; done) | (simp <;> first | rfl | omega | grind)
                · have f132 : (eq e126 e129) = false := by cases hC; exact beq_false_of_ne b131
                  rw [f132]; cbv
                  refine hN2 _ _ _ hh (Nat.lt_succ_self _) ?_
                  rintro ⟨n, t0, ⟨⟩⟩ e2
                  refine cov_of [] ?_
                  cbv
                  all_goals (have e2_0 := congrArg (fun s => s.2.1) e2; dsimp only at e2_0; subst e2_0; cases hC; subst he_Int; (first | (simp; done) | (simp <;> first | rfl | omega | grind)))
              · have f124 : (lt s112 s46) = false := by cases hC; exact decide_eq_false b123
                rw [f124]; cbv
                refine hD2 _  hh ?_
                rintro ⟨⟩ e2
                refine cov_of [] ?_
                cbv
                all_goals (cases hC; subst he_Int; (first | (simp; done) | (simp <;> first | rfl | omega | grind)))
          · have f101 : (lt e98 5) = false := by cases hC; exact decide_eq_false b100
            rw [f101]; cbv
            cases hh
            have hh : some _ = some _ := hq1
            refine hQ1 _ _ ?_
            cbv
            subst hr hp
            cases hh
            cases hC; subst he_Int; first | (simp; done) | (simp <;> first | rfl | omega | grind)
      · have f91 : (lt s46 (cast (len (qInt p0)))) = false := by cases hC; subst he_Int; first | exact decide_eq_false b90 | (simp; done) | (simp; omega) | (simp at b90 ⊢; omega) | (simp at b90 ⊢; exact b90)
        rw [f91]; cbv
        refine hD1 _  hh ?_
        rintro ⟨⟩ e1
        refine cov_of [] ?_
        cbv
        all_goals (cases hC; subst he_Int; (first | (simp; done) | (simp <;> first | rfl | omega | grind)))
  · have f2 : (eq (cast (len (qInt p0))) 5) = false := by cases hC; subst he_Int; first | exact beq_false_of_ne b1 | (simp; done) | (simp; omega) | (simp at b1 ⊢; omega) | (simp at b1 ⊢; exact b1)
    rw [f2]; cbv
    subst hr hp
    cases hh
    cases hC; subst he_Int; first | (simp; done) | (simp <;> first | rfl | omega | grind)

theorem c_spec_TurnEvs {k : Nat} {p0 : List GEv} {p1 : List Int} {r : List GEv} (hh : spec_TurnEvs.f k p0 p1 = some r) : FunW P 15 [.tree (r_GEv p0), .tree (r_Int p1)] [.hole, .hole] (.inl 3 (r_GEv r)) := by
  unfold spec_TurnEvs.f at hh
  refine fun_go2 eok mixed (ts := [(4, none)]) (rm := [.own]) (gs := [1000000, 1000001]) (pm := [.skip, .skip]) Try.func15 (by kernel_rfl) (by kernel_rfl) (by kernel_rfl) ?_
  intro Fn LW len cast toNat wrap add sub mul bin lt eq At set part app fz' rep nadd nmax ssize sext sget scat seq slt Wide Flat Ones Room r' post' hC hF hr hp
  generalize he_GEv : r_GEv = qGEv
  generalize he_Int : r_Int = qInt
  cbv
  replace hh := bind_some hh
  obtain ⟨x2, h1, hh⟩ := hh
  have f3 := c_spec_EvsOk h1
  try rw [he_GEv] at f3
  try rw [he_Int] at f3
  refine ⟨_, _, hF _ _ _ _ _ _ f3 (by cases hC; subst he_GEv he_Int; simp) rfl, ?_⟩
  cbv
  replace hh := if_or hh
  rcases hh with ⟨b4, hh⟩ | ⟨b4, hh⟩
  · have f5 : x2 = true := by exact b4
    rw [f5]; cbv
    replace hh := bind_some hh
    obtain ⟨x7, h6, hh⟩ := hh
    have f8 := c_spec_TurnBy h6
    try rw [he_GEv] at f8
    try rw [he_Int] at f8
    refine ⟨_, _, hF _ _ _ _ _ _ f8 (by cases hC; subst he_GEv he_Int; simp) rfl, ?_⟩
    cbv
    replace hh := if_or hh
    rcases hh with ⟨b9, hh⟩ | ⟨b9, hh⟩
    · have f10 : x7 = true := by exact b9
      rw [f10]; cbv
      replace hh := bind_some hh
      obtain ⟨o1, hl1, hq1⟩ := hh
      refine loop_go3 hC eok mixed
        (fun s : Nat × (List GEv) × Int × Unit => match s with | (_, s20, s21, _) => (⟨[(0, .tree (qGEv p0)), (1, .tree (qInt p1)), (5, .ref (8, 0) 1 0 (len (qGEv s20))), (6, .lit (.int .i64 s21))], [((8, 0), .arr 1 3 (qGEv s20))]⟩ : St))
        (fun s : Nat × (List GEv) × Int × Unit => spec_TurnEvs.l0 k p0 p1 s.1 s.2.1 s.2.2.1 = some o1)
        (fun s => s.1) (fun _ => .exit 0)
        (fun x : List GEv => match x with | x31 => (⟨[(5, .ref (8, 0) 1 0 (len (qGEv x31)))], [((8, 0), .arr 1 3 (qGEv x31))]⟩ : St))
        (fun x : List GEv => some (x) = some o1)
        (_, _, _, ()) hl1 ?_ ?_ ?_
      · rintro ⟨n, t0, t1, ⟨⟩⟩ e1
        refine cov_of [((8, 0), (8, 0))] ?_
        cbv
        all_goals (have e1_0 := congrArg (fun s => s.2.1) e1; dsimp only at e1_0; subst e1_0; have e1_1 := congrArg (fun s => s.2.2.1) e1; dsimp only at e1_1; subst e1_1; cases hC; subst he_GEv he_Int; (first | (simp; done) | (simp <;> first | rfl | omega | grind)))
      · rintro x31 hx
        have hx := Option.some.inj hx
        subst hx
        have hh := hq1
        cbv
        subst hr hp
        cases hh
        cases hC; subst he_GEv he_Int; first | (simp; done) | (simp <;> first | rfl | omega | grind)
      · rintro ⟨n, s20, s21, ⟨⟩⟩ N1 D1 hh hN1 hD1 hQ1
        replace hN1 := fun σ' n' a0 a1 (h : spec_TurnEvs.l0 k p0 p1 n' a0 a1 = some o1) => hN1 σ' (n', a0, a1, ()) h
        replace hD1 := fun σ' (a0 : List GEv) (h : some (a0) = some o1) => hD1 σ' a0 h
        cases n with
        | zero => dsimp only at hh; unfold spec_TurnEvs.l0 at hh; cases hh
        | succ n =>
        dsimp only at hh
        unfold spec_TurnEvs.l0 at hh
        cbv
        replace hh := if_or hh
        rcases hh with ⟨b32, hh⟩ | ⟨b32, hh⟩
        · have f33 : (lt s21 (cast (len (qGEv p0)))) = true := by cases hC; subst he_GEv he_Int; first | exact decide_eq_true b32 | (simp; done) | (simp; omega) | (simp at b32 ⊢; omega) | (simp at b32 ⊢; exact b32)
          rw [f33]; cbv
          replace hh := req_some hh
          obtain ⟨h34, hh⟩ := hh
          replace hh := bind_some hh
          obtain ⟨⟨e35_Sym, e35_At, e35_Val⟩, h36, hh⟩ := hh
          refine ⟨[.lit (.int .i64 e35_Sym), .lit (.int .i64 e35_At), .lit (.int .i64 e35_Val)], (by cases hC; subst he_GEv he_Int; exact decide_eq_false (Int.not_lt.2 (by first | exact h34 | (simp; done) | (simp; omega) | (simp at h34 ⊢; omega) | (simp at h34 ⊢; exact h34)))), (by cases hC; subst he_GEv he_Int; first | exact r_GEv_get h36 | simp [h36]), ?_⟩
          cbv
          replace hh := req_some hh
          obtain ⟨h37, hh⟩ := hh
          try dsimp only at h37
          replace hh := bind_some hh
          obtain ⟨e38, h39, hh⟩ := hh
          refine ⟨[.lit (.int .i64 e38)], (by cases hC; subst he_GEv he_Int; exact decide_eq_false (Int.not_lt.2 (by first | exact h37 | (simp; done) | (simp; omega) | (simp at h37 ⊢; omega) | (simp at h37 ⊢; exact h37)))), (by cases hC; subst he_GEv he_Int; first | exact r_Int_get h39 | simp [h39]), ?_⟩
          cbv
          replace hh := req_some hh
          obtain ⟨h40, hh⟩ := hh
          refine ⟨⟨(by cases hC; subst he_GEv he_Int; simp), (by cases hC; subst he_GEv he_Int; first | exact r_GEv_ones _ | (simp [ocell]; done))⟩, ?_⟩
          refine ⟨⟨(by cases hC; subst he_GEv he_Int; first | (simp; done) | (simp; first | omega | (simp only [natc] at *; omega))), by cases hC; subst he_GEv he_Int; first | exact h40 | (simp; done) | (simp; omega) | (simp at h40 ⊢; omega) | (simp at h40 ⊢; exact h40)⟩, ?_⟩
          refine hN1 _ _ _ _ hh (Nat.lt_succ_self _) ?_
          rintro ⟨n, t0, t1, ⟨⟩⟩ e1
          refine cov_of [((8, 0), (37, 0))] ?_
          cbv
          all_goals (have e1_0 := congrArg (fun s => s.2.1) e1; dsimp only at e1_0; subst e1_0; have e1_1 := congrArg (fun s => s.2.2.1) e1; dsimp only at e1_1; subst e1_1; cases hC; subst he_GEv he_Int; (first | (simp; done) | (simp <;> first | rfl | omega | grind)))
        · have f33 : (lt s21 (cast (len (qGEv p0)))) = false := by cases hC; subst he_GEv he_Int; first | exact decide_eq_false b32 | (simp; done) | (simp; omega) | (simp at b32 ⊢; omega) | (simp at b32 ⊢; exact b32)
          rw [f33]; cbv
          refine hD1 _ _ hh ?_
          rintro t0 e1
          refine cov_of [((8, 0), (8, 0))] ?_
          cbv
          all_goals (subst e1; cases hC; subst he_GEv he_Int; (first | (simp; done) | (simp <;> first | rfl | omega | grind)))
    · have f10 : x7 = false := by exact Bool.eq_false_iff.2 b9
      rw [f10]; cbv
      subst hr hp
      cases hh
      cases hC; subst he_GEv he_Int; first | (simp; done) | (simp <;> first | rfl | omega | grind)
  · have f5 : x2 = false := by exact Bool.eq_false_iff.2 b4
    rw [f5]; cbv
    subst hr hp
    cases hh
    cases hC; subst he_GEv he_Int; first | (simp; done) | (simp <;> first | rfl | omega | grind)
theorem c_spec_TurnEvs_L0_1 {k : Nat} {p0 : List GEv} {p1 : List Int} {r : List GEv} (hh : spec_TurnEvs.f k p0 p1 = some r) : FunW P 15 [.inl 3 (r_GEv p0), .inl 1 (r_Int p1)] [.inl 3 (r_GEv p0), .inl 1 (r_Int p1)] (.inl 3 (r_GEv r)) :=
  (c_spec_TurnEvs hh).lend (r_GEv_ownd _) (.lend (congrArg A.tree (r_GEv_fz _).symm) (.lend (congrArg A.tree (r_Int_fz _).symm) .nil))

theorem c_slices_Index {k : Nat} {p0 : List Int} {p1 : Int} {r : Int} (hh : slices_Index.f k p0 p1 = some r) : FunW P 89 [.tree (r_Int p0), .lit (.int .i64 p1)] [.hole, .hole] (.lit (.int .i64 r)) := by
  unfold slices_Index.f at hh
  refine fun_go2 eok mixed (ts := [(4, none)]) (rm := [.own]) (gs := [1000000, 1000001]) (pm := [.skip, .skip]) Try.func89 (by kernel_rfl) (by kernel_rfl) (by kernel_rfl) ?_
  intro Fn LW len cast toNat wrap add sub mul bin lt eq At set part app fz' rep nadd nmax ssize sext sget scat seq slt Wide Flat Ones Room r' post' hC hF hr hp
  generalize he_Int : r_Int = qInt
  cbv
  replace hh := bind_some hh
  obtain ⟨o1, hl1, hq1⟩ := hh
  refine loop_go3 hC eok mixed
    (fun s : Nat × Int × Unit => match s with | (_, s8, _) => (⟨[(0, .tree (qInt p0)), (1, .lit (.int .i64 p1)), (7, .lit (.int .i64 (cast (len (qInt p0))))), (8, .lit (.int .i64 s8))], []⟩ : St))
    (fun s : Nat × Int × Unit => slices_Index.l0 k p0 p1 s.1 s.2.1 = some o1)
    (fun s => s.1) (fun _ => .exit 0)
    (fun x : Unit => match x with | _ => (⟨[], []⟩ : St))
    (fun x : Unit => some (.ok x) = some o1)
    (_, _, ()) hl1 ?_ ?_ ?_
  · rintro ⟨n, t0, ⟨⟩⟩ e1
    refine cov_of [] ?_
    cbv
    all_goals (have e1_0 := congrArg (fun s => s.2.1) e1; dsimp only at e1_0; subst e1_0; cases hC; subst he_Int; (first | (simp; done) | (simp <;> first | rfl | omega | grind)))
  · rintro ⟨⟩ hx
    have hx := Option.some.inj hx
    subst hx
    have hh := hq1
    cbv
    subst hr hp
    cases hh
    cases hC; subst he_Int; first | (simp; done) | (simp <;> first | rfl | omega | grind)
  · rintro ⟨n, s8, ⟨⟩⟩ N1 D1 hh hN1 hD1 hQ1
    replace hN1 := fun σ' n' a0 (h : slices_Index.l0 k p0 p1 n' a0 = some o1) => hN1 σ' (n', a0, ()) h
    replace hD1 := fun σ'  (h : some (Except.ok ()) = some o1) => hD1 σ' () h
    cases n with
    | zero => dsimp only at hh; unfold slices_Index.l0 at hh; cases hh
    | succ n =>
    dsimp only at hh
    unfold slices_Index.l0 at hh
    cbv
    replace hh := if_or hh
    rcases hh with ⟨b16, hh⟩ | ⟨b16, hh⟩
    · have f17 : (lt s8 (cast (len (qInt p0)))) = true := by cases hC; subst he_Int; first | exact decide_eq_true b16 | (simp; done) | (simp; omega) | (simp at b16 ⊢; omega) | (simp at b16 ⊢; exact b16)
      rw [f17]; cbv
      replace hh := req_some hh
      obtain ⟨h18, hh⟩ := hh
      replace hh := bind_some hh
      obtain ⟨e19, h20, hh⟩ := hh
      refine ⟨[.lit (.int .i64 e19)], (by cases hC; subst he_Int; exact decide_eq_false (Int.not_lt.2 (by first | exact h18 | (simp; done) | (simp; omega) | (simp at h18 ⊢; omega) | (simp at h18 ⊢; exact h18)))), (by cases hC; subst he_Int; first | exact r_Int_get h20 | simp [h20]), ?_⟩
      cbv
      replace hh := if_or hh
      rcases hh with ⟨b21, hh⟩ | ⟨b21, hh⟩
      · have f22 : (eq p1 e19) = true := by cases hC; exact beq_iff_eq.2 b21
        rw [f22]; cbv
        cases hh
        have hh : some _ = some _ := hq1
        refine hQ1 _ _ ?_
        cbv
        subst hr hp
        cases hh
        cases hC; subst he_Int; first | (simp; done) | (simp <;> first | rfl | omega | grind)
      · have f22 : (eq p1 e19) = false := by cases hC; exact beq_false_of_ne b21
        rw [f22]; cbv
        refine hN1 _ _ _ hh (Nat.lt_succ_self _) ?_
        rintro ⟨n, t0, ⟨⟩⟩ e1
        refine cov_of [] ?_
        cbv
        all_goals (have e1_0 := congrArg (fun s => s.2.1) e1; dsimp only at e1_0; subst e1_0; cases hC; subst he_Int; (first | (simp; done) | (simp <;> first | rfl | omega | grind)))
    · have f17 : (lt s8 (cast (len (qInt p0)))) = false := by cases hC; subst he_Int; first | exact decide_eq_false b16 | (simp; done) | (simp; omega) | (simp at b16 ⊢; omega) | (simp at b16 ⊢; exact b16)
      rw [f17]; cbv
      refine hD1 _  hh ?_
      rintro ⟨⟩ e1
      refine cov_of [] ?_
      cbv
      all_goals (cases hC; subst he_Int; (first | (simp; done) | (simp <;> first | rfl | omega | grind)))

theorem c_slices_Contains {k : Nat} {p0 : List Int} {p1 : Int} {r : Bool} (hh : slices_Contains.f k p0 p1 = some r) : FunW P 75 [.tree (r_Int p0), .lit (.int .i64 p1)] [.hole, .hole] (.lit (.bool r)) := by
  unfold slices_Contains.f at hh
  refine fun_go2 eok mixed (ts := [(4, none)]) (rm := [.own]) (gs := [1000000, 1000001]) (pm := [.skip, .skip]) Try.func75 (by kernel_rfl) (by kernel_rfl) (by kernel_rfl) ?_
  intro Fn LW len cast toNat wrap add sub mul bin lt eq At set part app fz' rep nadd nmax ssize sext sget scat seq slt Wide Flat Ones Room r' post' hC hF hr hp
  generalize he_Int : r_Int = qInt
  cbv
  replace hh := bind_some hh
  obtain ⟨x2, h1, hh⟩ := hh
  have f3 := c_slices_Index h1
  try rw [he_Int] at f3
  refine ⟨_, _, hF _ _ _ _ _ _ f3 (by cases hC; subst he_Int; simp) rfl, ?_⟩
  cbv
  subst hr hp
  cases hh
  cases hC; subst he_Int; first | (simp; done) | (simp <;> first | rfl | omega | grind)

theorem c_impl_TurnBy {k : Nat} {p0 : List Int} {r : Bool} (hh : impl_TurnBy.f k p0 = some r) : FunW P 47 [.tree (r_Int p0)] [.hole] (.lit (.bool r)) := by
  unfold impl_TurnBy.f at hh
  refine fun_go2 eok mixed (ts := [(2, none)]) (rm := [.own]) (gs := [1000000]) (pm := [.skip]) Try.func47 (by kernel_rfl) (by kernel_rfl) (by kernel_rfl) ?_
  intro Fn LW len cast toNat wrap add sub mul bin lt eq At set part app fz' rep nadd nmax ssize sext sget scat seq slt Wide Flat Ones Room r' post' hC hF hr hp
  generalize he_Int : r_Int = qInt
  cbv
  replace hh := bind_some hh
  obtain ⟨o1, hl1, hq1⟩ := hh
  refine loop_go3 hC eok mixed
    (fun s : Nat × Int × Unit => match s with | (_, s19, _) => (⟨[(0, .tree (qInt p0)), (5, .tree (qInt p0)), (6, .lit (.int .i64 (cast (len (qInt p0))))), (7, .lit (.int .i64 s19))], []⟩ : St))
    (fun s : Nat × Int × Unit => impl_TurnBy.l0 k p0 s.1 s.2.1 = some o1)
    (fun s => s.1) (fun _ => .exit 0)
    (fun x : Unit => match x with | _ => (⟨[(0, .tree (qInt p0))], []⟩ : St))
    (fun x : Unit => some (.ok x) = some o1)
    (_, _, ()) hl1 ?_ ?_ ?_
  · rintro ⟨n, t0, ⟨⟩⟩ e1
    refine cov_of [] ?_
    cbv
    all_goals (have e1_0 := congrArg (fun s => s.2.1) e1; dsimp only at e1_0; subst e1_0; cases hC; subst he_Int; (first | (simp; done) | (simp <;> first | rfl | omega | grind)))
  · rintro ⟨⟩ hx
    have hx := Option.some.inj hx
    subst hx
    have hh := hq1
    cbv
    subst hr hp
    cases hh
    cases hC; subst he_Int; first | (simp; done) | (simp <;> first | rfl | omega | grind)
  · rintro ⟨n, s19, ⟨⟩⟩ N1 D1 hh hN1 hD1 hQ1
    replace hN1 := fun σ' n' a0 (h : impl_TurnBy.l0 k p0 n' a0 = some o1) => hN1 σ' (n', a0, ()) h
    replace hD1 := fun σ'  (h : some (Except.ok ()) = some o1) => hD1 σ' () h
    cases n with
    | zero => dsimp only at hh; unfold impl_TurnBy.l0 at hh; cases hh
    | succ n =>
    dsimp only at hh
    unfold impl_TurnBy.l0 at hh
    cbv
    replace hh := if_or hh
    rcases hh with ⟨b38, hh⟩ | ⟨b38, hh⟩
    · have f39 : (lt s19 (cast (len (qInt p0)))) = true := by cases hC; subst he_Int; first | exact decide_eq_true b38 | (simp; done) | (simp; omega) | (simp at b38 ⊢; omega) | (simp at b38 ⊢; exact b38)
      rw [f39]; cbv
      replace hh := req_some hh
      obtain ⟨h40, hh⟩ := hh
      replace hh := bind_some hh
      obtain ⟨e41, h42, hh⟩ := hh
      refine ⟨[.lit (.int .i64 e41)], (by cases hC; subst he_Int; exact decide_eq_false (Int.not_lt.2 (by first | exact h40 | (simp; done) | (simp; omega) | (simp at h40 ⊢; omega) | (simp at h40 ⊢; exact h40)))), (by cases hC; subst he_Int; first | exact r_Int_get h42 | simp [h42]), ?_⟩
      cbv
      replace hh := bind_some hh
      obtain ⟨x44, h43, hh⟩ := hh
      have f45 := c_impl_isSym h43
      try rw [he_Int] at f45
      refine ⟨_, _, hF _ _ _ _ _ _ f45 (by cases hC; subst he_Int; simp) rfl, ?_⟩
      cbv
      replace hh := if_or hh
      rcases hh with ⟨b46, hh⟩ | ⟨b46, hh⟩
      · have f47 : x44 = true := by exact b46
        rw [f47]; cbv
        replace hh := req_some hh
        obtain ⟨h48, hh⟩ := hh
        replace hh := req_some hh
        obtain ⟨h49, hh⟩ := hh
        replace hh := req_some hh
        obtain ⟨h50, hh⟩ := hh
        refine ⟨⟨(by cases hC; subst he_Int; exact decide_eq_false (Int.not_lt.2 h48)), (by cases hC; subst he_Int; exact decide_eq_false (Int.not_lt.2 (by first | exact h49 | (simp; done) | (simp; omega) | (simp at h49 ⊢; omega) | (simp at h49 ⊢; exact h49)))), (by cases hC; subst he_Int; exact decide_eq_false (Int.not_lt.2 (by first | exact h50 | (simp; done) | (simp; omega) | (simp at h50 ⊢; omega) | (simp at h50 ⊢; exact h50)))), (by cases hC; subst he_Int; first | exact r_Int_wide _ | (simp; done))⟩, ?_⟩
        replace hh := bind_some hh
        obtain ⟨x52, h51, hh⟩ := hh
        have f53 := c_slices_Contains h51
        try rw [he_Int] at f53
        refine ⟨_, _, hF _ _ _ _ _ _ f53 (by cases hC; subst he_Int; simp) rfl, ?_⟩
        cbv
        replace hh := if_or hh
        rcases hh with ⟨b54, hh⟩ | ⟨b54, hh⟩
        · have f55 : x52 = true := by exact b54
          rw [f55]; cbv
          cases hh
          have hh : some _ = some _ := hq1
          refine hQ1 _ _ ?_
          cbv
          subst hr hp
          cases hh
          cases hC; subst he_Int; first | (simp; done) | (simp <;> first | rfl | omega | grind)
        · have f55 : x52 = false := by exact Bool.eq_false_iff.2 b54
          rw [f55]; cbv
          refine hN1 _ _ _ hh (Nat.lt_succ_self _) ?_
          rintro ⟨n, t0, ⟨⟩⟩ e1
          refine cov_of [] ?_
          cbv
          all_goals (have e1_0 := congrArg (fun s => s.2.1) e1; dsimp only at e1_0; subst e1_0; cases hC; subst he_Int; (first | (simp; done) | (simp <;> first | rfl | omega | grind)))
      · have f47 : x44 = false := by exact Bool.eq_false_iff.2 b46
        rw [f47]; cbv
        cases hh
        have hh : some _ = some _ := hq1
        refine hQ1 _ _ ?_
        cbv
        subst hr hp
        cases hh
        cases hC; subst he_Int; first | (simp; done) | (simp <;> first | rfl | omega | grind)
    · have f39 : (lt s19 (cast (len (qInt p0)))) = false := by cases hC; subst he_Int; first | exact decide_eq_false b38 | (simp; done) | (simp; omega) | (simp at b38 ⊢; omega) | (simp at b38 ⊢; exact b38)
      rw [f39]; cbv
      refine hD1 _  hh ?_
      rintro ⟨⟩ e1
      refine cov_of [] ?_
      cbv
      all_goals (cases hC; subst he_Int; (first | (simp; done) | (simp <;> first | rfl | omega | grind)))

theorem c_impl_TurnEvs {k : Nat} {p0 : List GEv} {p1 : List Int} {r : List GEv} (hh : impl_TurnEvs.f k p0 p1 = some r) : FunW P 17 [.tree (r_GEv p0), .tree (r_Int p1)] [.hole, .hole] (.inl 3 (r_GEv r)) := by
  unfold impl_TurnEvs.f at hh
  refine fun_go2 eok mixed (ts := [(4, none)]) (rm := [.own]) (gs := [1000000, 1000001]) (pm := [.skip, .skip]) Try.func17 (by kernel_rfl) (by kernel_rfl) (by kernel_rfl) ?_
  intro Fn LW len cast toNat wrap add sub mul bin lt eq At set part app fz' rep nadd nmax ssize sext sget scat seq slt Wide Flat Ones Room r' post' hC hF hr hp
  generalize he_GEv : r_GEv = qGEv
  generalize he_Int : r_Int = qInt
  cbv
  replace hh := bind_some hh
  obtain ⟨x2, h1, hh⟩ := hh
  have f3 := c_impl_EvsOk h1
  try rw [he_GEv] at f3
  try rw [he_Int] at f3
  refine ⟨_, _, hF _ _ _ _ _ _ f3 (by cases hC; subst he_GEv he_Int; simp) rfl, ?_⟩
  cbv
  replace hh := if_or hh
  rcases hh with ⟨b4, hh⟩ | ⟨b4, hh⟩
  · have f5 : x2 = true := by exact b4
    rw [f5]; cbv
    replace hh := bind_some hh
    obtain ⟨x7, h6, hh⟩ := hh
    have f8 := c_impl_TurnBy h6
    try rw [he_GEv] at f8
    try rw [he_Int] at f8
    refine ⟨_, _, hF _ _ _ _ _ _ f8 (by cases hC; subst he_GEv he_Int; simp) rfl, ?_⟩
    cbv
    replace hh := if_or hh
    rcases hh with ⟨b9, hh⟩ | ⟨b9, hh⟩
    · have f10 : x7 = true := by exact b9
      rw [f10]; cbv
      replace hh := bind_some hh
      obtain ⟨x12, h11, hh⟩ := hh
      have f13 := c_impl_cloneEvs h11
      try rw [he_GEv] at f13
      try rw [he_Int] at f13
      refine ⟨_, _, hF _ _ _ _ _ _ f13 (by cases hC; subst he_GEv he_Int; simp) rfl, ?_⟩
      cbv
      replace hh := bind_some hh
      obtain ⟨o1, hl1, hq1⟩ := hh
      refine loop_go3 hC eok mixed
        (fun s : Nat × (List GEv) × Int × Unit => match s with | (_, s25, s26, _) => (⟨[(1, .tree (qInt p1)), (5, .ref (17, 0) 1 0 (len (qGEv s25))), (18, .ref (17, 0) 1 0 (len (qGEv s25))), (19, .lit (.int .i64 (cast (len (qGEv x12))))), (20, .lit (.int .i64 s26))], [((17, 0), .arr 1 3 (qGEv s25))]⟩ : St))
        (fun s : Nat × (List GEv) × Int × Unit => impl_TurnEvs.l0 k p1 x12 s.1 s.2.1 s.2.2.1 = some o1)
        (fun s => s.1) (fun _ => .exit 0)
        (fun x : List GEv => match x with | x38 => (⟨[(5, .ref (17, 0) 1 0 (len (qGEv x38)))], [((17, 0), .arr 1 3 (qGEv x38))]⟩ : St))
        (fun x : List GEv => some (x) = some o1)
        (_, _, _, ()) hl1 ?_ ?_ ?_
      · rintro ⟨n, t0, t1, ⟨⟩⟩ e1
        refine cov_of [((17, 0), (17, 0))] ?_
        cbv
        all_goals (have e1_0 := congrArg (fun s => s.2.1) e1; dsimp only at e1_0; subst e1_0; have e1_1 := congrArg (fun s => s.2.2.1) e1; dsimp only at e1_1; subst e1_1; cases hC; subst he_GEv he_Int; (first | (simp; done) | (simp <;> first | rfl | omega | grind)))
      · rintro x38 hx
        have hx := Option.some.inj hx
        subst hx
        have hh := hq1
        cbv
        subst hr hp
        cases hh
        cases hC; subst he_GEv he_Int; first | (simp; done) | (simp <;> first | rfl | omega | grind)
      · rintro ⟨n, s25, s26, ⟨⟩⟩ N1 D1 hh hN1 hD1 hQ1
        replace hN1 := fun σ' n' a0 a1 (h : impl_TurnEvs.l0 k p1 x12 n' a0 a1 = some o1) => hN1 σ' (n', a0, a1, ()) h
        replace hD1 := fun σ' (a0 : List GEv) (h : some (a0) = some o1) => hD1 σ' a0 h
        cases n with
        | zero => dsimp only at hh; unfold impl_TurnEvs.l0 at hh; cases hh
        | succ n =>
        dsimp only at hh
        unfold impl_TurnEvs.l0 at hh
        cbv
        replace hh := if_or hh
        rcases hh with ⟨b39, hh⟩ | ⟨b39, hh⟩
        · have f40 : (lt s26 (cast (len (qGEv x12)))) = true := by cases hC; subst he_GEv he_Int; first | exact decide_eq_true b39 | (simp; done) | (simp; omega) | (simp at b39 ⊢; omega) | (simp at b39 ⊢; exact b39)
          rw [f40]; cbv
          replace hh := req_some hh
          obtain ⟨h41, hh⟩ := hh
          replace hh := req_some hh
          obtain ⟨h42, hh⟩ := hh
          replace h42 : s26 < (s25.length : Nat) := h42
          refine ⟨(by cases hC; subst he_GEv he_Int; exact decide_eq_false (Int.not_lt.2 (by first | exact h41 | (simp; done) | (simp; omega) | (simp at h41 ⊢; omega) | (simp at h41 ⊢; exact h41)))), (by cases hC; subst he_GEv he_Int; exact decide_eq_true (by first | exact h42 | (simp; done) | (simp; omega) | (simp at h42 ⊢; omega) | (simp at h42 ⊢; exact h42))), ?_⟩
          replace hh := bind_some hh
          obtain ⟨⟨e43_Sym, e43_At, e43_Val⟩, h44, hh⟩ := hh
          refine ⟨[.lit (.int .i64 e43_Sym), .lit (.int .i64 e43_At), .lit (.int .i64 e43_Val)], (by cases hC; subst he_GEv he_Int; first | exact r_GEv_get h44 | (simp [h44]; done) | (have q := r_GEv_get h44; rw [r_GEv_map] at q; simpa [List.map] using q)), ?_⟩
          cbv
          replace hh := req_some hh
          obtain ⟨h45, hh⟩ := hh
          try dsimp only at h45
          replace hh := bind_some hh
          obtain ⟨e46, h47, hh⟩ := hh
          refine ⟨[.lit (.int .i64 e46)], (by cases hC; subst he_GEv he_Int; exact decide_eq_false (Int.not_lt.2 (by first | exact h45 | (simp; done) | (simp; omega) | (simp at h45 ⊢; omega) | (simp at h45 ⊢; exact h45)))), (by cases hC; subst he_GEv he_Int; first | exact r_Int_get h47 | simp [h47]), ?_⟩
          cbv
          replace hh := req_some hh
          obtain ⟨h48, hh⟩ := hh
          replace hh := req_some hh
          obtain ⟨h49, hh⟩ := hh
          replace h49 : s26 < (s25.length : Nat) := h49
          refine ⟨(by cases hC; subst he_GEv he_Int; exact decide_eq_false (Int.not_lt.2 (by first | exact h48 | (simp; done) | (simp; omega) | (simp at h48 ⊢; omega) | (simp at h48 ⊢; exact h48)))), (by cases hC; subst he_GEv he_Int; exact decide_eq_true (by first | exact h49 | (simp; done) | (simp; omega) | (simp at h49 ⊢; omega) | (simp at h49 ⊢; exact h49))), ?_⟩
          refine ⟨[.lit (.int .i64 e43_Sym), .lit (.int .i64 e43_At), .lit (.int .i64 e43_Val)], (by cases hC; subst he_GEv he_Int; first | exact r_GEv_get h44 | (simp [h44]; done) | (have q := r_GEv_get h44; rw [r_GEv_map] at q; simpa [List.map] using q)), ?_⟩
          cbv
          refine hN1 _ _ _ _ hh (Nat.lt_succ_self _) ?_
          rintro ⟨n, t0, t1, ⟨⟩⟩ e1
          refine cov_of [((17, 0), (17, 0))] ?_
          cbv
          all_goals (have e1_0 := congrArg (fun s => s.2.1) e1; dsimp only at e1_0; subst e1_0; have e1_1 := congrArg (fun s => s.2.2.1) e1; dsimp only at e1_1; subst e1_1; cases hC; subst he_GEv he_Int; (first | (simp; done) | (simp <;> first | rfl | omega | grind)))
        · have f40 : (lt s26 (cast (len (qGEv x12)))) = false := by cases hC; subst he_GEv he_Int; first | exact decide_eq_false b39 | (simp; done) | (simp; omega) | (simp at b39 ⊢; omega) | (simp at b39 ⊢; exact b39)
          rw [f40]; cbv
          refine hD1 _ _ hh ?_
          rintro t0 e1
          refine cov_of [((17, 0), (17, 0))] ?_
          cbv
          all_goals (subst e1; cases hC; subst he_GEv he_Int; (first | (simp; done) | (simp <;> first | rfl | omega | grind)))
    · have f10 : x7 = false := by exact Bool.eq_false_iff.2 b9
      rw [f10]; cbv
      refine ⟨3, ?_⟩
      cbv
      subst hr hp
      cases hh
      cases hC; subst he_GEv he_Int; first | (simp; done) | (simp <;> first | rfl | omega | grind)
  · have f5 : x2 = false := by exact Bool.eq_false_iff.2 b4
    rw [f5]; cbv
    refine ⟨3, ?_⟩
    cbv
    subst hr hp
    cases hh
    cases hC; subst he_GEv he_Int; first | (simp; done) | (simp <;> first | rfl | omega | grind)
theorem c_impl_TurnEvs_L0_1 {k : Nat} {p0 : List GEv} {p1 : List Int} {r : List GEv} (hh : impl_TurnEvs.f k p0 p1 = some r) : FunW P 17 [.inl 3 (r_GEv p0), .inl 1 (r_Int p1)] [.inl 3 (r_GEv p0), .inl 1 (r_Int p1)] (.inl 3 (r_GEv r)) :=
  (c_impl_TurnEvs hh).lend (r_GEv_ownd _) (.lend (congrArg A.tree (r_GEv_fz _).symm) (.lend (congrArg A.tree (r_Int_fz _).symm) .nil))

theorem c_laws_eqIntS {k : Nat} {p0 : List Int} {p1 : List Int} {r : Bool} (hh : laws_eqIntS.f k p0 p1 = some r) : FunW P 18 [.tree (r_Int p0), .tree (r_Int p1)] [.hole, .hole] (.lit (.bool r)) := by
  unfold laws_eqIntS.f at hh
  refine fun_go2 eok mixed (ts := [(4, none)]) (rm := [.own]) (gs := [1000000, 1000001]) (pm := [.skip, .skip]) Try.func18 (by kernel_rfl) (by kernel_rfl) (by kernel_rfl) ?_
  intro Fn LW len cast toNat wrap add sub mul bin lt eq At set part app fz' rep nadd nmax ssize sext sget scat seq slt Wide Flat Ones Room r' post' hC hF hr hp
  generalize he_Int : r_Int = qInt
  cbv
  replace hh := if_or hh
  rcases hh with ⟨b1, hh⟩ | ⟨b1, hh⟩
  · have f2 : (eq (cast (len (qInt p0))) (cast (len (qInt p1)))) = true := by cases hC; subst he_Int; first | exact beq_iff_eq.2 b1 | (simp; done) | (simp; omega) | (simp at b1 ⊢; omega) | (simp at b1 ⊢; exact b1)
    rw [f2]; cbv
    replace hh := bind_some hh
    obtain ⟨o1, hl1, hq1⟩ := hh
    refine loop_go3 hC eok mixed
      (fun s : Nat × Int × Unit => match s with | (_, s13, _) => (⟨[(0, .tree (qInt p0)), (1, .tree (qInt p1)), (5, .lit (.int .i64 s13))], []⟩ : St))
      (fun s : Nat × Int × Unit => laws_eqIntS.l0 k p0 p1 s.1 s.2.1 = some o1)
      (fun s => s.1) (fun _ => .exit 0)
      (fun x : Unit => match x with | _ => (⟨[], []⟩ : St))
      (fun x : Unit => some (.ok x) = some o1)
      (_, _, ()) hl1 ?_ ?_ ?_
    · rintro ⟨n, t0, ⟨⟩⟩ e1
      refine cov_of [] ?_
      cbv
      all_goals (have e1_0 := congrArg (fun s => s.2.1) e1; dsimp only at e1_0; subst e1_0; cases hC; subst he_Int; (first | (simp; done) | (simp <;> first | rfl | omega | grind)))
    · rintro ⟨⟩ hx
      have hx := Option.some.inj hx
      subst hx
      have hh := hq1
      cbv
      subst hr hp
      cases hh
      cases hC; subst he_Int; first | (simp; done) | (simp <;> first | rfl | omega | grind)
    · rintro ⟨n, s13, ⟨⟩⟩ N1 D1 hh hN1 hD1 hQ1
      replace hN1 := fun σ' n' a0 (h : laws_eqIntS.l0 k p0 p1 n' a0 = some o1) => hN1 σ' (n', a0, ()) h
      replace hD1 := fun σ'  (h : some (Except.ok ()) = some o1) => hD1 σ' () h
      cases n with
      | zero => dsimp only at hh; unfold laws_eqIntS.l0 at hh; cases hh
      | succ n =>
      dsimp only at hh
      unfold laws_eqIntS.l0 at hh
      cbv
      replace hh := if_or hh
      rcases hh with ⟨b24, hh⟩ | ⟨b24, hh⟩
      · have f25 : (lt s13 (cast (len (qInt p0)))) = true := by cases hC; subst he_Int; first | exact decide_eq_true b24 | (simp; done) | (simp; omega) | (simp at b24 ⊢; omega) | (simp at b24 ⊢; exact b24)
        rw [f25]; cbv
        replace hh := req_some hh
        obtain ⟨h26, hh⟩ := hh
        replace hh := bind_some hh
        obtain ⟨e27, h28, hh⟩ := hh
        refine ⟨[.lit (.int .i64 e27)], (by cases hC; subst he_Int; exact decide_eq_false (Int.not_lt.2 (by first | exact h26 | (simp; done) | (simp; omega) | (simp at h26 ⊢; omega) | (simp at h26 ⊢; exact h26)))), (by cases hC; subst he_Int; first | exact r_Int_get h28 | simp [h28]), ?_⟩
        cbv
        replace hh := req_some hh
        obtain ⟨h29, hh⟩ := hh
        replace hh := bind_some hh
        obtain ⟨e30, h31, hh⟩ := hh
        refine ⟨[.lit (.int .i64 e30)], (by cases hC; subst he_Int; exact decide_eq_false (Int.not_lt.2 (by first | exact h29 | (simp; done) | (simp; omega) | (simp at h29 ⊢; omega) | (simp at h29 ⊢; exact h29)))), (by cases hC; subst he_Int; first | exact r_Int_get h31 | simp [h31]), ?_⟩
        cbv
        replace hh := if_or hh
        rcases hh with ⟨b32, hh⟩ | ⟨b32, hh⟩
        · have f33 : (eq e27 e30) = true := by cases hC; exact beq_iff_eq.2 b32
          rw [f33]; cbv
          refine hN1 _ _ _ hh (Nat.lt_succ_self _) ?_
          rintro ⟨n, t0, ⟨⟩⟩ e1
          refine cov_of [] ?_
          cbv
          all_goals (have e1_0 := congrArg (fun s => s.2.1) e1; dsimp only at e1_0; subst e1_0; cases hC; subst he_Int; (first | (simp; done) | (simp <;> first | rfl | omega | grind)))
        · have f33 : (eq e27 e30) = false := by cases hC; exact beq_false_of_ne b32
          rw [f33]; cbv
          cases hh
          have hh : some _ = some _ := hq1
          refine hQ1 _ _ ?_
          cbv
          subst hr hp
          cases hh
          cases hC; subst he_Int; first | (simp; done) | (simp <;> first | rfl | omega | grind)
      · have f25 : (lt s13 (cast (len (qInt p0)))) = false := by cases hC; subst he_Int; first | exact decide_eq_false b24 | (simp; done) | (simp; omega) | (simp at b24 ⊢; omega) | (simp at b24 ⊢; exact b24)
        rw [f25]; cbv
        refine hD1 _  hh ?_
        rintro ⟨⟩ e1
        refine cov_of [] ?_
        cbv
        all_goals (cases hC; subst he_Int; (first | (simp; done) | (simp <;> first | rfl | omega | grind)))
  · have f2 : (eq (cast (len (qInt p0))) (cast (len (qInt p1)))) = false := by cases hC; subst he_Int; first | exact beq_false_of_ne b1 | (simp; done) | (simp; omega) | (simp at b1 ⊢; omega) | (simp at b1 ⊢; exact b1)
    rw [f2]; cbv
    subst hr hp
    cases hh
    cases hC; subst he_Int; first | (simp; done) | (simp <;> first | rfl | omega | grind)
theorem c_laws_eqIntS_L0_1 {k : Nat} {p0 : List Int} {p1 : List Int} {r : Bool} (hh : laws_eqIntS.f k p0 p1 = some r) : FunW P 18 [.inl 1 (r_Int p0), .inl 1 (r_Int p1)] [.inl 1 (r_Int p0), .inl 1 (r_Int p1)] (.lit (.bool r)) :=
  (c_laws_eqIntS hh).lend (rfl) (.lend (congrArg A.tree (r_Int_fz _).symm) (.lend (congrArg A.tree (r_Int_fz _).symm) .nil))

theorem c_laws_markIntS {k : Nat} {p0 : List Int} {p1 : Int} {r : Int × (List Int)} (hh : laws_markIntS.f k p0 p1 = some r) : FunW P 19 [.inl 1 (r_Int p0), .lit (.int .i64 p1)] [.inl 1 (r_Int r.2), .hole] (.lit (.int .i64 r.1)) := by
  unfold laws_markIntS.f at hh
  refine fun_go2 eok mixed (ts := [(4, none)]) (rm := [.own]) (gs := [1000000, 1000001]) (pm := [.own, .skip]) Try.func19 (by kernel_rfl) (by kernel_rfl) (by kernel_rfl) ?_
  intro Fn LW len cast toNat wrap add sub mul bin lt eq At set part app fz' rep nadd nmax ssize sext sget scat seq slt Wide Flat Ones Room r' post' hC hF hr hp
  generalize he_Int : r_Int = qInt
  cbv
  replace hh := bind_some hh
  obtain ⟨o1, hl1, hq1⟩ := hh
  refine loop_go3 hC eok mixed
    (fun s : Nat × (List Int) × Int × Int × Unit => match s with | (_, s7, s8, s9, _) => (⟨[(0, .ref (0, 0) 1 0 (len (qInt s7))), (1, .lit (.int .i64 s8)), (5, .lit (.int .i64 s9)), (1000000, .ref (0, 0) 1 0 (len (qInt s7)))], [((0, 0), .arr 1 1 (qInt s7))]⟩ : St))
    (fun s : Nat × (List Int) × Int × Int × Unit => laws_markIntS.l0 k s.1 s.2.1 s.2.2.1 s.2.2.2.1 = some o1)
    (fun s => s.1) (fun _ => .exit 0)
    (fun x : Int × (List Int) => match x with | (x16, x17) => (⟨[(1, .lit (.int .i64 x16)), (1000000, .ref (0, 0) 1 0 (len (qInt x17)))], [((0, 0), .arr 1 1 (qInt x17))]⟩ : St))
    (fun x : Int × (List Int) => some (x) = some o1)
    (_, _, _, _, ()) hl1 ?_ ?_ ?_
  · rintro ⟨n, t0, t1, t2, ⟨⟩⟩ e1
    refine cov_of [((0, 0), (0, 0))] ?_
    cbv
    all_goals (have e1_0 := congrArg (fun s => s.2.1) e1; dsimp only at e1_0; subst e1_0; have e1_1 := congrArg (fun s => s.2.2.1) e1; dsimp only at e1_1; subst e1_1; have e1_2 := congrArg (fun s => s.2.2.2.1) e1; dsimp only at e1_2; subst e1_2; cases hC; subst he_Int; (first | (simp; done) | (simp <;> first | rfl | omega | grind)))
  · rintro ⟨x16, x17⟩ hx
    have hx := Option.some.inj hx
    subst hx
    have hh := hq1
    cbv
    subst hr hp
    cases hh
    cases hC; subst he_Int; first | (simp; done) | (simp <;> first | rfl | omega | grind)
  · rintro ⟨n, s7, s8, s9, ⟨⟩⟩ N1 D1 hh hN1 hD1 hQ1
    replace hN1 := fun σ' n' a0 a1 a2 (h : laws_markIntS.l0 k n' a0 a1 a2 = some o1) => hN1 σ' (n', a0, a1, a2, ()) h
    replace hD1 := fun σ' (a0 : Int) (a1 : List Int) (h : some ((a0, a1)) = some o1) => hD1 σ' (a0, a1) h
    cases n with
    | zero => dsimp only at hh; unfold laws_markIntS.l0 at hh; cases hh
    | succ n =>
    dsimp only at hh
    unfold laws_markIntS.l0 at hh
    cbv
    replace hh := if_or hh
    rcases hh with ⟨b18, hh⟩ | ⟨b18, hh⟩
    · have f19 : (lt s9 (cast (len (qInt s7)))) = true := by cases hC; subst he_Int; first | exact decide_eq_true b18 | (simp; done) | (simp; omega) | (simp at b18 ⊢; omega) | (simp at b18 ⊢; exact b18)
      rw [f19]; cbv
      replace hh := req_some hh
      obtain ⟨h20, hh⟩ := hh
      replace hh := req_some hh
      obtain ⟨h21, hh⟩ := hh
      replace h21 : s9 < (s7.length : Nat) := h21
      refine ⟨(by cases hC; subst he_Int; exact decide_eq_false (Int.not_lt.2 (by first | exact h20 | (simp; done) | (simp; omega) | (simp at h20 ⊢; omega) | (simp at h20 ⊢; exact h20)))), (by cases hC; subst he_Int; exact decide_eq_true (by first | exact h21 | (simp; done) | (simp; omega) | (simp at h21 ⊢; omega) | (simp at h21 ⊢; exact h21))), ?_⟩
      replace hh := bind_some hh
      obtain ⟨e22, h23, hh⟩ := hh
      refine ⟨[.lit (.int .i64 e22)], (by cases hC; subst he_Int; first | exact r_Int_get h23 | (simp [h23]; done) | (have q := r_Int_get h23; rw [r_Int_map] at q; simpa [List.map] using q)), ?_⟩
      cbv
      refine hN1 _ _ _ _ _ hh (Nat.lt_succ_self _) ?_
      rintro ⟨n, t0, t1, t2, ⟨⟩⟩ e1
      refine cov_of [((0, 0), (0, 0))] ?_
      cbv
      all_goals (have e1_0 := congrArg (fun s => s.2.1) e1; dsimp only at e1_0; subst e1_0; have e1_1 := congrArg (fun s => s.2.2.1) e1; dsimp only at e1_1; subst e1_1; have e1_2 := congrArg (fun s => s.2.2.2.1) e1; dsimp only at e1_2; subst e1_2; cases hC; subst he_Int; (first | (simp; done) | (simp <;> first | rfl | omega | grind)))
    · have f19 : (lt s9 (cast (len (qInt s7)))) = false := by cases hC; subst he_Int; first | exact decide_eq_false b18 | (simp; done) | (simp; omega) | (simp at b18 ⊢; omega) | (simp at b18 ⊢; exact b18)
      rw [f19]; cbv
      refine hD1 _ _ _ hh ?_
      rintro ⟨t0, t1⟩ e1
      refine cov_of [((0, 0), (0, 0))] ?_
      cbv
      all_goals (have e1_0 := congrArg (fun s => s.1) e1; dsimp only at e1_0; subst e1_0; have e1_1 := congrArg (fun s => s.2) e1; dsimp only at e1_1; subst e1_1; cases hC; subst he_Int; (first | (simp; done) | (simp <;> first | rfl | omega | grind)))

theorem c_laws_FnExactTurnEvs {k : Nat} {p0 : List GEv} {p1 : List Int} {r : Bool} (hh : laws_FnExactTurnEvs.f k p0 p1 = some r) : FunW P 4 [.tree (r_GEv p0), .tree (r_Int p1)] [.hole, .hole] (.lit (.bool r)) := by
  unfold laws_FnExactTurnEvs.f at hh
  refine fun_go2 eok mixed (ts := [(4, none)]) (rm := [.own]) (gs := [1000000, 1000001]) (pm := [.skip, .skip]) Try.func4 (by kernel_rfl) (by kernel_rfl) (by kernel_rfl) ?_
  intro Fn LW len cast toNat wrap add sub mul bin lt eq At set part app fz' rep nadd nmax ssize sext sget scat seq slt Wide Flat Ones Room r' post' hC hF hr hp
  generalize he_GEv : r_GEv = qGEv
  generalize he_Int : r_Int = qInt
  cbv
  replace hh := if_or hh
  rcases hh with ⟨b1, hh⟩ | ⟨b1, hh⟩
  · have f2 : (lt 1048576 (cast (len (qInt p1)))) = true := by cases hC; subst he_GEv he_Int; first | exact decide_eq_true b1 | (simp; done) | (simp; omega) | (simp at b1 ⊢; omega) | (simp at b1 ⊢; exact b1)
    rw [f2]; cbv
    subst hr hp
    cases hh
    cases hC; subst he_GEv he_Int; first | (simp; done) | (simp <;> first | rfl | omega | grind)
  · have f2 : (lt 1048576 (cast (len (qInt p1)))) = false := by cases hC; subst he_GEv he_Int; first | exact decide_eq_false b1 | (simp; done) | (simp; omega) | (simp at b1 ⊢; omega) | (simp at b1 ⊢; exact b1)
    rw [f2]; cbv
    replace hh := bind_some hh
    obtain ⟨x4, h3, hh⟩ := hh
    have f5 := c_laws_szEvS h3
    try rw [he_GEv] at f5
    try rw [he_Int] at f5
    refine ⟨_, _, hF _ _ _ _ _ _ f5 (by cases hC; subst he_GEv he_Int; simp) rfl, ?_⟩
    cbv
    replace hh := if_or hh
    rcases hh with ⟨b6, hh⟩ | ⟨b6, hh⟩
    · have f7 : (lt x4 0) = true := by cases hC; exact decide_eq_true b6
      rw [f7]; cbv
      subst hr hp
      cases hh
      cases hC; subst he_GEv he_Int; first | (simp; done) | (simp <;> first | rfl | omega | grind)
    · have f7 : (lt x4 0) = false := by cases hC; exact decide_eq_false b6
      rw [f7]; cbv
      replace hh := bind_some hh
      obtain ⟨x9, h8, hh⟩ := hh
      have f10 := c_laws_toEvS h8
      try rw [he_GEv] at f10
      try rw [he_Int] at f10
      refine ⟨_, _, hF _ _ _ _ _ _ f10 (by cases hC; subst he_GEv he_Int; simp) rfl, ?_⟩
      cbv
      replace hh := bind_some hh
      obtain ⟨x12, h11, hh⟩ := hh
      have f13 := c_laws_toIntS h11
      try rw [he_GEv] at f13
      try rw [he_Int] at f13
      refine ⟨_, _, hF _ _ _ _ _ _ f13 (by cases hC; subst he_GEv he_Int; simp) rfl, ?_⟩
      cbv
      replace hh := bind_some hh
      obtain ⟨x15, h14, hh⟩ := hh
      have f16 := c_spec_TurnEvs_L0_1 h14
      try rw [he_GEv] at f16
      try rw [he_Int] at f16
      refine ⟨_, _, hF _ _ _ _ _ _ f16 (by cases hC; subst he_GEv he_Int; simp) rfl, ?_⟩
      cbv
      replace hh := bind_some hh
      obtain ⟨x18, h17, hh⟩ := hh
      have f19 := c_laws_toEvS h17
      try rw [he_GEv] at f19
      try rw [he_Int] at f19
      refine ⟨_, _, hF _ _ _ _ _ _ f19 (by cases hC; subst he_GEv he_Int; simp) rfl, ?_⟩
      cbv
      replace hh := bind_some hh
      obtain ⟨x21, h20, hh⟩ := hh
      have f22 := c_laws_toIntS h20
      try rw [he_GEv] at f22
      try rw [he_Int] at f22
      refine ⟨_, _, hF _ _ _ _ _ _ f22 (by cases hC; subst he_GEv he_Int; simp) rfl, ?_⟩
      cbv
      replace hh := bind_some hh
      obtain ⟨x24, h23, hh⟩ := hh
      have f25 := c_impl_TurnEvs_L0_1 h23
      try rw [he_GEv] at f25
      try rw [he_Int] at f25
      refine ⟨_, _, hF _ _ _ _ _ _ f25 (by cases hC; subst he_GEv he_Int; simp) rfl, ?_⟩
      cbv
      replace hh := bind_some hh
      obtain ⟨x27, h26, hh⟩ := hh
      have f28 := c_laws_eqEvS_L0_1 h26
      try rw [he_GEv] at f28
      try rw [he_Int] at f28
      refine ⟨_, _, hF _ _ _ _ _ _ f28 (by cases hC; subst he_GEv he_Int; simp) rfl, ?_⟩
      cbv
      replace hh := if_or hh
      rcases hh with ⟨b29, hh⟩ | ⟨b29, hh⟩
      · have f30 : x27 = true := by exact b29
        rw [f30]; cbv
        replace hh := bind_some hh
        obtain ⟨x32, h31, hh⟩ := hh
        have f33 := c_laws_toEvS h31
        try rw [he_GEv] at f33
        try rw [he_Int] at f33
        refine ⟨_, _, hF _ _ _ _ _ _ f33 (by cases hC; subst he_GEv he_Int; simp) rfl, ?_⟩
        cbv
        replace hh := bind_some hh
        obtain ⟨x35, h34, hh⟩ := hh
        have f36 := c_laws_eqEvS_L0_1 h34
        try rw [he_GEv] at f36
        try rw [he_Int] at f36
        refine ⟨_, _, hF _ _ _ _ _ _ f36 (by cases hC; subst he_GEv he_Int; simp) rfl, ?_⟩
        cbv
        replace hh := if_or hh
        rcases hh with ⟨b37, hh⟩ | ⟨b37, hh⟩
        · have f38 : x35 = true := by exact b37
          rw [f38]; cbv
          replace hh := bind_some hh
          obtain ⟨x40, h39, hh⟩ := hh
          have f41 := c_laws_toIntS h39
          try rw [he_GEv] at f41
          try rw [he_Int] at f41
          refine ⟨_, _, hF _ _ _ _ _ _ f41 (by cases hC; subst he_GEv he_Int; simp) rfl, ?_⟩
          cbv
          replace hh := bind_some hh
          obtain ⟨x43, h42, hh⟩ := hh
          have f44 := c_laws_eqIntS_L0_1 h42
          try rw [he_GEv] at f44
          try rw [he_Int] at f44
          refine ⟨_, _, hF _ _ _ _ _ _ f44 (by cases hC; subst he_GEv he_Int; simp) rfl, ?_⟩
          cbv
          replace hh := if_or hh
          rcases hh with ⟨b45, hh⟩ | ⟨b45, hh⟩
          · have f46 : x43 = true := by exact b45
            rw [f46]; cbv
            replace hh := bind_some hh
            obtain ⟨⟨x48_0, x48_1⟩, h47, hh⟩ := hh
            replace hh := req_some hh
            obtain ⟨h93, hh⟩ := hh
            try dsimp only at h93
            have f49 := c_laws_markEvS h47
            try rw [he_GEv] at f49
            try rw [he_Int] at f49
            refine ⟨_, _, hF _ _ _ _ _ _ f49 (by cases hC; subst he_GEv he_Int; simp) rfl, ?_⟩
            cbv
            replace hh := bind_some hh
            obtain ⟨⟨x51_0, x51_1⟩, h50, hh⟩ := hh
            replace hh := req_some hh
            obtain ⟨h92, hh⟩ := hh
            try dsimp only at h92
            have f52 := c_laws_markIntS h50
            try rw [he_GEv] at f52
            try rw [he_Int] at f52
            refine ⟨_, _, hF _ _ _ _ _ _ f52 (by cases hC; subst he_GEv he_Int; simp) rfl, ?_⟩
            cbv
            replace hh := if_or hh
            rcases hh with ⟨b53, hh⟩ | ⟨b53, hh⟩
            · have f54 : (lt x51_0 0) = true := by cases hC; exact decide_eq_true b53
              rw [f54]; cbv
              subst hr hp
              cases hh
              cases hC; subst he_GEv he_Int; first | (simp; done) | (simp <;> first | rfl | omega | grind)
            · have f54 : (lt x51_0 0) = false := by cases hC; exact decide_eq_false b53
              rw [f54]; cbv
              replace hh := bind_some hh
              obtain ⟨x56, h55, hh⟩ := hh
              have f57 := c_laws_eqEvS_L0_1 h55
              try rw [he_GEv] at f57
              try rw [he_Int] at f57
              refine ⟨_, _, hF _ _ _ _ _ _ f57 (by cases hC; subst he_GEv he_Int; simp) rfl, ?_⟩
              cbv
              replace hh := if_or hh
              rcases hh with ⟨b58, hh⟩ | ⟨b58, hh⟩
              · have f59 : x56 = true := by exact b58
                rw [f59]; cbv
                replace hh := bind_some hh
                obtain ⟨⟨x61_0, x61_1⟩, h60, hh⟩ := hh
                replace hh := req_some hh
                obtain ⟨h91, hh⟩ := hh
                try dsimp only at h91
                have f62 := c_laws_markEvS h60
                try rw [he_GEv] at f62
                try rw [he_Int] at f62
                refine ⟨_, _, hF _ _ _ _ _ _ f62 (by cases hC; subst he_GEv he_Int; simp) rfl, ?_⟩
                cbv
                replace hh := bind_some hh
                obtain ⟨x64, h63, hh⟩ := hh
                refine ⟨by cases hC; subst he_GEv he_Int; first | (simp; done) | (simp; first | omega | (simp only [natc] at *; omega)), ?_⟩
                have f65 := c_laws_heldEvS_L0 h63
                try rw [he_GEv] at f65
                try rw [he_Int] at f65
                refine ⟨_, _, hF _ _ _ _ _ _ f65 (by cases hC; subst he_GEv he_Int; simp) rfl, ?_⟩
                cbv
                replace hh := if_or hh
                rcases hh with ⟨b66, hh⟩ | ⟨b66, hh⟩
                · have f67 : (lt x64 0) = true := by cases hC; exact decide_eq_true b66
                  rw [f67]; cbv
                  subst hr hp
                  cases hh
                  cases hC; subst he_GEv he_Int; first | (simp; done) | (simp <;> first | rfl | omega | grind)
                · have f67 : (lt x64 0) = false := by cases hC; exact decide_eq_false b66
                  rw [f67]; cbv
                  replace hh := if_or hh
                  rcases hh with ⟨b68, hh⟩ | ⟨b68, hh⟩
                  · have f69 : (eq x64 x61_0) = true := by cases hC; exact beq_iff_eq.2 b68
                    rw [f69]; cbv
                    replace hh := bind_some hh
                    obtain ⟨x71, h70, hh⟩ := hh
                    have f72 := c_laws_toEvS h70
                    try rw [he_GEv] at f72
                    try rw [he_Int] at f72
                    refine ⟨_, _, hF _ _ _ _ _ _ f72 (by cases hC; subst he_GEv he_Int; simp) rfl, ?_⟩
                    cbv
                    replace hh := bind_some hh
                    obtain ⟨x74, h73, hh⟩ := hh
                    have f75 := c_laws_toIntS h73
                    try rw [he_GEv] at f75
                    try rw [he_Int] at f75
                    refine ⟨_, _, hF _ _ _ _ _ _ f75 (by cases hC; subst he_GEv he_Int; simp) rfl, ?_⟩
                    cbv
                    replace hh := bind_some hh
                    obtain ⟨x77, h76, hh⟩ := hh
                    have f78 := c_impl_TurnEvs_L0_1 h76
                    try rw [he_GEv] at f78
                    try rw [he_Int] at f78
                    refine ⟨_, _, hF _ _ _ _ _ _ f78 (by cases hC; subst he_GEv he_Int; simp) rfl, ?_⟩
                    cbv
                    replace hh := bind_some hh
                    obtain ⟨x80, h79, hh⟩ := hh
                    have f81 := c_laws_eqEvS_L0_1 h79
                    try rw [he_GEv] at f81
                    try rw [he_Int] at f81
                    refine ⟨_, _, hF _ _ _ _ _ _ f81 (by cases hC; subst he_GEv he_Int; simp) rfl, ?_⟩
                    cbv
                    replace hh := if_or hh
                    rcases hh with ⟨b82, hh⟩ | ⟨b82, hh⟩
                    · have f83 : x80 = true := by exact b82
                      rw [f83]; cbv
                      replace hh := bind_some hh
                      obtain ⟨x85, h84, hh⟩ := hh
                      refine ⟨by cases hC; subst he_GEv he_Int; first | (simp; done) | (simp; first | omega | (simp only [natc] at *; omega)), ?_⟩
                      have f86 := c_laws_heldEvS_L0 h84
                      try rw [he_GEv] at f86
                      try rw [he_Int] at f86
                      refine ⟨_, _, hF _ _ _ _ _ _ f86 (by cases hC; subst he_GEv he_Int; simp) rfl, ?_⟩
                      cbv
                      replace hh := if_or hh
                      rcases hh with ⟨b87, hh⟩ | ⟨b87, hh⟩
                      · have f88 : (lt x85 0) = true := by cases hC; exact decide_eq_true b87
                        rw [f88]; cbv
                        subst hr hp
                        cases hh
                        cases hC; subst he_GEv he_Int; first | (simp; done) | (simp <;> first | rfl | omega | grind)
                      · have f88 : (lt x85 0) = false := by cases hC; exact decide_eq_false b87
                        rw [f88]; cbv
                        replace hh := if_or hh
                        rcases hh with ⟨b89, hh⟩ | ⟨b89, hh⟩
                        · have f90 : (eq x85 x61_0) = true := by cases hC; exact beq_iff_eq.2 b89
                          rw [f90]; cbv
                          subst hr hp
                          cases hh
                          cases hC; subst he_GEv he_Int; first | (simp; done) | (simp <;> first | rfl | omega | grind)
                        · have f90 : (eq x85 x61_0) = false := by cases hC; exact beq_false_of_ne b89
                          rw [f90]; cbv
                          subst hr hp
                          cases hh
                          cases hC; subst he_GEv he_Int; first | (simp; done) | (simp <;> first | rfl | omega | grind)
                    · have f83 : x80 = false := by exact Bool.eq_false_iff.2 b82
                      rw [f83]; cbv
                      subst hr hp
                      cases hh
                      cases hC; subst he_GEv he_Int; first | (simp; done) | (simp <;> first | rfl | omega | grind)
                  · have f69 : (eq x64 x61_0) = false := by cases hC; exact beq_false_of_ne b68
                    rw [f69]; cbv
                    subst hr hp
                    cases hh
                    cases hC; subst he_GEv he_Int; first | (simp; done) | (simp <;> first | rfl | omega | grind)
              · have f59 : x56 = false := by exact Bool.eq_false_iff.2 b58
                rw [f59]; cbv
                subst hr hp
                cases hh
                cases hC; subst he_GEv he_Int; first | (simp; done) | (simp <;> first | rfl | omega | grind)
          · have f46 : x43 = false := by exact Bool.eq_false_iff.2 b45
            rw [f46]; cbv
            subst hr hp
            cases hh
            cases hC; subst he_GEv he_Int; first | (simp; done) | (simp <;> first | rfl | omega | grind)
        · have f38 : x35 = false := by exact Bool.eq_false_iff.2 b37
          rw [f38]; cbv
          subst hr hp
          cases hh
          cases hC; subst he_GEv he_Int; first | (simp; done) | (simp <;> first | rfl | omega | grind)
      · have f30 : x27 = false := by exact Bool.eq_false_iff.2 b29
        rw [f30]; cbv
        subst hr hp
        cases hh
        cases hC; subst he_GEv he_Int; first | (simp; done) | (simp <;> first | rfl | omega | grind)

theorem c_spec_l14Open {p0 : List Int} {r : Gl14Rd} (hh : spec_l14Open.f p0 = some r) : FunW P 48 [.tree (r_Iu8 p0)] [.hole] (.obox [.tree (r_Iu8 r.b), .lit (.int .i64 r.p)]) := by
  unfold spec_l14Open.f at hh
  refine fun_go2 eok mixed (ts := [(2, none)]) (rm := [.own]) (gs := [1000000]) (pm := [.skip]) Try.func48 (by kernel_rfl) (by kernel_rfl) (by kernel_rfl) ?_
  intro Fn LW len cast toNat wrap add sub mul bin lt eq At set part app fz' rep nadd nmax ssize sext sget scat seq slt Wide Flat Ones Room r' post' hC hF hr hp
  generalize he_Iu8 : r_Iu8 = qIu8
  cbv
  replace hh := if_or hh
  rcases hh with ⟨b1, hh⟩ | ⟨b1, hh⟩
  · have f2 : (lt 2000 (cast (len (qIu8 p0)))) = true := by cases hC; subst he_Iu8; first | exact decide_eq_true b1 | (simp; done) | (simp; omega) | (simp at b1 ⊢; omega) | (simp at b1 ⊢; exact b1)
    rw [f2]; cbv
    replace hh := req_some hh
    obtain ⟨h3, hh⟩ := hh
    replace hh := req_some hh
    obtain ⟨h4, hh⟩ := hh
    replace hh := req_some hh
    obtain ⟨h5, hh⟩ := hh
    refine ⟨⟨(by cases hC; subst he_Iu8; exact decide_eq_false (Int.not_lt.2 h3)), (by cases hC; subst he_Iu8; exact decide_eq_false (Int.not_lt.2 (by first | exact h4 | (simp; done) | (simp; omega) | (simp at h4 ⊢; omega) | (simp at h4 ⊢; exact h4)))), (by cases hC; subst he_Iu8; exact decide_eq_false (Int.not_lt.2 (by first | exact h5 | (simp; done) | (simp; omega) | (simp at h5 ⊢; omega) | (simp at h5 ⊢; exact h5)))), (by cases hC; subst he_Iu8; first | exact r_Iu8_wide _ | (simp; done))⟩, ?_⟩
    subst hr hp
    cases hh
    cases hC; subst he_Iu8; first | (simp; done) | (simp <;> first | rfl | omega | grind)
  · have f2 : (lt 2000 (cast (len (qIu8 p0)))) = false := by cases hC; subst he_Iu8; first | exact decide_eq_false b1 | (simp; done) | (simp; omega) | (simp at b1 ⊢; omega) | (simp at b1 ⊢; exact b1)
    rw [f2]; cbv
    subst hr hp
    cases hh
    cases hC; subst he_Iu8; first | (simp; done) | (simp <;> first | rfl | omega | grind)

theorem c_spec_l14Rd_pick {p0 : Gl14Rd} {p1 : Int} {r : Int × Gl14Rd} (hh : spec_l14Rd_pick.f p0 p1 = some r) : FunW P 77 [.obox [.tree (r_Iu8 p0.b), .lit (.int .i64 p0.p)], .lit (.int .i64 p1)] [.obox [.tree (r_Iu8 r.2.b), .lit (.int .i64 r.2.p)], .hole] (.lit (.int .i64 r.1)) := by
  obtain ⟨p0_b, p0_p⟩ := p0
  unfold spec_l14Rd_pick.f at hh
  refine fun_go2 eok mixed (ts := [(4, none)]) (rm := [.own]) (gs := [1000000, 1000001]) (pm := [.own, .skip]) Try.func77 (by kernel_rfl) (by kernel_rfl) (by kernel_rfl) ?_
  intro Fn LW len cast toNat wrap add sub mul bin lt eq At set part app fz' rep nadd nmax ssize sext sget scat seq slt Wide Flat Ones Room r' post' hC hF hr hp
  generalize he_Iu8 : r_Iu8 = qIu8
  cbv
  replace hh := if_or hh
  rcases hh with ⟨b1, hh⟩ | ⟨b1, hh⟩
  · have f2 : (lt p1 1) = true := by cases hC; exact decide_eq_true b1
    rw [f2]; cbv
    subst hr hp
    cases hh
    cases hC; subst he_Iu8; first | (simp; done) | (simp <;> first | rfl | omega | grind)
  · have f2 : (lt p1 1) = false := by cases hC; exact decide_eq_false b1
    rw [f2]; cbv
    replace hh := if_or hh
    rcases hh with ⟨b3, hh⟩ | ⟨b3, hh⟩
    · have f4 : (eq (cast (len (qIu8 p0_b))) 0) = true := by cases hC; subst he_Iu8; first | exact beq_iff_eq.2 b3 | (simp; done) | (simp; omega) | (simp at b3 ⊢; omega) | (simp at b3 ⊢; exact b3)
      rw [f4]; cbv
      subst hr hp
      cases hh
      cases hC; subst he_Iu8; first | (simp; done) | (simp <;> first | rfl | omega | grind)
    · have f4 : (eq (cast (len (qIu8 p0_b))) 0) = false := by cases hC; subst he_Iu8; first | exact beq_false_of_ne b3 | (simp; done) | (simp; omega) | (simp at b3 ⊢; omega) | (simp at b3 ⊢; exact b3)
      rw [f4]; cbv
      replace hh := if_or hh
      rcases hh with ⟨b5, hh⟩ | ⟨b5, hh⟩
      · have f6 : (lt (wrap .i64 (sub (wrap .i64 (add p0_p 1)) 1)) (cast (len (qIu8 p0_b)))) = true := by cases hC; subst he_Iu8; first | exact decide_eq_true b5 | (simp; done) | (simp; omega) | (simp at b5 ⊢; omega) | (simp at b5 ⊢; exact b5)
        rw [f6]; cbv
        replace hh := req_some hh
        obtain ⟨h7, hh⟩ := hh
        try dsimp only at h7
        replace hh := bind_some hh
        obtain ⟨e8, h9, hh⟩ := hh
        refine ⟨[.lit (.int .u8 e8)], (by cases hC; subst he_Iu8; exact decide_eq_false (Int.not_lt.2 (by first | exact h7 | (simp; done) | (simp; omega) | (simp at h7 ⊢; omega) | (simp at h7 ⊢; exact h7)))), (by cases hC; subst he_Iu8; first | exact r_Iu8_get h9 | simp [h9]), ?_⟩
        cbv
        replace hh := req_some hh
        obtain ⟨h10, hh⟩ := hh
        refine ⟨by cases hC; subst he_Iu8; first | exact h10 | (simp; done) | (simp; omega) | (simp at h10 ⊢; omega) | (simp at h10 ⊢; exact h10), ?_⟩
        subst hr hp
        cases hh
        cases hC; subst he_Iu8; first | (simp; done) | (simp <;> first | rfl | omega | grind)
      · have f6 : (lt (wrap .i64 (sub (wrap .i64 (add p0_p 1)) 1)) (cast (len (qIu8 p0_b)))) = false := by cases hC; subst he_Iu8; first | exact decide_eq_false b5 | (simp; done) | (simp; omega) | (simp at b5 ⊢; omega) | (simp at b5 ⊢; exact b5)
        rw [f6]; cbv
        replace hh := req_some hh
        obtain ⟨h11, hh⟩ := hh
        try dsimp only at h11
        refine ⟨by cases hC; subst he_Iu8; first | exact h11 | (simp; done) | (simp; omega) | (simp at h11 ⊢; omega) | (simp at h11 ⊢; exact h11), ?_⟩
        replace hh := req_some hh
        obtain ⟨h12, hh⟩ := hh
        try dsimp only at h12
        replace hh := bind_some hh
        obtain ⟨e13, h14, hh⟩ := hh
        refine ⟨[.lit (.int .u8 e13)], (by cases hC; subst he_Iu8; exact decide_eq_false (Int.not_lt.2 (by first | exact h12 | (simp; done) | (simp; omega) | (simp at h12 ⊢; omega) | (simp at h12 ⊢; exact h12)))), (by cases hC; subst he_Iu8; first | exact r_Iu8_get h14 | simp [h14]), ?_⟩
        cbv
        replace hh := req_some hh
        obtain ⟨h15, hh⟩ := hh
        try dsimp only at h15
        refine ⟨by cases hC; subst he_Iu8; first | exact h15 | (simp; done) | (simp; omega) | (simp at h15 ⊢; omega) | (simp at h15 ⊢; exact h15), ?_⟩
        replace hh := req_some hh
        obtain ⟨h16, hh⟩ := hh
        try dsimp only at h16
        replace hh := bind_some hh
        obtain ⟨e17, h18, hh⟩ := hh
        refine ⟨[.lit (.int .u8 e17)], (by cases hC; subst he_Iu8; exact decide_eq_false (Int.not_lt.2 (by first | exact h16 | (simp; done) | (simp; omega) | (simp at h16 ⊢; omega) | (simp at h16 ⊢; exact h16)))), (by cases hC; subst he_Iu8; first | exact r_Iu8_get h18 | simp [h18]), ?_⟩
        cbv
        replace hh := req_some hh
        obtain ⟨h19, hh⟩ := hh
        try dsimp only at h19
        refine ⟨by cases hC; subst he_Iu8; first | exact h19 | (simp; done) | (simp; omega) | (simp at h19 ⊢; omega) | (simp at h19 ⊢; exact h19), ?_⟩
        replace hh := req_some hh
        obtain ⟨h21, hh⟩ := hh
        refine ⟨by cases hC; subst he_Iu8; first | exact h21 | (simp; done) | (simp; omega) | (simp at h21 ⊢; omega) | (simp at h21 ⊢; exact h21), ?_⟩
        subst hr hp
        cases hh
        cases hC; subst he_Iu8; first | (simp; done) | (simp <;> first | rfl | omega | grind)

theorem c_spec_l14Rd_num {p0 : Gl14Rd} {p1 : List Int} {r : Int × Gl14Rd} (hh : spec_l14Rd_num.f p0 p1 = some r) : FunW P 50 [.obox [.tree (r_Iu8 p0.b), .lit (.int .i64 p0.p)], .tree (r_Int p1)] [.obox [.tree (r_Iu8 r.2.b), .lit (.int .i64 r.2.p)], .hole] (.lit (.int .i64 r.1)) := by
  obtain ⟨p0_b, p0_p⟩ := p0
  unfold spec_l14Rd_num.f at hh
  refine fun_go2 eok mixed (ts := [(4, none)]) (rm := [.own]) (gs := [1000000, 1000001]) (pm := [.own, .skip]) Try.func50 (by kernel_rfl) (by kernel_rfl) (by kernel_rfl) ?_
  intro Fn LW len cast toNat wrap add sub mul bin lt eq At set part app fz' rep nadd nmax ssize sext sget scat seq slt Wide Flat Ones Room r' post' hC hF hr hp
  generalize he_Int : r_Int = qInt
  generalize he_Iu8 : r_Iu8 = qIu8
  cbv
  replace hh := bind_some hh
  obtain ⟨⟨x2_0, ⟨x2_1_b, x2_1_p⟩⟩, h1, hh⟩ := hh
  have f3 := c_spec_l14Rd_pick h1
  try rw [he_Int] at f3
  try rw [he_Iu8] at f3
  refine ⟨_, _, hF _ _ _ _ _ _ f3 (by cases hC; subst he_Int he_Iu8; simp) rfl, ?_⟩
  cbv
  replace hh := req_some hh
  obtain ⟨h4, hh⟩ := hh
  try dsimp only at h4
  replace hh := bind_some hh
  obtain ⟨e5, h6, hh⟩ := hh
  refine ⟨[.lit (.int .i64 e5)], (by cases hC; subst he_Int he_Iu8; exact decide_eq_false (Int.not_lt.2 (by first | exact h4 | (simp; done) | (simp; omega) | (simp at h4 ⊢; omega) | (simp at h4 ⊢; exact h4)))), (by cases hC; subst he_Int he_Iu8; first | exact r_Int_get h6 | simp [h6]), ?_⟩
  cbv
  subst hr hp
  cases hh
  cases hC; subst he_Int he_Iu8; first | (simp; done) | (simp <;> first | rfl | omega | grind)

theorem c_spec_l3Any {k : Nat} {p0 : Gl14Rd} {r : GOcc × Gl14Rd} (hh : spec_l3Any.f k p0 = some r) : FunW P 91 [.obox [.tree (r_Iu8 p0.b), .lit (.int .i64 p0.p)]] [.obox [.tree (r_Iu8 r.2.b), .lit (.int .i64 r.2.p)]] (.agg [.lit (.int .i64 r.1.From), .lit (.int .i64 r.1.To), .inl 1 (r_Int r.1.Ids)]) := by
  obtain ⟨p0_b, p0_p⟩ := p0
  unfold spec_l3Any.f at hh
  refine fun_go2 eok mixed (ts := [(2, some 44)]) (rm := [.own]) (gs := [1000000]) (pm := [.own]) Try.func91 (by kernel_rfl) (by kernel_rfl) (by kernel_rfl) ?_
  intro Fn LW len cast toNat wrap add sub mul bin lt eq At set part app fz' rep nadd nmax ssize sext sget scat seq slt Wide Flat Ones Room r' post' hC hF hr hp
  generalize he_Int : r_Int = qInt
  generalize he_Iu8 : r_Iu8 = qIu8
  cbv
  replace hh := bind_some hh
  obtain ⟨⟨x2_0, ⟨x2_1_b, x2_1_p⟩⟩, h1, hh⟩ := hh
  have f3 := c_spec_l14Rd_pick h1
  try rw [he_Int] at f3
  try rw [he_Iu8] at f3
  refine ⟨_, _, hF _ _ _ _ _ _ f3 (by cases hC; subst he_Int he_Iu8; simp) rfl, ?_⟩
  cbv
  replace hh := bind_some hh
  obtain ⟨⟨x5_0, ⟨x5_1_b, x5_1_p⟩⟩, h4, hh⟩ := hh
  refine ⟨by cases hC; subst he_Int he_Iu8; first | (simp; done) | (simp; first | omega | (simp only [natc] at *; omega)), ?_⟩
  have f6 := c_spec_l14Rd_num h4
  try rw [he_Int] at f6
  try rw [he_Iu8] at f6
  refine ⟨_, _, hF _ _ _ _ _ _ f6 (by cases hC; subst he_Int he_Iu8; simp) rfl, ?_⟩
  cbv
  replace hh := bind_some hh
  obtain ⟨⟨x8_0, ⟨x8_1_b, x8_1_p⟩⟩, h7, hh⟩ := hh
  have f9 := c_spec_l14Rd_pick h7
  try rw [he_Int] at f9
  try rw [he_Iu8] at f9
  refine ⟨_, _, hF _ _ _ _ _ _ f9 (by cases hC; subst he_Int he_Iu8; simp) rfl, ?_⟩
  cbv
  replace hh := bind_some hh
  obtain ⟨⟨x11_0, ⟨x11_1_b, x11_1_p⟩⟩, h10, hh⟩ := hh
  have f12 := c_spec_l14Rd_pick h10
  try rw [he_Int] at f12
  try rw [he_Iu8] at f12
  refine ⟨_, _, hF _ _ _ _ _ _ f12 (by cases hC; subst he_Int he_Iu8; simp) rfl, ?_⟩
  cbv
  replace hh := bind_some hh
  obtain ⟨o1, hl1, hq1⟩ := hh
  refine loop_go3 hC eok mixed
    (fun s : Nat × (List Int) × Int × (List Int) × Int × Int × Unit => match s with | (_, s19, s20, s21, s22, s23, _) => (⟨[(0, .mptr (0, 0) 1 0 0), (2, .mptr (2, 0) 1 0 0), (4, .mptr (4, 0) 1 0 0), (5, .lit (.int .i64 s22)), (6, .lit (.int .i64 s23)), (1000000, .mptr (0, 0) 1 0 0)], [((0, 0), .box 1 [.tree (qIu8 s19), .lit (.int .i64 s20)]), ((2, 0), .box 1 [.lit (.int .i64 0), .lit (.int .i64 0), .lit (.slice none 0 0)]), ((4, 0), .box 1 [.lit (.int .i64 (wrap .i64 (add 1 x2_0))), .lit (.int .i64 (wrap .i64 (add (wrap .i64 (add 1 x2_0)) x5_0))), .ref (4, 52) 1 0 (len (qInt s21))]), ((4, 52), .arr 1 1 (qInt s21))]⟩ : St))
    (fun s : Nat × (List Int) × Int × (List Int) × Int × Int × Unit => spec_l3Any.l0 k s.1 s.2.1 s.2.2.1 s.2.2.2.1 s.2.2.2.2.1 s.2.2.2.2.2.1 = some o1)
    (fun s => s.1) (fun _ => .exit 0)
    (fun x : (List Int) × (List Int) × Int => match x with | (x30, x31, x32) => (⟨[(2, .mptr (2, 0) 1 0 0), (4, .mptr (4, 0) 1 0 0), (1000000, .mptr (0, 0) 1 0 0)], [((0, 0), .box 1 [.tree (qIu8 x31), .lit (.int .i64 x32)]), ((2, 0), .box 1 [.lit (.int .i64 0), .lit (.int .i64 0), .lit (.slice none 0 0)]), ((4, 0), .box 1 [.lit (.int .i64 (wrap .i64 (add 1 x2_0))), .lit (.int .i64 (wrap .i64 (add (wrap .i64 (add 1 x2_0)) x5_0))), .ref (4, 52) 1 0 (len (qInt x30))]), ((4, 52), .arr 1 1 (qInt x30))]⟩ : St))
    (fun x : (List Int) × (List Int) × Int => some (x) = some o1)
    (_, _, _, _, _, _, ()) hl1 ?_ ?_ ?_
  · rintro ⟨n, t0, t1, t2, t3, t4, ⟨⟩⟩ e1
    refine cov_of [((0, 0), (0, 0)), ((2, 0), (2, 0)), ((4, 0), (4, 0))] ?_
    cbv
    all_goals (have e1_0 := congrArg (fun s => s.2.1) e1; dsimp only at e1_0; subst e1_0; have e1_1 := congrArg (fun s => s.2.2.1) e1; dsimp only at e1_1; subst e1_1; have e1_2 := congrArg (fun s => s.2.2.2.1) e1; dsimp only at e1_2; subst e1_2; have e1_3 := congrArg (fun s => s.2.2.2.2.1) e1; dsimp only at e1_3; subst e1_3; have e1_4 := congrArg (fun s => s.2.2.2.2.2.1) e1; dsimp only at e1_4; subst e1_4; cases hC; subst he_Int he_Iu8; (first | (simp; done) | (simp <;> first | rfl | omega | grind)))
  · rintro ⟨x30, x31, x32⟩ hx
    have hx := Option.some.inj hx
    subst hx
    have hh := hq1
    cbv
    subst hr hp
    cases hh
    cases hC; subst he_Int he_Iu8; first | (simp; done) | (simp <;> first | rfl | omega | grind)
  · rintro ⟨n, s19, s20, s21, s22, s23, ⟨⟩⟩ N1 D1 hh hN1 hD1 hQ1
    replace hN1 := fun σ' n' a0 a1 a2 a3 a4 (h : spec_l3Any.l0 k n' a0 a1 a2 a3 a4 = some o1) => hN1 σ' (n', a0, a1, a2, a3, a4, ()) h
    replace hD1 := fun σ' (a0 : List Int) (a1 : List Int) (a2 : Int) (h : some ((a0, a1, a2)) = some o1) => hD1 σ' (a0, a1, a2) h
    cases n with
    | zero => dsimp only at hh; unfold spec_l3Any.l0 at hh; cases hh
    | succ n =>
    dsimp only at hh
    unfold spec_l3Any.l0 at hh
    cbv
    replace hh := if_or hh
    rcases hh with ⟨b33, hh⟩ | ⟨b33, hh⟩
    · have f34 : (lt 0 s23) = true := by cases hC; exact decide_eq_true b33
      rw [f34]; cbv
      replace hh := req_some hh
      obtain ⟨h35, hh⟩ := hh
      refine ⟨⟨(by cases hC; subst he_Int he_Iu8; simp), (by cases hC; subst he_Int he_Iu8; first | exact r_Int_ones _ | (simp [ocell]; done))⟩, ?_⟩
      refine ⟨⟨(by cases hC; subst he_Int he_Iu8; first | (simp; done) | (simp; first | omega | (simp only [natc] at *; omega))), by cases hC; subst he_Int he_Iu8; first | exact h35 | (simp; done) | (simp; omega) | (simp at h35 ⊢; omega) | (simp at h35 ⊢; exact h35)⟩, ?_⟩
      replace hh := bind_some hh
      obtain ⟨⟨x37_0, ⟨x37_1_b, x37_1_p⟩⟩, h36, hh⟩ := hh
      have f38 := c_spec_l14Rd_pick h36
      try rw [he_Int] at f38
      try rw [he_Iu8] at f38
      refine ⟨_, _, hF _ _ _ _ _ _ f38 (by cases hC; subst he_Int he_Iu8; simp) rfl, ?_⟩
      cbv
      refine hN1 _ _ _ _ _ _ _ hh (Nat.lt_succ_self _) ?_
      rintro ⟨n, t0, t1, t2, t3, t4, ⟨⟩⟩ e1
      refine cov_of [((0, 0), (0, 0)), ((2, 0), (2, 0)), ((4, 0), (4, 0)), ((4, 52), (30, 0))] ?_
      cbv
      all_goals (have e1_0 := congrArg (fun s => s.2.1) e1; dsimp only at e1_0; subst e1_0; have e1_1 := congrArg (fun s => s.2.2.1) e1; dsimp only at e1_1; subst e1_1; have e1_2 := congrArg (fun s => s.2.2.2.1) e1; dsimp only at e1_2; subst e1_2; have e1_3 := congrArg (fun s => s.2.2.2.2.1) e1; dsimp only at e1_3; subst e1_3; have e1_4 := congrArg (fun s => s.2.2.2.2.2.1) e1; dsimp only at e1_4; subst e1_4; cases hC; subst he_Int he_Iu8; (first | (simp; done) | (simp <;> first | rfl | omega | grind)))
    · have f34 : (lt 0 s23) = false := by cases hC; exact decide_eq_false b33
      rw [f34]; cbv
      refine hD1 _ _ _ _ hh ?_
      rintro ⟨t0, t1, t2⟩ e1
      refine cov_of [((0, 0), (0, 0)), ((2, 0), (2, 0)), ((4, 0), (4, 0)), ((4, 52), (4, 52))] ?_
      cbv
      all_goals (have e1_0 := congrArg (fun s => s.1) e1; dsimp only at e1_0; subst e1_0; have e1_1 := congrArg (fun s => s.2.1) e1; dsimp only at e1_1; subst e1_1; have e1_2 := congrArg (fun s => s.2.2) e1; dsimp only at e1_2; subst e1_2; cases hC; subst he_Int he_Iu8; (first | (simp; done) | (simp <;> first | rfl | omega | grind)))

theorem c_spec_l3Ids {k : Nat} {p0 : List Int} {p1 : List Int} {r : Int} (hh : spec_l3Ids.f k p0 p1 = some r) : FunW P 83 [.tree (r_Int p0), .tree (r_Int p1)] [.hole, .hole] (.lit (.int .i64 r)) := by
  unfold spec_l3Ids.f at hh
  refine fun_go2 eok mixed (ts := [(4, none)]) (rm := [.own]) (gs := [1000000, 1000001]) (pm := [.skip, .skip]) Try.func83 (by kernel_rfl) (by kernel_rfl) (by kernel_rfl) ?_
  intro Fn LW len cast toNat wrap add sub mul bin lt eq At set part app fz' rep nadd nmax ssize sext sget scat seq slt Wide Flat Ones Room r' post' hC hF hr hp
  generalize he_Int : r_Int = qInt
  cbv
  replace hh := bind_some hh
  obtain ⟨o1, hl1, hq1⟩ := hh
  refine loop_go3 hC eok mixed
    (fun s : Nat × Int × Unit => match s with | (_, s21, _) => (⟨[(0, .tree (qInt p0)), (1, .tree (qInt p1)), (5, .lit (.int .i64 s21))], []⟩ : St))
    (fun s : Nat × Int × Unit => spec_l3Ids.l0 k p0 p1 s.1 s.2.1 = some o1)
    (fun s => s.1) (fun _ => .exit 0)
    (fun x : Unit => match x with | _ => (⟨[(0, .tree (qInt p0)), (1, .tree (qInt p1))], []⟩ : St))
    (fun x : Unit => some (.ok x) = some o1)
    (_, _, ()) hl1 ?_ ?_ ?_
  · rintro ⟨n, t0, ⟨⟩⟩ e1
    refine cov_of [] ?_
    cbv
    all_goals (have e1_0 := congrArg (fun s => s.2.1) e1; dsimp only at e1_0; subst e1_0; cases hC; subst he_Int; (first | (simp; done) | (simp <;> first | rfl | omega | grind)))
  · rintro ⟨⟩ hx
    have hx := Option.some.inj hx
    subst hx
    have hh := hq1
    cbv
    replace hh := if_or hh
    rcases hh with ⟨b62, hh⟩ | ⟨b62, hh⟩
    · have f63 : (lt (cast (len (qInt p0))) (cast (len (qInt p1)))) = true := by cases hC; subst he_Int; first | exact decide_eq_true b62 | (simp; done) | (simp; omega) | (simp at b62 ⊢; omega) | (simp at b62 ⊢; exact b62)
      rw [f63]; cbv
      subst hr hp
      cases hh
      cases hC; subst he_Int; first | (simp; done) | (simp <;> first | rfl | omega | grind)
    · have f63 : (lt (cast (len (qInt p0))) (cast (len (qInt p1)))) = false := by cases hC; subst he_Int; first | exact decide_eq_false b62 | (simp; done) | (simp; omega) | (simp at b62 ⊢; omega) | (simp at b62 ⊢; exact b62)
      rw [f63]; cbv
      replace hh := if_or hh
      rcases hh with ⟨b64, hh⟩ | ⟨b64, hh⟩
      · have f65 : (lt (cast (len (qInt p1))) (cast (len (qInt p0)))) = true := by cases hC; subst he_Int; first | exact decide_eq_true b64 | (simp; done) | (simp; omega) | (simp at b64 ⊢; omega) | (simp at b64 ⊢; exact b64)
        rw [f65]; cbv
        subst hr hp
        cases hh
        cases hC; subst he_Int; first | (simp; done) | (simp <;> first | rfl | omega | grind)
      · have f65 : (lt (cast (len (qInt p1))) (cast (len (qInt p0)))) = false := by cases hC; subst he_Int; first | exact decide_eq_false b64 | (simp; done) | (simp; omega) | (simp at b64 ⊢; omega) | (simp at b64 ⊢; exact b64)
        rw [f65]; cbv
        subst hr hp
        cases hh
        cases hC; subst he_Int; first | (simp; done) | (simp <;> first | rfl | omega | grind)
  · rintro ⟨n, s21, ⟨⟩⟩ N1 D1 hh hN1 hD1 hQ1
    replace hN1 := fun σ' n' a0 (h : spec_l3Ids.l0 k p0 p1 n' a0 = some o1) => hN1 σ' (n', a0, ()) h
    replace hD1 := fun σ'  (h : some (Except.ok ()) = some o1) => hD1 σ' () h
    cases n with
    | zero => dsimp only at hh; unfold spec_l3Ids.l0 at hh; cases hh
    | succ n =>
    dsimp only at hh
    unfold spec_l3Ids.l0 at hh
    cbv
    replace hh := if_or hh
    rcases hh with ⟨b42, hh⟩ | ⟨b42, hh⟩
    · have f43 : (lt s21 (cast (len (qInt p0)))) = true := by cases hC; subst he_Int; first | exact decide_eq_true b42 | (simp; done) | (simp; omega) | (simp at b42 ⊢; omega) | (simp at b42 ⊢; exact b42)
      rw [f43]; cbv
      replace hh := if_or hh
      rcases hh with ⟨b44, hh⟩ | ⟨b44, hh⟩
      · have f45 : (lt s21 (cast (len (qInt p1)))) = true := by cases hC; subst he_Int; first | exact decide_eq_true b44 | (simp; done) | (simp; omega) | (simp at b44 ⊢; omega) | (simp at b44 ⊢; exact b44)
        rw [f45]; cbv
        replace hh := req_some hh
        obtain ⟨h46, hh⟩ := hh
        replace hh := bind_some hh
        obtain ⟨e47, h48, hh⟩ := hh
        refine ⟨[.lit (.int .i64 e47)], (by cases hC; subst he_Int; exact decide_eq_false (Int.not_lt.2 (by first | exact h46 | (simp; done) | (simp; omega) | (simp at h46 ⊢; omega) | (simp at h46 ⊢; exact h46)))), (by cases hC; subst he_Int; first | exact r_Int_get h48 | simp [h48]), ?_⟩
        cbv
        replace hh := req_some hh
        obtain ⟨h49, hh⟩ := hh
        replace hh := bind_some hh
        obtain ⟨e50, h51, hh⟩ := hh
        refine ⟨[.lit (.int .i64 e50)], (by cases hC; subst he_Int; exact decide_eq_false (Int.not_lt.2 (by first | exact h49 | (simp; done) | (simp; omega) | (simp at h49 ⊢; omega) | (simp at h49 ⊢; exact h49)))), (by cases hC; subst he_Int; first | exact r_Int_get h51 | simp [h51]), ?_⟩
        cbv
        replace hh := if_or hh
        rcases hh with ⟨b52, hh⟩ | ⟨b52, hh⟩
        · have f53 : (lt e47 e50) = true := by cases hC; exact decide_eq_true b52
          rw [f53]; cbv
          cases hh
          have hh : some _ = some _ := hq1
          refine hQ1 _ _ ?_
          cbv
          subst hr hp
          cases hh
          cases hC; subst he_Int; first | (simp; done) | (simp <;> first | rfl | omega | grind)
        · have f53 : (lt e47 e50) = false := by cases hC; exact decide_eq_false b52
          rw [f53]; cbv
          replace hh := req_some hh
          obtain ⟨h54, hh⟩ := hh
          replace hh := bind_some hh
          obtain ⟨e55, h56, hh⟩ := hh
          refine ⟨[.lit (.int .i64 e55)], (by cases hC; subst he_Int; exact decide_eq_false (Int.not_lt.2 (by first | exact h54 | (simp; done) | (simp; omega) | (simp at h54 ⊢; omega) | (simp at h54 ⊢; exact h54)))), (by cases hC; subst he_Int; first | exact r_Int_get h56 | simp [h56]), ?_⟩
          cbv
          replace hh := req_some hh
          obtain ⟨h57, hh⟩ := hh
          replace hh := bind_some hh
          obtain ⟨e58, h59, hh⟩ := hh
          refine ⟨[.lit (.int .i64 e58)], (by cases hC; subst he_Int; exact decide_eq_false (Int.not_lt.2 (by first | exact h57 | (simp; done) | (simp; omega) | (simp at h57 ⊢; omega) | (simp at h57 ⊢; exact h57)))), (by cases hC; subst he_Int; first | exact r_Int_get h59 | simp [h59]), ?_⟩
          cbv
          replace hh := if_or hh
          rcases hh with ⟨b60, hh⟩ | ⟨b60, hh⟩
          · have f61 : (lt e58 e55) = true := by cases hC; exact decide_eq_true b60
            rw [f61]; cbv
            cases hh
            have hh : some _ = some _ := hq1
            refine hQ1 _ _ ?_
            cbv
            subst hr hp
            cases hh
            cases hC; subst he_Int; first | (simp; done) | (simp <;> first | rfl | omega | grind)
          · have f61 : (lt e58 e55) = false := by cases hC; exact decide_eq_false b60
            rw [f61]; cbv
            refine hN1 _ _ _ hh (Nat.lt_succ_self _) ?_
            rintro ⟨n, t0, ⟨⟩⟩ e1
            refine cov_of [] ?_
            cbv
            all_goals (have e1_0 := congrArg (fun s => s.2.1) e1; dsimp only at e1_0; subst e1_0; cases hC; subst he_Int; (first | (simp; done) | (simp <;> first | rfl | omega | grind)))
      · have f45 : (lt s21 (cast (len (qInt p1)))) = false := by cases hC; subst he_Int; first | exact decide_eq_false b44 | (simp; done) | (simp; omega) | (simp at b44 ⊢; omega) | (simp at b44 ⊢; exact b44)
        rw [f45]; cbv
        refine hD1 _  hh ?_
        rintro ⟨⟩ e1
        refine cov_of [] ?_
        cbv
        all_goals (cases hC; subst he_Int; (first | (simp; done) | (simp <;> first | rfl | omega | grind)))
    · have f43 : (lt s21 (cast (len (qInt p0)))) = false := by cases hC; subst he_Int; first | exact decide_eq_false b42 | (simp; done) | (simp; omega) | (simp at b42 ⊢; omega) | (simp at b42 ⊢; exact b42)
      rw [f43]; cbv
      refine hD1 _  hh ?_
      rintro ⟨⟩ e1
      refine cov_of [] ?_
      cbv
      all_goals (cases hC; subst he_Int; (first | (simp; done) | (simp <;> first | rfl | omega | grind)))

theorem c_spec_OccLess {k : Nat} {p0 : GOcc} {p1 : GOcc} {r : Bool} (hh : spec_OccLess.f k p0 p1 = some r) : FunW P 58 [.agg [.lit (.int .i64 p0.From), .lit (.int .i64 p0.To), .tree (r_Int p0.Ids)], .agg [.lit (.int .i64 p1.From), .lit (.int .i64 p1.To), .tree (r_Int p1.Ids)]] [.hole, .hole] (.lit (.bool r)) := by
  obtain ⟨p0_From, p0_To, p0_Ids⟩ := p0
  obtain ⟨p1_From, p1_To, p1_Ids⟩ := p1
  unfold spec_OccLess.f at hh
  refine fun_go2 eok mixed (ts := [(4, none)]) (rm := [.own]) (gs := [1000000, 1000001]) (pm := [.skip, .skip]) Try.func58 (by kernel_rfl) (by kernel_rfl) (by kernel_rfl) ?_
  intro Fn LW len cast toNat wrap add sub mul bin lt eq At set part app fz' rep nadd nmax ssize sext sget scat seq slt Wide Flat Ones Room r' post' hC hF hr hp
  generalize he_Int : r_Int = qInt
  cbv
  replace hh := if_or hh
  rcases hh with ⟨b1, hh⟩ | ⟨b1, hh⟩
  · have f2 : (eq p0_To p1_To) = true := by cases hC; exact beq_iff_eq.2 b1
    rw [f2]; cbv
    replace hh := if_or hh
    rcases hh with ⟨b3, hh⟩ | ⟨b3, hh⟩
    · have f4 : (eq p0_From p1_From) = true := by cases hC; exact beq_iff_eq.2 b3
      rw [f4]; cbv
      replace hh := bind_some hh
      obtain ⟨x6, h5, hh⟩ := hh
      have f7 := c_spec_l3Ids h5
      try rw [he_Int] at f7
      refine ⟨_, _, hF _ _ _ _ _ _ f7 (by cases hC; subst he_Int; simp) rfl, ?_⟩
      cbv
      subst hr hp
      cases hh
      cases hC; subst he_Int; first | (simp; done) | (simp <;> first | rfl | omega | grind)
    · have f4 : (eq p0_From p1_From) = false := by cases hC; exact beq_false_of_ne b3
      rw [f4]; cbv
      subst hr hp
      cases hh
      cases hC; subst he_Int; first | (simp; done) | (simp <;> first | rfl | omega | grind)
  · have f2 : (eq p0_To p1_To) = false := by cases hC; exact beq_false_of_ne b1
    rw [f2]; cbv
    subst hr hp
    cases hh
    cases hC; subst he_Int; first | (simp; done) | (simp <;> first | rfl | omega | grind)
theorem c_spec_OccLess_L0 {k : Nat} {p0 : GOcc} {p1 : GOcc} {r : Bool} (hh : spec_OccLess.f k p0 p1 = some r) : FunW P 58 [.agg [.lit (.int .i64 p0.From), .lit (.int .i64 p0.To), .inl 1 (r_Int p0.Ids)], .agg [.lit (.int .i64 p1.From), .lit (.int .i64 p1.To), .tree (r_Int p1.Ids)]] [.agg [.lit (.int .i64 p0.From), .lit (.int .i64 p0.To), .inl 1 (r_Int p0.Ids)], .hole] (.lit (.bool r)) :=
  (c_spec_OccLess hh).lend (rfl) (.lend (by simp [-r_Int_map, Vm.fz, fzCells, r_Int_fz]) (.same rfl .nil))

theorem c_spec_l3Same {k : Nat} {p0 : GOcc} {p1 : GOcc} {r : Bool} (hh : spec_l3Same.f k p0 p1 = some r) : FunW P 98 [.agg [.lit (.int .i64 p0.From), .lit (.int .i64 p0.To), .tree (r_Int p0.Ids)], .agg [.lit (.int .i64 p1.From), .lit (.int .i64 p1.To), .tree (r_Int p1.Ids)]] [.hole, .hole] (.lit (.bool r)) := by
  obtain ⟨p0_From, p0_To, p0_Ids⟩ := p0
  obtain ⟨p1_From, p1_To, p1_Ids⟩ := p1
  unfold spec_l3Same.f at hh
  refine fun_go2 eok mixed (ts := [(4, none)]) (rm := [.own]) (gs := [1000000, 1000001]) (pm := [.skip, .skip]) Try.func98 (by kernel_rfl) (by kernel_rfl) (by kernel_rfl) ?_
  intro Fn LW len cast toNat wrap add sub mul bin lt eq At set part app fz' rep nadd nmax ssize sext sget scat seq slt Wide Flat Ones Room r' post' hC hF hr hp
  generalize he_Int : r_Int = qInt
  cbv
  replace hh := if_or hh
  rcases hh with ⟨b1, hh⟩ | ⟨b1, hh⟩
  · have f2 : (eq p0_From p1_From) = true := by cases hC; exact beq_iff_eq.2 b1
    rw [f2]; cbv
    replace hh := if_or hh
    rcases hh with ⟨b3, hh⟩ | ⟨b3, hh⟩
    · have f4 : (eq p0_To p1_To) = true := by cases hC; exact beq_iff_eq.2 b3
      rw [f4]; cbv
      replace hh := if_or hh
      rcases hh with ⟨b5, hh⟩ | ⟨b5, hh⟩
      · have f6 : (eq (cast (len (qInt p0_Ids))) (cast (len (qInt p1_Ids)))) = true := by cases hC; subst he_Int; first | exact beq_iff_eq.2 b5 | (simp; done) | (simp; omega) | (simp at b5 ⊢; omega) | (simp at b5 ⊢; exact b5)
        rw [f6]; cbv
        replace hh := bind_some hh
        obtain ⟨x8, h7, hh⟩ := hh
        have f9 := c_spec_l3Ids h7
        try rw [he_Int] at f9
        refine ⟨_, _, hF _ _ _ _ _ _ f9 (by cases hC; subst he_Int; simp) rfl, ?_⟩
        cbv
        subst hr hp
        cases hh
        cases hC; subst he_Int; first | (simp; done) | (simp <;> first | rfl | omega | grind)
      · have f6 : (eq (cast (len (qInt p0_Ids))) (cast (len (qInt p1_Ids)))) = false := by cases hC; subst he_Int; first | exact beq_false_of_ne b5 | (simp; done) | (simp; omega) | (simp at b5 ⊢; omega) | (simp at b5 ⊢; exact b5)
        rw [f6]; cbv
        subst hr hp
        cases hh
        cases hC; subst he_Int; first | (simp; done) | (simp <;> first | rfl | omega | grind)
    · have f4 : (eq p0_To p1_To) = false := by cases hC; exact beq_false_of_ne b3
      rw [f4]; cbv
      subst hr hp
      cases hh
      cases hC; subst he_Int; first | (simp; done) | (simp <;> first | rfl | omega | grind)
  · have f2 : (eq p0_From p1_From) = false := by cases hC; exact beq_false_of_ne b1
    rw [f2]; cbv
    subst hr hp
    cases hh
    cases hC; subst he_Int; first | (simp; done) | (simp <;> first | rfl | omega | grind)
theorem c_spec_l3Same_L0 {k : Nat} {p0 : GOcc} {p1 : GOcc} {r : Bool} (hh : spec_l3Same.f k p0 p1 = some r) : FunW P 98 [.agg [.lit (.int .i64 p0.From), .lit (.int .i64 p0.To), .inl 1 (r_Int p0.Ids)], .agg [.lit (.int .i64 p1.From), .lit (.int .i64 p1.To), .tree (r_Int p1.Ids)]] [.agg [.lit (.int .i64 p0.From), .lit (.int .i64 p0.To), .inl 1 (r_Int p0.Ids)], .hole] (.lit (.bool r)) :=
  (c_spec_l3Same hh).lend (rfl) (.lend (by simp [-r_Int_map, Vm.fz, fzCells, r_Int_fz]) (.same rfl .nil))

theorem c_spec_l3Copy {p0 : GOcc} {r : GOcc} (hh : spec_l3Copy.f p0 = some r) : FunW P 56 [.agg [.lit (.int .i64 p0.From), .lit (.int .i64 p0.To), .tree (r_Int p0.Ids)]] [.hole] (.agg [.lit (.int .i64 r.From), .lit (.int .i64 r.To), .inl 1 (r_Int r.Ids)]) := by
  obtain ⟨p0_From, p0_To, p0_Ids⟩ := p0
  unfold spec_l3Copy.f at hh
  refine fun_go2 eok mixed (ts := [(2, some 44)]) (rm := [.own]) (gs := [1000000]) (pm := [.skip]) Try.func56 (by kernel_rfl) (by kernel_rfl) (by kernel_rfl) ?_
  intro Fn LW len cast toNat wrap add sub mul bin lt eq At set part app fz' rep nadd nmax ssize sext sget scat seq slt Wide Flat Ones Room r' post' hC hF hr hp
  generalize he_Int : r_Int = qInt
  cbv
  replace hh := req_some hh
  obtain ⟨h1, hh⟩ := hh
  try dsimp only at h1
  refine ⟨⟨(by cases hC; subst he_Int; first | exact r_Int_wide _ | (simp; done)), (by cases hC; subst he_Int; first | exact r_Int_ones _ | (simp; done))⟩, ?_⟩
  refine ⟨⟨(by cases hC; subst he_Int; first | (simp; done) | (simp; first | omega | (simp only [natc] at *; omega))), by cases hC; subst he_Int; first | exact h1 | (simp; done) | (simp; omega) | (simp at h1 ⊢; omega) | (simp at h1 ⊢; exact h1)⟩, ?_⟩
  subst hr hp
  cases hh
  cases hC; subst he_Int; first | (simp; done) | (simp <;> first | rfl | omega | grind)

theorem c_spec_l3Put {k : Nat} {p0 : List GOcc} {p1 : GOcc} {r : List GOcc} (hh : spec_l3Put.f k p0 p1 = some r) : FunW P 90 [.inl 3 (r_GOcc p0), .agg [.lit (.int .i64 p1.From), .lit (.int .i64 p1.To), .tree (r_Int p1.Ids)]] [.hole, .hole] (.inl 3 (r_GOcc r)) := by
  obtain ⟨p1_From, p1_To, p1_Ids⟩ := p1
  unfold spec_l3Put.f at hh
  refine fun_go2 eok mixed (ts := [(4, none)]) (rm := [.own]) (gs := [1000000, 1000001]) (pm := [.skip, .skip]) Try.func90 (by kernel_rfl) (by kernel_rfl) (by kernel_rfl) ?_
  intro Fn LW len cast toNat wrap add sub mul bin lt eq At set part app fz' rep nadd nmax ssize sext sget scat seq slt Wide Flat Ones Room r' post' hC hF hr hp
  generalize he_GOcc : r_GOcc = qGOcc
  generalize he_Int : r_Int = qInt
  cbv
  replace hh := bind_some hh
  obtain ⟨o1, hl1, hq1⟩ := hh
  refine loop_go3 hC eok mixed
    (fun s : Nat × Int × Unit => match s with | (_, s12, _) => (⟨[(0, .ref (0, 0) 1 0 (len (qGOcc p0))), (3, .mptr (3, 0) 1 0 0), (5, .lit (.int .i64 s12)), (1000000, .ref (0, 0) 1 0 (len (qGOcc p0)))], [((0, 0), .arr 1 3 (qGOcc p0)), ((3, 0), .box 1 [.lit (.int .i64 p1_From), .lit (.int .i64 p1_To), .tree (qInt p1_Ids)])]⟩ : St))
    (fun s : Nat × Int × Unit => spec_l3Put.l0 k p0 (⟨p1_From, p1_To, p1_Ids⟩ : GOcc) s.1 s.2.1 = some o1)
    (fun s => s.1) (fun _ => .exit 0)
    (fun x : Int => match x with | x24 => (⟨[(0, .ref (0, 0) 1 0 (len (qGOcc p0))), (3, .mptr (3, 0) 1 0 0), (5, .lit (.int .i64 x24)), (1000000, .ref (0, 0) 1 0 (len (qGOcc p0)))], [((0, 0), .arr 1 3 (qGOcc p0)), ((3, 0), .box 1 [.lit (.int .i64 p1_From), .lit (.int .i64 p1_To), .tree (qInt p1_Ids)])]⟩ : St))
    (fun x : Int => some (x) = some o1)
    (_, _, ()) hl1 ?_ ?_ ?_
  · rintro ⟨n, t0, ⟨⟩⟩ e1
    refine cov_of [((0, 0), (0, 0)), ((3, 0), (3, 0))] ?_
    cbv
    all_goals (have e1_0 := congrArg (fun s => s.2.1) e1; dsimp only at e1_0; subst e1_0; cases hC; subst he_GOcc he_Int; (first | (simp; done) | (simp <;> first | rfl | omega | grind)))
  · rintro x24 hx
    have hx := Option.some.inj hx
    subst hx
    have hh := hq1
    cbv
    replace hh := if_or hh
    rcases hh with ⟨b36, hh⟩ | ⟨b36, hh⟩
    · have f37 : (lt x24 (cast (len (qGOcc p0)))) = true := by cases hC; subst he_GOcc he_Int; first | exact decide_eq_true b36 | (simp; done) | (simp; omega) | (simp at b36 ⊢; omega) | (simp at b36 ⊢; exact b36)
      rw [f37]; cbv
      replace hh := req_some hh
      obtain ⟨h38, hh⟩ := hh
      replace hh := req_some hh
      obtain ⟨h39, hh⟩ := hh
      replace h39 : x24 < (p0.length : Nat) := h39
      refine ⟨(by cases hC; subst he_GOcc he_Int; exact decide_eq_false (Int.not_lt.2 (by first | exact h38 | (simp; done) | (simp; omega) | (simp at h38 ⊢; omega) | (simp at h38 ⊢; exact h38)))), (by cases hC; subst he_GOcc he_Int; exact decide_eq_true (by first | exact h39 | (simp; done) | (simp; omega) | (simp at h39 ⊢; omega) | (simp at h39 ⊢; exact h39))), ?_⟩
      replace hh := bind_some hh
      obtain ⟨⟨e40_From, e40_To, e40_Ids⟩, h41, hh⟩ := hh
      refine ⟨[.lit (.int .i64 e40_From), .lit (.int .i64 e40_To), .tree (qInt e40_Ids)], (by cases hC; subst he_GOcc he_Int; first | exact r_GOcc_get h41 | (simp [h41]; done) | (have q := r_GOcc_get h41; rw [r_GOcc_map] at q; simpa [List.map] using q)), ?_⟩
      cbv
      replace hh := bind_some hh
      obtain ⟨x43, h42, hh⟩ := hh
      have f44 := c_spec_l3Same h42
      try rw [he_GOcc] at f44
      try rw [he_Int] at f44
      refine ⟨_, _, hF _ _ _ _ _ _ f44 (by cases hC; subst he_GOcc he_Int; simp) rfl, ?_⟩
      cbv
      replace hh := if_or hh
      rcases hh with ⟨b45, hh⟩ | ⟨b45, hh⟩
      · have f46 : x43 = true := by exact b45
        rw [f46]; cbv
        subst hr hp
        cases hh
        cases hC; subst he_GOcc he_Int; first | (simp; done) | (simp <;> first | rfl | omega | grind)
      · have f46 : x43 = false := by exact Bool.eq_false_iff.2 b45
        rw [f46]; cbv
        replace hh := req_some hh
        obtain ⟨h47, hh⟩ := hh
        replace hh := req_some hh
        obtain ⟨h48, hh⟩ := hh
        replace h48 : x24 ≤ (p0.length : Nat) := h48
        replace hh := req_some hh
        obtain ⟨h49, hh⟩ := hh
        replace h49 : (p0.length : Nat) ≤ (p0.length : Nat) := h49
        refine ⟨⟨(by cases hC; subst he_GOcc he_Int; exact decide_eq_false (Int.not_lt.2 h47)), (by cases hC; subst he_GOcc he_Int; exact decide_eq_false (Int.not_lt.2 (by first | exact h48 | (simp; done) | (simp; omega) | (simp at h48 ⊢; omega) | (simp at h48 ⊢; exact h48)))), (by cases hC; subst he_GOcc he_Int; exact decide_eq_false (Int.not_lt.2 (by first | exact h49 | (simp; done) | (simp; omega) | (simp at h49 ⊢; omega) | (simp at h49 ⊢; exact h49))))⟩, ?_⟩
        replace hh := req_some hh
        obtain ⟨h50, hh⟩ := hh
        replace h50 : (0 + ((p0.length : Nat) - x24).toNat) * 40 ≤ 140737488355328 := h50
        refine ⟨⟨(by cases hC; subst he_GOcc he_Int; first | (simp; done) | (simp; first | omega | (simp only [natc] at *; omega))), (by cases hC; subst he_GOcc he_Int; first | exact r_GOcc_flat _ | (simp [plain]; done) | (simp; intro r hr; have qm := List.mem_of_mem_drop (List.mem_of_mem_take hr); rw [← r_GOcc_map] at qm; exact r_GOcc_flat _ r qm)), (by cases hC; subst he_GOcc he_Int; first | exact r_GOcc_ones _ | (simp [ocell]; done) | (simp; intro r hr; have qm := List.mem_of_mem_drop (List.mem_of_mem_take hr); rw [← r_GOcc_map] at qm; exact r_GOcc_ones _ r qm))⟩, ?_⟩
        refine ⟨⟨(by cases hC; subst he_GOcc he_Int; first | (simp; done) | (simp; first | omega | (simp only [natc] at *; omega))), by cases hC; subst he_GOcc he_Int; first | exact h50 | (simp; done) | (simp; omega) | (simp at h50 ⊢; omega) | (simp at h50 ⊢; exact h50)⟩, ?_⟩
        replace hh := req_some hh
        obtain ⟨h51, hh⟩ := hh
        replace hh := req_some hh
        obtain ⟨h52, hh⟩ := hh
        replace hh := req_some hh
        obtain ⟨h53, hh⟩ := hh
        replace h53 : x24 ≤ (p0.length : Nat) := h53
        refine ⟨⟨(by cases hC; subst he_GOcc he_Int; exact decide_eq_false (Int.not_lt.2 h51)), (by cases hC; subst he_GOcc he_Int; exact decide_eq_false (Int.not_lt.2 (by first | exact h52 | (simp; done) | (simp; omega) | (simp at h52 ⊢; omega) | (simp at h52 ⊢; exact h52)))), (by cases hC; subst he_GOcc he_Int; exact decide_eq_false (Int.not_lt.2 (by first | exact h53 | (simp; done) | (simp; omega) | (simp at h53 ⊢; omega) | (simp at h53 ⊢; exact h53))))⟩, ?_⟩
        replace hh := bind_some hh
        obtain ⟨⟨x55_From, x55_To, x55_Ids⟩, h54, hh⟩ := hh
        have f56 := FunW.frz (r' := .agg [.lit (.int .i64 x55_From), .lit (.int .i64 x55_To), .tree (r_Int x55_Ids)]) (c_spec_l3Copy h54) (by simp [-r_Int_map, r_Int_fz])
        try rw [he_GOcc] at f56
        try rw [he_Int] at f56
        refine ⟨_, _, hF _ _ _ _ _ _ f56 (by cases hC; subst he_GOcc he_Int; simp) rfl, ?_⟩
        cbv
        replace hh := req_some hh
        obtain ⟨h57, hh⟩ := hh
        rw [if_pos (show (nadd 0 (toNat 0)) = 0 ∧ True from ⟨by cases hC; subst he_GOcc he_Int; rfl, trivial⟩)]
        cbv
        refine ⟨⟨(by cases hC; subst he_GOcc he_Int; simp), (by cases hC; subst he_GOcc he_Int; first | exact r_GOcc_ones _ | (simp [ocell]; done))⟩, ?_⟩
        refine ⟨⟨(by cases hC; subst he_GOcc he_Int; first | (simp; done) | (simp; first | omega | (simp only [natc] at *; omega))), by cases hC; subst he_GOcc he_Int; first | exact h57 | (simp; done) | (simp; omega) | (simp at h57 ⊢; omega) | (simp at h57 ⊢; exact h57)⟩, ?_⟩
        replace hh := req_some hh
        obtain ⟨h58, hh⟩ := hh
        replace h58 : ((x24.toNat + 1) + (0 + ((p0.length : Nat) - x24).toNat)) * 40 ≤ 140737488355328 := h58
        refine ⟨⟨(by cases hC; subst he_GOcc he_Int; first | (simp; done) | (simp; first | omega | (simp only [natc] at *; omega))), (by cases hC; subst he_GOcc he_Int; first | exact r_GOcc_flat _ | (simp [plain]; done) | (simp; intro r hr; have qm := List.mem_of_mem_drop (List.mem_of_mem_take hr); rw [← r_GOcc_map] at qm; exact r_GOcc_flat _ r qm)), (by cases hC; subst he_GOcc he_Int; first | exact r_GOcc_ones _ | (simp [ocell]; done) | (simp; intro r hr; have qm := List.mem_of_mem_drop (List.mem_of_mem_take hr); rw [← r_GOcc_map] at qm; exact r_GOcc_ones _ r qm))⟩, ?_⟩
        refine ⟨⟨(by cases hC; subst he_GOcc he_Int; first | (simp; done) | (simp; first | omega | (simp only [natc] at *; omega))), by cases hC; subst he_GOcc he_Int; first | exact h58 | (simp; done) | (simp; omega) | (simp at h58 ⊢; omega) | (simp at h58 ⊢; exact h58)⟩, ?_⟩
        subst hr hp
        cases hh
        cases hC; subst he_GOcc he_Int; first | (simp; done) | (simp <;> first | rfl | omega | grind)
    · have f37 : (lt x24 (cast (len (qGOcc p0)))) = false := by cases hC; subst he_GOcc he_Int; first | exact decide_eq_false b36 | (simp; done) | (simp; omega) | (simp at b36 ⊢; omega) | (simp at b36 ⊢; exact b36)
      rw [f37]; cbv
      replace hh := req_some hh
      obtain ⟨h59, hh⟩ := hh
      replace hh := req_some hh
      obtain ⟨h60, hh⟩ := hh
      replace h60 : x24 ≤ (p0.length : Nat) := h60
      replace hh := req_some hh
      obtain ⟨h61, hh⟩ := hh
      replace h61 : (p0.length : Nat) ≤ (p0.length : Nat) := h61
      refine ⟨⟨(by cases hC; subst he_GOcc he_Int; exact decide_eq_false (Int.not_lt.2 h59)), (by cases hC; subst he_GOcc he_Int; exact decide_eq_false (Int.not_lt.2 (by first | exact h60 | (simp; done) | (simp; omega) | (simp at h60 ⊢; omega) | (simp at h60 ⊢; exact h60)))), (by cases hC; subst he_GOcc he_Int; exact decide_eq_false (Int.not_lt.2 (by first | exact h61 | (simp; done) | (simp; omega) | (simp at h61 ⊢; omega) | (simp at h61 ⊢; exact h61))))⟩, ?_⟩
      replace hh := req_some hh
      obtain ⟨h62, hh⟩ := hh
      replace h62 : (0 + ((p0.length : Nat) - x24).toNat) * 40 ≤ 140737488355328 := h62
      refine ⟨⟨(by cases hC; subst he_GOcc he_Int; first | (simp; done) | (simp; first | omega | (simp only [natc] at *; omega))), (by cases hC; subst he_GOcc he_Int; first | exact r_GOcc_flat _ | (simp [plain]; done) | (simp; intro r hr; have qm := List.mem_of_mem_drop (List.mem_of_mem_take hr); rw [← r_GOcc_map] at qm; exact r_GOcc_flat _ r qm)), (by cases hC; subst he_GOcc he_Int; first | exact r_GOcc_ones _ | (simp [ocell]; done) | (simp; intro r hr; have qm := List.mem_of_mem_drop (List.mem_of_mem_take hr); rw [← r_GOcc_map] at qm; exact r_GOcc_ones _ r qm))⟩, ?_⟩
      refine ⟨⟨(by cases hC; subst he_GOcc he_Int; first | (simp; done) | (simp; first | omega | (simp only [natc] at *; omega))), by cases hC; subst he_GOcc he_Int; first | exact h62 | (simp; done) | (simp; omega) | (simp at h62 ⊢; omega) | (simp at h62 ⊢; exact h62)⟩, ?_⟩
      replace hh := req_some hh
      obtain ⟨h63, hh⟩ := hh
      replace hh := req_some hh
      obtain ⟨h64, hh⟩ := hh
      replace hh := req_some hh
      obtain ⟨h65, hh⟩ := hh
      replace h65 : x24 ≤ (p0.length : Nat) := h65
      refine ⟨⟨(by cases hC; subst he_GOcc he_Int; exact decide_eq_false (Int.not_lt.2 h63)), (by cases hC; subst he_GOcc he_Int; exact decide_eq_false (Int.not_lt.2 (by first | exact h64 | (simp; done) | (simp; omega) | (simp at h64 ⊢; omega) | (simp at h64 ⊢; exact h64)))), (by cases hC; subst he_GOcc he_Int; exact decide_eq_false (Int.not_lt.2 (by first | exact h65 | (simp; done) | (simp; omega) | (simp at h65 ⊢; omega) | (simp at h65 ⊢; exact h65))))⟩, ?_⟩
      replace hh := bind_some hh
      obtain ⟨⟨x67_From, x67_To, x67_Ids⟩, h66, hh⟩ := hh
      have f68 := FunW.frz (r' := .agg [.lit (.int .i64 x67_From), .lit (.int .i64 x67_To), .tree (r_Int x67_Ids)]) (c_spec_l3Copy h66) (by simp [-r_Int_map, r_Int_fz])
      try rw [he_GOcc] at f68
      try rw [he_Int] at f68
      refine ⟨_, _, hF _ _ _ _ _ _ f68 (by cases hC; subst he_GOcc he_Int; simp) rfl, ?_⟩
      cbv
      replace hh := req_some hh
      obtain ⟨h69, hh⟩ := hh
      rw [if_pos (show (nadd 0 (toNat 0)) = 0 ∧ True from ⟨by cases hC; subst he_GOcc he_Int; rfl, trivial⟩)]
      cbv
      refine ⟨⟨(by cases hC; subst he_GOcc he_Int; simp), (by cases hC; subst he_GOcc he_Int; first | exact r_GOcc_ones _ | (simp [ocell]; done))⟩, ?_⟩
      refine ⟨⟨(by cases hC; subst he_GOcc he_Int; first | (simp; done) | (simp; first | omega | (simp only [natc] at *; omega))), by cases hC; subst he_GOcc he_Int; first | exact h69 | (simp; done) | (simp; omega) | (simp at h69 ⊢; omega) | (simp at h69 ⊢; exact h69)⟩, ?_⟩
      replace hh := req_some hh
      obtain ⟨h70, hh⟩ := hh
      replace h70 : ((x24.toNat + 1) + (0 + ((p0.length : Nat) - x24).toNat)) * 40 ≤ 140737488355328 := h70
      refine ⟨⟨(by cases hC; subst he_GOcc he_Int; first | (simp; done) | (simp; first | omega | (simp only [natc] at *; omega))), (by cases hC; subst he_GOcc he_Int; first | exact r_GOcc_flat _ | (simp [plain]; done) | (simp; intro r hr; have qm := List.mem_of_mem_drop (List.mem_of_mem_take hr); rw [← r_GOcc_map] at qm; exact r_GOcc_flat _ r qm)), (by cases hC; subst he_GOcc he_Int; first | exact r_GOcc_ones _ | (simp [ocell]; done) | (simp; intro r hr; have qm := List.mem_of_mem_drop (List.mem_of_mem_take hr); rw [← r_GOcc_map] at qm; exact r_GOcc_ones _ r qm))⟩, ?_⟩
      refine ⟨⟨(by cases hC; subst he_GOcc he_Int; first | (simp; done) | (simp; first | omega | (simp only [natc] at *; omega))), by cases hC; subst he_GOcc he_Int; first | exact h70 | (simp; done) | (simp; omega) | (simp at h70 ⊢; omega) | (simp at h70 ⊢; exact h70)⟩, ?_⟩
      subst hr hp
      cases hh
      cases hC; subst he_GOcc he_Int; first | (simp; done) | (simp <;> first | rfl | omega | grind)
  · rintro ⟨n, s12, ⟨⟩⟩ N1 D1 hh hN1 hD1 hQ1
    replace hN1 := fun σ' n' a0 (h : spec_l3Put.l0 k p0 (⟨p1_From, p1_To, p1_Ids⟩ : GOcc) n' a0 = some o1) => hN1 σ' (n', a0, ()) h
    replace hD1 := fun σ' (a0 : Int) (h : some (a0) = some o1) => hD1 σ' a0 h
    cases n with
    | zero => dsimp only at hh; unfold spec_l3Put.l0 at hh; cases hh
    | succ n =>
    dsimp only at hh
    unfold spec_l3Put.l0 at hh
    cbv
    replace hh := if_or hh
    rcases hh with ⟨b25, hh⟩ | ⟨b25, hh⟩
    · have f26 : (lt s12 (cast (len (qGOcc p0)))) = true := by cases hC; subst he_GOcc he_Int; first | exact decide_eq_true b25 | (simp; done) | (simp; omega) | (simp at b25 ⊢; omega) | (simp at b25 ⊢; exact b25)
      rw [f26]; cbv
      replace hh := req_some hh
      obtain ⟨h27, hh⟩ := hh
      replace hh := req_some hh
      obtain ⟨h28, hh⟩ := hh
      replace h28 : s12 < (p0.length : Nat) := h28
      refine ⟨(by cases hC; subst he_GOcc he_Int; exact decide_eq_false (Int.not_lt.2 (by first | exact h27 | (simp; done) | (simp; omega) | (simp at h27 ⊢; omega) | (simp at h27 ⊢; exact h27)))), (by cases hC; subst he_GOcc he_Int; exact decide_eq_true (by first | exact h28 | (simp; done) | (simp; omega) | (simp at h28 ⊢; omega) | (simp at h28 ⊢; exact h28))), ?_⟩
      replace hh := bind_some hh
      obtain ⟨⟨e29_From, e29_To, e29_Ids⟩, h30, hh⟩ := hh
      refine ⟨[.lit (.int .i64 e29_From), .lit (.int .i64 e29_To), .tree (qInt e29_Ids)], (by cases hC; subst he_GOcc he_Int; first | exact r_GOcc_get h30 | (simp [h30]; done) | (have q := r_GOcc_get h30; rw [r_GOcc_map] at q; simpa [List.map] using q)), ?_⟩
      cbv
      replace hh := bind_some hh
      obtain ⟨x32, h31, hh⟩ := hh
      have f33 := c_spec_OccLess h31
      try rw [he_GOcc] at f33
      try rw [he_Int] at f33
      refine ⟨_, _, hF _ _ _ _ _ _ f33 (by cases hC; subst he_GOcc he_Int; simp) rfl, ?_⟩
      cbv
      replace hh := if_or hh
      rcases hh with ⟨b34, hh⟩ | ⟨b34, hh⟩
      · have f35 : x32 = true := by exact b34
        rw [f35]; cbv
        refine hN1 _ _ _ hh (Nat.lt_succ_self _) ?_
        rintro ⟨n, t0, ⟨⟩⟩ e1
        refine cov_of [((0, 0), (0, 0)), ((3, 0), (3, 0))] ?_
        cbv
        all_goals (have e1_0 := congrArg (fun s => s.2.1) e1; dsimp only at e1_0; subst e1_0; cases hC; subst he_GOcc he_Int; (first | (simp; done) | (simp <;> first | rfl | omega | grind)))
      · have f35 : x32 = false := by exact Bool.eq_false_iff.2 b34
        rw [f35]; cbv
        refine hD1 _ _ hh ?_
        rintro t0 e1
        refine cov_of [((0, 0), (0, 0)), ((3, 0), (3, 0))] ?_
        cbv
        all_goals (subst e1; cases hC; subst he_GOcc he_Int; (first | (simp; done) | (simp <;> first | rfl | omega | grind)))
    · have f26 : (lt s12 (cast (len (qGOcc p0)))) = false := by cases hC; subst he_GOcc he_Int; first | exact decide_eq_false b25 | (simp; done) | (simp; omega) | (simp at b25 ⊢; omega) | (simp at b25 ⊢; exact b25)
      rw [f26]; cbv
      refine hD1 _ _ hh ?_
      rintro t0 e1
      refine cov_of [((0, 0), (0, 0)), ((3, 0), (3, 0))] ?_
      cbv
      all_goals (subst e1; cases hC; subst he_GOcc he_Int; (first | (simp; done) | (simp <;> first | rfl | omega | grind)))

theorem c_spec_l3Some {k : Nat} {p0 : Gl14Rd} {p1 : Int} {r : (List GOcc) × Gl14Rd} (hh : spec_l3Some.f k p0 p1 = some r) : FunW P 76 [.obox [.tree (r_Iu8 p0.b), .lit (.int .i64 p0.p)], .lit (.int .i64 p1)] [.obox [.tree (r_Iu8 r.2.b), .lit (.int .i64 r.2.p)], .hole] (.inl 3 (r_GOcc r.1)) := by
  obtain ⟨p0_b, p0_p⟩ := p0
  unfold spec_l3Some.f at hh
  refine fun_go2 eok mixed (ts := [(4, none)]) (rm := [.own]) (gs := [1000000, 1000001]) (pm := [.own, .skip]) Try.func76 (by kernel_rfl) (by kernel_rfl) (by kernel_rfl) ?_
  intro Fn LW len cast toNat wrap add sub mul bin lt eq At set part app fz' rep nadd nmax ssize sext sget scat seq slt Wide Flat Ones Room r' post' hC hF hr hp
  generalize he_GOcc : r_GOcc = qGOcc
  generalize he_Int : r_Int = qInt
  generalize he_Iu8 : r_Iu8 = qIu8
  cbv
  replace hh := bind_some hh
  obtain ⟨⟨x2_0, ⟨x2_1_b, x2_1_p⟩⟩, h1, hh⟩ := hh
  have f3 := c_spec_l14Rd_pick h1
  try rw [he_GOcc] at f3
  try rw [he_Int] at f3
  try rw [he_Iu8] at f3
  refine ⟨_, _, hF _ _ _ _ _ _ f3 (by cases hC; subst he_GOcc he_Int he_Iu8; simp) rfl, ?_⟩
  cbv
  replace hh := bind_some hh
  obtain ⟨o1, hl1, hq1⟩ := hh
  refine loop_go3 hC eok mixed
    (fun s : Nat × (List Int) × Int × (List GOcc) × Int × Unit => match s with | (_, s12, s13, s14, s15, _) => (⟨[(0, .mptr (0, 0) 1 0 0), (5, .ref (7, 0) 1 0 (len (qGOcc s14))), (6, .lit (.int .i64 s15)), (1000000, .mptr (0, 0) 1 0 0)], [((0, 0), .box 1 [.tree (qIu8 s12), .lit (.int .i64 s13)]), ((7, 0), .arr 1 3 (qGOcc s14))]⟩ : St))
    (fun s : Nat × (List Int) × Int × (List GOcc) × Int × Unit => spec_l3Some.l0 k s.1 s.2.1 s.2.2.1 s.2.2.2.1 s.2.2.2.2.1 = some o1)
    (fun s => s.1) (fun _ => .exit 0)
    (fun x : (List GOcc) × (List Int) × Int => match x with | (x24, x25, x26) => (⟨[(5, .ref (7, 0) 1 0 (len (qGOcc x24))), (1000000, .mptr (0, 0) 1 0 0)], [((0, 0), .box 1 [.tree (qIu8 x25), .lit (.int .i64 x26)]), ((7, 0), .arr 1 3 (qGOcc x24))]⟩ : St))
    (fun x : (List GOcc) × (List Int) × Int => some (x) = some o1)
    (_, _, _, _, _, ()) hl1 ?_ ?_ ?_
  · rintro ⟨n, t0, t1, t2, t3, ⟨⟩⟩ e1
    refine cov_of [((0, 0), (0, 0)), ((7, 0), (7, 0))] ?_
    cbv
    all_goals (have e1_0 := congrArg (fun s => s.2.1) e1; dsimp only at e1_0; subst e1_0; have e1_1 := congrArg (fun s => s.2.2.1) e1; dsimp only at e1_1; subst e1_1; have e1_2 := congrArg (fun s => s.2.2.2.1) e1; dsimp only at e1_2; subst e1_2; have e1_3 := congrArg (fun s => s.2.2.2.2.1) e1; dsimp only at e1_3; subst e1_3; cases hC; subst he_GOcc he_Int he_Iu8; (first | (simp; done) | (simp <;> first | rfl | omega | grind)))
  · rintro ⟨x24, x25, x26⟩ hx
    have hx := Option.some.inj hx
    subst hx
    have hh := hq1
    cbv
    subst hr hp
    cases hh
    cases hC; subst he_GOcc he_Int he_Iu8; first | (simp; done) | (simp <;> first | rfl | omega | grind)
  · rintro ⟨n, s12, s13, s14, s15, ⟨⟩⟩ N1 D1 hh hN1 hD1 hQ1
    replace hN1 := fun σ' n' a0 a1 a2 a3 (h : spec_l3Some.l0 k n' a0 a1 a2 a3 = some o1) => hN1 σ' (n', a0, a1, a2, a3, ()) h
    replace hD1 := fun σ' (a0 : List GOcc) (a1 : List Int) (a2 : Int) (h : some ((a0, a1, a2)) = some o1) => hD1 σ' (a0, a1, a2) h
    cases n with
    | zero => dsimp only at hh; unfold spec_l3Some.l0 at hh; cases hh
    | succ n =>
    dsimp only at hh
    unfold spec_l3Some.l0 at hh
    cbv
    replace hh := if_or hh
    rcases hh with ⟨b27, hh⟩ | ⟨b27, hh⟩
    · have f28 : (lt 0 s15) = true := by cases hC; exact decide_eq_true b27
      rw [f28]; cbv
      replace hh := bind_some hh
      obtain ⟨⟨⟨x30_0_From, x30_0_To, x30_0_Ids⟩, ⟨x30_1_b, x30_1_p⟩⟩, h29, hh⟩ := hh
      have f31 := c_spec_l3Any h29
      try rw [he_GOcc] at f31
      try rw [he_Int] at f31
      try rw [he_Iu8] at f31
      refine ⟨_, _, hF _ _ _ _ _ _ f31 (by cases hC; subst he_GOcc he_Int he_Iu8; simp) rfl, ?_⟩
      cbv
      replace hh := bind_some hh
      obtain ⟨x33, h32, hh⟩ := hh
      refine ⟨by cases hC; subst he_GOcc he_Int he_Iu8; first | (simp; done) | (simp; first | omega | (simp only [natc] at *; omega)), ?_⟩
      have f34 := c_spec_l3Put h32
      try rw [he_GOcc] at f34
      try rw [he_Int] at f34
      try rw [he_Iu8] at f34
      refine ⟨_, _, hF _ _ _ _ _ _ f34 (by cases hC; subst he_GOcc he_Int he_Iu8; simp) rfl, ?_⟩
      cbv
      refine hN1 _ _ _ _ _ _ hh (Nat.lt_succ_self _) ?_
      rintro ⟨n, t0, t1, t2, t3, ⟨⟩⟩ e1
      refine cov_of [((0, 0), (0, 0)), ((7, 0), (19, 0))] ?_
      cbv
      all_goals (have e1_0 := congrArg (fun s => s.2.1) e1; dsimp only at e1_0; subst e1_0; have e1_1 := congrArg (fun s => s.2.2.1) e1; dsimp only at e1_1; subst e1_1; have e1_2 := congrArg (fun s => s.2.2.2.1) e1; dsimp only at e1_2; subst e1_2; have e1_3 := congrArg (fun s => s.2.2.2.2.1) e1; dsimp only at e1_3; subst e1_3; cases hC; subst he_GOcc he_Int he_Iu8; (first | (simp; done) | (simp <;> first | rfl | omega | grind)))
    · have f28 : (lt 0 s15) = false := by cases hC; exact decide_eq_false b27
      rw [f28]; cbv
      refine hD1 _ _ _ _ hh ?_
      rintro ⟨t0, t1, t2⟩ e1
      refine cov_of [((0, 0), (0, 0)), ((7, 0), (7, 0))] ?_
      cbv
      all_goals (have e1_0 := congrArg (fun s => s.1) e1; dsimp only at e1_0; subst e1_0; have e1_1 := congrArg (fun s => s.2.1) e1; dsimp only at e1_1; subst e1_1; have e1_2 := congrArg (fun s => s.2.2) e1; dsimp only at e1_2; subst e1_2; cases hC; subst he_GOcc he_Int he_Iu8; (first | (simp; done) | (simp <;> first | rfl | omega | grind)))

theorem c_spec_r0Ids {p0 : Gl14Rd} {r : (List Int) × Gl14Rd} (hh : spec_r0Ids.f p0 = some r) : FunW P 78 [.obox [.tree (r_Iu8 p0.b), .lit (.int .i64 p0.p)]] [.obox [.tree (r_Iu8 r.2.b), .lit (.int .i64 r.2.p)]] (.inl 1 (r_Int r.1)) := by
  obtain ⟨p0_b, p0_p⟩ := p0
  unfold spec_r0Ids.f at hh
  refine fun_go2 eok mixed (ts := [(2, none)]) (rm := [.own]) (gs := [1000000]) (pm := [.own]) Try.func78 (by kernel_rfl) (by kernel_rfl) (by kernel_rfl) ?_
  intro Fn LW len cast toNat wrap add sub mul bin lt eq At set part app fz' rep nadd nmax ssize sext sget scat seq slt Wide Flat Ones Room r' post' hC hF hr hp
  generalize he_Int : r_Int = qInt
  generalize he_Iu8 : r_Iu8 = qIu8
  cbv
  replace hh := bind_some hh
  obtain ⟨⟨x2_0, ⟨x2_1_b, x2_1_p⟩⟩, h1, hh⟩ := hh
  have f3 := c_spec_l14Rd_pick h1
  try rw [he_Int] at f3
  try rw [he_Iu8] at f3
  refine ⟨_, _, hF _ _ _ _ _ _ f3 (by cases hC; subst he_Int he_Iu8; simp) rfl, ?_⟩
  cbv
  replace hh := if_or hh
  rcases hh with ⟨b4, hh⟩ | ⟨b4, hh⟩
  · have f5 : (eq x2_0 0) = true := by cases hC; exact beq_iff_eq.2 b4
    rw [f5]; cbv
    subst hr hp
    cases hh
    cases hC; subst he_Int he_Iu8; first | (simp; done) | (simp <;> first | rfl | omega | grind)
  · have f5 : (eq x2_0 0) = false := by cases hC; exact beq_false_of_ne b4
    rw [f5]; cbv
    replace hh := if_or hh
    rcases hh with ⟨b6, hh⟩ | ⟨b6, hh⟩
    · have f7 : (eq x2_0 1) = true := by cases hC; exact beq_iff_eq.2 b6
      rw [f7]; cbv
      subst hr hp
      cases hh
      cases hC; subst he_Int he_Iu8; first | (simp; done) | (simp <;> first | rfl | omega | grind)
    · have f7 : (eq x2_0 1) = false := by cases hC; exact beq_false_of_ne b6
      rw [f7]; cbv
      subst hr hp
      cases hh
      cases hC; subst he_Int he_Iu8; first | (simp; done) | (simp <;> first | rfl | omega | grind)

theorem c_spec_l3Bent {k : Nat} {p0 : Gl14Rd} {r : (List GOcc) × Gl14Rd} (hh : spec_l3Bent.f k p0 = some r) : FunW P 49 [.obox [.tree (r_Iu8 p0.b), .lit (.int .i64 p0.p)]] [.obox [.tree (r_Iu8 r.2.b), .lit (.int .i64 r.2.p)]] (.inl 3 (r_GOcc r.1)) := by
  obtain ⟨p0_b, p0_p⟩ := p0
  unfold spec_l3Bent.f at hh
  refine fun_go2 eok mixed (ts := [(2, none)]) (rm := [.own]) (gs := [1000000]) (pm := [.own]) Try.func49 (by kernel_rfl) (by kernel_rfl) (by kernel_rfl) ?_
  intro Fn LW len cast toNat wrap add sub mul bin lt eq At set part app fz' rep nadd nmax ssize sext sget scat seq slt Wide Flat Ones Room r' post' hC hF hr hp
  generalize he_GOcc : r_GOcc = qGOcc
  generalize he_Int : r_Int = qInt
  generalize he_Iu8 : r_Iu8 = qIu8
  cbv
  replace hh := bind_some hh
  obtain ⟨⟨x2_0, ⟨x2_1_b, x2_1_p⟩⟩, h1, hh⟩ := hh
  have f3 := c_spec_l3Some h1
  try rw [he_GOcc] at f3
  try rw [he_Int] at f3
  try rw [he_Iu8] at f3
  refine ⟨_, _, hF _ _ _ _ _ _ f3 (by cases hC; subst he_GOcc he_Int he_Iu8; simp) rfl, ?_⟩
  cbv
  replace hh := if_or hh
  rcases hh with ⟨b4, hh⟩ | ⟨b4, hh⟩
  · have f5 : (eq (cast (len (qGOcc x2_0))) 0) = true := by cases hC; subst he_GOcc he_Int he_Iu8; first | exact beq_iff_eq.2 b4 | (simp; done) | (simp; omega) | (simp at b4 ⊢; omega) | (simp at b4 ⊢; exact b4)
    rw [f5]; cbv
    subst hr hp
    cases hh
    cases hC; subst he_GOcc he_Int he_Iu8; first | (simp; done) | (simp <;> first | rfl | omega | grind)
  · have f5 : (eq (cast (len (qGOcc x2_0))) 0) = false := by cases hC; subst he_GOcc he_Int he_Iu8; first | exact beq_false_of_ne b4 | (simp; done) | (simp; omega) | (simp at b4 ⊢; omega) | (simp at b4 ⊢; exact b4)
    rw [f5]; cbv
    replace hh := bind_some hh
    obtain ⟨⟨x7_0, ⟨x7_1_b, x7_1_p⟩⟩, h6, hh⟩ := hh
    have f8 := c_spec_l14Rd_pick h6
    try rw [he_GOcc] at f8
    try rw [he_Int] at f8
    try rw [he_Iu8] at f8
    refine ⟨_, _, hF _ _ _ _ _ _ f8 (by cases hC; subst he_GOcc he_Int he_Iu8; simp) rfl, ?_⟩
    cbv
    replace hh := bind_some hh
    obtain ⟨⟨x10_0, ⟨x10_1_b, x10_1_p⟩⟩, h9, hh⟩ := hh
    have f11 := c_spec_l14Rd_pick h9
    try rw [he_GOcc] at f11
    try rw [he_Int] at f11
    try rw [he_Iu8] at f11
    refine ⟨_, _, hF _ _ _ _ _ _ f11 (by cases hC; subst he_GOcc he_Int he_Iu8; simp) rfl, ?_⟩
    cbv
    replace hh := if_or hh
    rcases hh with ⟨b12, hh⟩ | ⟨b12, hh⟩
    · have f13 : (eq x10_0 0) = true := by cases hC; exact beq_iff_eq.2 b12
      rw [f13]; cbv
      replace hh := req_some hh
      obtain ⟨h14, hh⟩ := hh
      try dsimp only at h14
      replace hh := req_some hh
      obtain ⟨h15, hh⟩ := hh
      replace h15 : x7_0 < (x2_0.length : Nat) := h15
      refine ⟨(by cases hC; subst he_GOcc he_Int he_Iu8; exact decide_eq_false (Int.not_lt.2 (by first | exact h14 | (simp; done) | (simp; omega) | (simp at h14 ⊢; omega) | (simp at h14 ⊢; exact h14)))), (by cases hC; subst he_GOcc he_Int he_Iu8; exact decide_eq_true (by first | exact h15 | (simp; done) | (simp; omega) | (simp at h15 ⊢; omega) | (simp at h15 ⊢; exact h15))), ?_⟩
      replace hh := bind_some hh
      obtain ⟨⟨e16_From, e16_To, e16_Ids⟩, h17, hh⟩ := hh
      refine ⟨[.lit (.int .i64 e16_From), .lit (.int .i64 e16_To), .tree (qInt e16_Ids)], (by cases hC; subst he_GOcc he_Int he_Iu8; first | exact r_GOcc_get h17 | (simp [h17]; done) | (have q := r_GOcc_get h17; rw [r_GOcc_map] at q; simpa [List.map] using q)), ?_⟩
      cbv
      replace hh := bind_some hh
      obtain ⟨⟨x19_0, ⟨x19_1_b, x19_1_p⟩⟩, h18, hh⟩ := hh
      refine ⟨by cases hC; subst he_GOcc he_Int he_Iu8; first | (simp; done) | (simp; first | omega | (simp only [natc] at *; omega)), ?_⟩
      have f20 := c_spec_l14Rd_num h18
      try rw [he_GOcc] at f20
      try rw [he_Int] at f20
      try rw [he_Iu8] at f20
      refine ⟨_, _, hF _ _ _ _ _ _ f20 (by cases hC; subst he_GOcc he_Int he_Iu8; simp) rfl, ?_⟩
      cbv
      replace hh := req_some hh
      obtain ⟨h21, hh⟩ := hh
      try dsimp only at h21
      replace hh := req_some hh
      obtain ⟨h22, hh⟩ := hh
      replace h22 : x7_0 < (x2_0.length : Nat) := h22
      refine ⟨(by cases hC; subst he_GOcc he_Int he_Iu8; exact decide_eq_false (Int.not_lt.2 (by first | exact h21 | (simp; done) | (simp; omega) | (simp at h21 ⊢; omega) | (simp at h21 ⊢; exact h21)))), (by cases hC; subst he_GOcc he_Int he_Iu8; exact decide_eq_true (by first | exact h22 | (simp; done) | (simp; omega) | (simp at h22 ⊢; omega) | (simp at h22 ⊢; exact h22))), ?_⟩
      refine ⟨[.lit (.int .i64 e16_From), .lit (.int .i64 e16_To), .tree (qInt e16_Ids)], (by cases hC; subst he_GOcc he_Int he_Iu8; first | exact r_GOcc_get h17 | (simp [h17]; done) | (have q := r_GOcc_get h17; rw [r_GOcc_map] at q; simpa [List.map] using q)), ?_⟩
      cbv
      subst hr hp
      cases hh
      cases hC; subst he_GOcc he_Int he_Iu8; first | (simp; done) | (simp <;> first | rfl | omega | grind)
    · have f13 : (eq x10_0 0) = false := by cases hC; exact beq_false_of_ne b12
      rw [f13]; cbv
      replace hh := if_or hh
      rcases hh with ⟨b23, hh⟩ | ⟨b23, hh⟩
      · have f24 : (eq x10_0 1) = true := by cases hC; exact beq_iff_eq.2 b23
        rw [f24]; cbv
        replace hh := bind_some hh
        obtain ⟨⟨x26_0, ⟨x26_1_b, x26_1_p⟩⟩, h25, hh⟩ := hh
        have f27 := FunW.frz (r' := .tree (r_Int x26_0)) (c_spec_r0Ids h25) (by simp [-r_Int_map, r_Int_fz])
        try rw [he_GOcc] at f27
        try rw [he_Int] at f27
        try rw [he_Iu8] at f27
        refine ⟨_, _, hF _ _ _ _ _ _ f27 (by cases hC; subst he_GOcc he_Int he_Iu8; simp) rfl, ?_⟩
        cbv
        replace hh := req_some hh
        obtain ⟨h28, hh⟩ := hh
        try dsimp only at h28
        replace hh := req_some hh
        obtain ⟨h29, hh⟩ := hh
        replace h29 : x7_0 < (x2_0.length : Nat) := h29
        refine ⟨(by cases hC; subst he_GOcc he_Int he_Iu8; exact decide_eq_false (Int.not_lt.2 (by first | exact h28 | (simp; done) | (simp; omega) | (simp at h28 ⊢; omega) | (simp at h28 ⊢; exact h28)))), (by cases hC; subst he_GOcc he_Int he_Iu8; exact decide_eq_true (by first | exact h29 | (simp; done) | (simp; omega) | (simp at h29 ⊢; omega) | (simp at h29 ⊢; exact h29))), ?_⟩
        replace hh := bind_some hh
        obtain ⟨⟨e30_From, e30_To, e30_Ids⟩, h31, hh⟩ := hh
        refine ⟨[.lit (.int .i64 e30_From), .lit (.int .i64 e30_To), .tree (qInt e30_Ids)], (by cases hC; subst he_GOcc he_Int he_Iu8; first | exact r_GOcc_get h31 | (simp [h31]; done) | (have q := r_GOcc_get h31; rw [r_GOcc_map] at q; simpa [List.map] using q)), ?_⟩
        cbv
        subst hr hp
        cases hh
        cases hC; subst he_GOcc he_Int he_Iu8; first | (simp; done) | (simp <;> first | rfl | omega | grind)
      · have f24 : (eq x10_0 1) = false := by cases hC; exact beq_false_of_ne b23
        rw [f24]; cbv
        replace hh := if_or hh
        rcases hh with ⟨b32, hh⟩ | ⟨b32, hh⟩
        · have f33 : (eq x10_0 2) = true := by cases hC; exact beq_iff_eq.2 b32
          rw [f33]; cbv
          replace hh := req_some hh
          obtain ⟨h34, hh⟩ := hh
          replace hh := req_some hh
          obtain ⟨h35, hh⟩ := hh
          replace h35 : 0 < (x2_0.length : Nat) := h35
          refine ⟨(by cases hC; subst he_GOcc he_Int he_Iu8; exact decide_eq_false (Int.not_lt.2 (by first | exact h34 | (simp; done) | (simp; omega) | (simp at h34 ⊢; omega) | (simp at h34 ⊢; exact h34)))), (by cases hC; subst he_GOcc he_Int he_Iu8; exact decide_eq_true (by first | exact h35 | (simp; done) | (simp; omega) | (simp at h35 ⊢; omega) | (simp at h35 ⊢; exact h35))), ?_⟩
          replace hh := bind_some hh
          obtain ⟨⟨e36_From, e36_To, e36_Ids⟩, h37, hh⟩ := hh
          refine ⟨[.lit (.int .i64 e36_From), .lit (.int .i64 e36_To), .tree (qInt e36_Ids)], (by cases hC; subst he_GOcc he_Int he_Iu8; first | exact r_GOcc_get h37 | (simp [h37]; done) | (have q := r_GOcc_get h37; rw [r_GOcc_map] at q; simpa [List.map] using q)), ?_⟩
          cbv
          replace hh := req_some hh
          obtain ⟨h38, hh⟩ := hh
          try dsimp only at h38
          refine ⟨⟨(by cases hC; subst he_GOcc he_Int he_Iu8; simp), (by cases hC; subst he_GOcc he_Int he_Iu8; first | exact r_GOcc_ones _ | (simp [ocell]; done))⟩, ?_⟩
          refine ⟨⟨(by cases hC; subst he_GOcc he_Int he_Iu8; first | (simp; done) | (simp; first | omega | (simp only [natc] at *; omega))), by cases hC; subst he_GOcc he_Int he_Iu8; first | exact h38 | (simp; done) | (simp; omega) | (simp at h38 ⊢; omega) | (simp at h38 ⊢; exact h38)⟩, ?_⟩
          subst hr hp
          cases hh
          cases hC; subst he_GOcc he_Int he_Iu8; first | (simp; done) | (simp <;> first | rfl | omega | grind)
        · have f33 : (eq x10_0 2) = false := by cases hC; exact beq_false_of_ne b32
          rw [f33]; cbv
          replace hh := if_or hh
          rcases hh with ⟨b39, hh⟩ | ⟨b39, hh⟩
          · have f40 : (eq x10_0 3) = true := by cases hC; exact beq_iff_eq.2 b39
            rw [f40]; cbv
            replace hh := req_some hh
            obtain ⟨h41, hh⟩ := hh
            try dsimp only at h41
            replace hh := req_some hh
            obtain ⟨h42, hh⟩ := hh
            replace h42 : x7_0 < (x2_0.length : Nat) := h42
            refine ⟨(by cases hC; subst he_GOcc he_Int he_Iu8; exact decide_eq_false (Int.not_lt.2 (by first | exact h41 | (simp; done) | (simp; omega) | (simp at h41 ⊢; omega) | (simp at h41 ⊢; exact h41)))), (by cases hC; subst he_GOcc he_Int he_Iu8; exact decide_eq_true (by first | exact h42 | (simp; done) | (simp; omega) | (simp at h42 ⊢; omega) | (simp at h42 ⊢; exact h42))), ?_⟩
            replace hh := bind_some hh
            obtain ⟨⟨e43_From, e43_To, e43_Ids⟩, h44, hh⟩ := hh
            refine ⟨[.lit (.int .i64 e43_From), .lit (.int .i64 e43_To), .tree (qInt e43_Ids)], (by cases hC; subst he_GOcc he_Int he_Iu8; first | exact r_GOcc_get h44 | (simp [h44]; done) | (have q := r_GOcc_get h44; rw [r_GOcc_map] at q; simpa [List.map] using q)), ?_⟩
            cbv
            subst hr hp
            cases hh
            cases hC; subst he_GOcc he_Int he_Iu8; first | (simp; done) | (simp <;> first | rfl | omega | grind)
          · have f40 : (eq x10_0 3) = false := by cases hC; exact beq_false_of_ne b39
            rw [f40]; cbv
            subst hr hp
            cases hh
            cases hC; subst he_GOcc he_Int he_Iu8; first | (simp; done) | (simp <;> first | rfl | omega | grind)

theorem c_spec_DrawTurnOccs {k : Nat} {p0 : List Int} {r : (List GOcc) × Int} (hh : spec_DrawTurnOccs.f k p0 = some r) : FunW P 20 [.tree (r_Iu8 p0)] [.hole] (.tup [.inl 3 (r_GOcc r.1), .lit (.int .i64 r.2)]) := by
  unfold spec_DrawTurnOccs.f at hh
  refine fun_go2 eok mixed (ts := [(2, none), (3, none)]) (rm := [.own, .own]) (gs := [1000000]) (pm := [.skip]) Try.func20 (by kernel_rfl) (by kernel_rfl) (by kernel_rfl) ?_
  intro Fn LW len cast toNat wrap add sub mul bin lt eq At set part app fz' rep nadd nmax ssize sext sget scat seq slt Wide Flat Ones Room r' post' hC hF hr hp
  generalize he_GOcc : r_GOcc = qGOcc
  generalize he_Iu8 : r_Iu8 = qIu8
  cbv
  replace hh := bind_some hh
  obtain ⟨⟨x2_b, x2_p⟩, h1, hh⟩ := hh
  have f3 := c_spec_l14Open h1
  try rw [he_GOcc] at f3
  try rw [he_Iu8] at f3
  refine ⟨_, _, hF _ _ _ _ _ _ f3 (by cases hC; subst he_GOcc he_Iu8; simp) rfl, ?_⟩
  cbv
  replace hh := bind_some hh
  obtain ⟨⟨x5_0, ⟨x5_1_b, x5_1_p⟩⟩, h4, hh⟩ := hh
  have f6 := c_spec_l3Bent h4
  try rw [he_GOcc] at f6
  try rw [he_Iu8] at f6
  refine ⟨_, _, hF _ _ _ _ _ _ f6 (by cases hC; subst he_GOcc he_Iu8; simp) rfl, ?_⟩
  cbv
  replace hh := bind_some hh
  obtain ⟨⟨x8_0, ⟨x8_1_b, x8_1_p⟩⟩, h7, hh⟩ := hh
  refine ⟨by cases hC; subst he_GOcc he_Iu8; first | (simp; done) | (simp; first | omega | (simp only [natc] at *; omega)), ?_⟩
  have f9 := c_spec_l14Rd_num h7
  try rw [he_GOcc] at f9
  try rw [he_Iu8] at f9
  refine ⟨_, _, hF _ _ _ _ _ _ f9 (by cases hC; subst he_GOcc he_Iu8; simp) rfl, ?_⟩
  cbv
  subst hr hp
  cases hh
  cases hC; subst he_GOcc he_Iu8; first | (simp; done) | (simp <;> first | rfl | omega | grind)

theorem c_impl_OccOk {k : Nat} {p0 : GOcc} {r : Bool} (hh : impl_OccOk.f k p0 = some r) : FunW P 79 [.agg [.lit (.int .i64 p0.From), .lit (.int .i64 p0.To), .tree (r_Int p0.Ids)]] [.hole] (.lit (.bool r)) := by
  obtain ⟨p0_From, p0_To, p0_Ids⟩ := p0
  unfold impl_OccOk.f at hh
  refine fun_go2 eok mixed (ts := [(2, none)]) (rm := [.own]) (gs := [1000000]) (pm := [.skip]) Try.func79 (by kernel_rfl) (by kernel_rfl) (by kernel_rfl) ?_
  intro Fn LW len cast toNat wrap add sub mul bin lt eq At set part app fz' rep nadd nmax ssize sext sget scat seq slt Wide Flat Ones Room r' post' hC hF hr hp
  generalize he_Int : r_Int = qInt
  cbv
  replace hh := bind_some hh
  obtain ⟨o1, hl1, hq1⟩ := hh
  refine loop_go3 hC eok mixed
    (fun s : Nat × Int × Int × Unit => match s with | (_, s11, s12, _) => (⟨[(1, .mptr (1, 0) 1 0 0), (3, .lit (.int .i64 s11)), (7, .tree (qInt p0_Ids)), (8, .lit (.int .i64 (cast (len (qInt p0_Ids))))), (9, .lit (.int .i64 s12))], [((1, 0), .box 1 [.lit (.int .i64 p0_From), .lit (.int .i64 p0_To), .tree (qInt p0_Ids)])]⟩ : St))
    (fun s : Nat × Int × Int × Unit => impl_OccOk.l0 k (⟨p0_From, p0_To, p0_Ids⟩ : GOcc) s.1 s.2.1 s.2.2.1 = some o1)
    (fun s => s.1) (fun _ => .exit 0)
    (fun x : Unit => match x with | _ => (⟨[(1, .mptr (1, 0) 1 0 0)], [((1, 0), .box 1 [.lit (.int .i64 p0_From), .lit (.int .i64 p0_To), .tree (qInt p0_Ids)])]⟩ : St))
    (fun x : Unit => some (.ok x) = some o1)
    (_, _, _, ()) hl1 ?_ ?_ ?_
  · rintro ⟨n, t0, t1, ⟨⟩⟩ e1
    refine cov_of [((1, 0), (1, 0))] ?_
    cbv
    all_goals (have e1_0 := congrArg (fun s => s.2.1) e1; dsimp only at e1_0; subst e1_0; have e1_1 := congrArg (fun s => s.2.2.1) e1; dsimp only at e1_1; subst e1_1; cases hC; subst he_Int; (first | (simp; done) | (simp <;> first | rfl | omega | grind)))
  · rintro ⟨⟩ hx
    have hx := Option.some.inj hx
    subst hx
    have hh := hq1
    cbv
    replace hh := if_or hh
    rcases hh with ⟨b33, hh⟩ | ⟨b33, hh⟩
    · have f34 : (lt p0_From 1) = true := by cases hC; exact decide_eq_true b33
      rw [f34]; cbv
      subst hr hp
      cases hh
      cases hC; subst he_Int; first | (simp; done) | (simp <;> first | rfl | omega | grind)
    · have f34 : (lt p0_From 1) = false := by cases hC; exact decide_eq_false b33
      rw [f34]; cbv
      replace hh := bind_some hh
      obtain ⟨x36, h35, hh⟩ := hh
      have f37 := c_impl_in h35
      try rw [he_Int] at f37
      refine ⟨_, _, hF _ _ _ _ _ _ f37 (by cases hC; subst he_Int; simp) rfl, ?_⟩
      cbv
      replace hh := if_or hh
      rcases hh with ⟨b38, hh⟩ | ⟨b38, hh⟩
      · have f39 : x36 = true := by exact b38
        rw [f39]; cbv
        subst hr hp
        cases hh
        cases hC; subst he_Int; first | (simp; done) | (simp <;> first | rfl | omega | grind)
      · have f39 : x36 = false := by exact Bool.eq_false_iff.2 b38
        rw [f39]; cbv
        subst hr hp
        cases hh
        cases hC; subst he_Int; first | (simp; done) | (simp <;> first | rfl | omega | grind)
  · rintro ⟨n, s11, s12, ⟨⟩⟩ N1 D1 hh hN1 hD1 hQ1
    replace hN1 := fun σ' n' a0 a1 (h : impl_OccOk.l0 k (⟨p0_From, p0_To, p0_Ids⟩ : GOcc) n' a0 a1 = some o1) => hN1 σ' (n', a0, a1, ()) h
    replace hD1 := fun σ'  (h : some (Except.ok ()) = some o1) => hD1 σ' () h
    cases n with
    | zero => dsimp only at hh; unfold impl_OccOk.l0 at hh; cases hh
    | succ n =>
    dsimp only at hh
    unfold impl_OccOk.l0 at hh
    cbv
    replace hh := if_or hh
    rcases hh with ⟨b23, hh⟩ | ⟨b23, hh⟩
    · have f24 : (lt s12 (cast (len (qInt p0_Ids)))) = true := by cases hC; subst he_Int; first | exact decide_eq_true b23 | (simp; done) | (simp; omega) | (simp at b23 ⊢; omega) | (simp at b23 ⊢; exact b23)
      rw [f24]; cbv
      replace hh := req_some hh
      obtain ⟨h25, hh⟩ := hh
      replace hh := bind_some hh
      obtain ⟨e26, h27, hh⟩ := hh
      refine ⟨[.lit (.int .i64 e26)], (by cases hC; subst he_Int; exact decide_eq_false (Int.not_lt.2 (by first | exact h25 | (simp; done) | (simp; omega) | (simp at h25 ⊢; omega) | (simp at h25 ⊢; exact h25)))), (by cases hC; subst he_Int; first | exact r_Int_get h27 | simp [h27]), ?_⟩
      cbv
      replace hh := bind_some hh
      obtain ⟨x29, h28, hh⟩ := hh
      have f30 := c_impl_in h28
      try rw [he_Int] at f30
      refine ⟨_, _, hF _ _ _ _ _ _ f30 (by cases hC; subst he_Int; simp) rfl, ?_⟩
      cbv
      replace hh := if_or hh
      rcases hh with ⟨b31, hh⟩ | ⟨b31, hh⟩
      · have f32 : x29 = true := by exact b31
        rw [f32]; cbv
        refine hN1 _ _ _ _ hh (Nat.lt_succ_self _) ?_
        rintro ⟨n, t0, t1, ⟨⟩⟩ e1
        refine cov_of [((1, 0), (1, 0))] ?_
        cbv
        all_goals (have e1_0 := congrArg (fun s => s.2.1) e1; dsimp only at e1_0; subst e1_0; have e1_1 := congrArg (fun s => s.2.2.1) e1; dsimp only at e1_1; subst e1_1; cases hC; subst he_Int; (first | (simp; done) | (simp <;> first | rfl | omega | grind)))
      · have f32 : x29 = false := by exact Bool.eq_false_iff.2 b31
        rw [f32]; cbv
        cases hh
        have hh : some _ = some _ := hq1
        refine hQ1 _ _ ?_
        cbv
        subst hr hp
        cases hh
        cases hC; subst he_Int; first | (simp; done) | (simp <;> first | rfl | omega | grind)
    · have f24 : (lt s12 (cast (len (qInt p0_Ids)))) = false := by cases hC; subst he_Int; first | exact decide_eq_false b23 | (simp; done) | (simp; omega) | (simp at b23 ⊢; omega) | (simp at b23 ⊢; exact b23)
      rw [f24]; cbv
      refine hD1 _  hh ?_
      rintro ⟨⟩ e1
      refine cov_of [((1, 0), (1, 0))] ?_
      cbv
      all_goals (cases hC; subst he_Int; (first | (simp; done) | (simp <;> first | rfl | omega | grind)))

theorem c_cmp_isNaN {p0 : Int} {r : Bool} (hh : cmp_isNaN.f p0 = some r) : FunW P 99 [.lit (.int .i64 p0)] [.hole] (.lit (.bool r)) := by
  unfold cmp_isNaN.f at hh
  refine fun_go2 eok mixed (ts := [(2, none)]) (rm := [.own]) (gs := [1000000]) (pm := [.skip]) Try.func99 (by kernel_rfl) (by kernel_rfl) (by kernel_rfl) ?_
  intro Fn LW len cast toNat wrap add sub mul bin lt eq At set part app fz' rep nadd nmax ssize sext sget scat seq slt Wide Flat Ones Room r' post' hC hF hr hp
  cbv
  subst hr hp
  cases hh
  cases hC; first | (simp; done) | (simp <;> first | rfl | omega | grind)

theorem c_cmp_Compare {p0 : Int} {p1 : Int} {r : Int} (hh : cmp_Compare.f p0 p1 = some r) : FunW P 92 [.lit (.int .i64 p0), .lit (.int .i64 p1)] [.hole, .hole] (.lit (.int .i64 r)) := by
  unfold cmp_Compare.f at hh
  refine fun_go2 eok mixed (ts := [(4, none)]) (rm := [.own]) (gs := [1000000, 1000001]) (pm := [.skip, .skip]) Try.func92 (by kernel_rfl) (by kernel_rfl) (by kernel_rfl) ?_
  intro Fn LW len cast toNat wrap add sub mul bin lt eq At set part app fz' rep nadd nmax ssize sext sget scat seq slt Wide Flat Ones Room r' post' hC hF hr hp
  cbv
  replace hh := bind_some hh
  obtain ⟨x2, h1, hh⟩ := hh
  have f3 := c_cmp_isNaN h1
  refine ⟨_, _, hF _ _ _ _ _ _ f3 (by cases hC; simp) rfl, ?_⟩
  cbv
  replace hh := bind_some hh
  obtain ⟨x5, h4, hh⟩ := hh
  have f6 := c_cmp_isNaN h4
  refine ⟨_, _, hF _ _ _ _ _ _ f6 (by cases hC; simp) rfl, ?_⟩
  cbv
  replace hh := if_or hh
  rcases hh with ⟨b7, hh⟩ | ⟨b7, hh⟩
  · have f8 : x2 = true := by exact b7
    rw [f8]; cbv
    replace hh := if_or hh
    rcases hh with ⟨b9, hh⟩ | ⟨b9, hh⟩
    · have f10 : x5 = true := by exact b9
      rw [f10]; cbv
      subst hr hp
      cases hh
      cases hC; first | (simp; done) | (simp <;> first | rfl | omega | grind)
    · have f10 : x5 = false := by exact Bool.eq_false_iff.2 b9
      rw [f10]; cbv
      subst hr hp
      cases hh
      cases hC; first | (simp; done) | (simp <;> first | rfl | omega | grind)
  · have f8 : x2 = false := by exact Bool.eq_false_iff.2 b7
    rw [f8]; cbv
    replace hh := if_or hh
    rcases hh with ⟨b11, hh⟩ | ⟨b11, hh⟩
    · have f12 : x5 = true := by exact b11
      rw [f12]; cbv
      subst hr hp
      cases hh
      cases hC; first | (simp; done) | (simp <;> first | rfl | omega | grind)
    · have f12 : x5 = false := by exact Bool.eq_false_iff.2 b11
      rw [f12]; cbv
      replace hh := if_or hh
      rcases hh with ⟨b13, hh⟩ | ⟨b13, hh⟩
      · have f14 : (lt p0 p1) = true := by cases hC; exact decide_eq_true b13
        rw [f14]; cbv
        subst hr hp
        cases hh
        cases hC; first | (simp; done) | (simp <;> first | rfl | omega | grind)
      · have f14 : (lt p0 p1) = false := by cases hC; exact decide_eq_false b13
        rw [f14]; cbv
        replace hh := if_or hh
        rcases hh with ⟨b15, hh⟩ | ⟨b15, hh⟩
        · have f16 : (lt p1 p0) = true := by cases hC; exact decide_eq_true b15
          rw [f16]; cbv
          subst hr hp
          cases hh
          cases hC; first | (simp; done) | (simp <;> first | rfl | omega | grind)
        · have f16 : (lt p1 p0) = false := by cases hC; exact decide_eq_false b15
          rw [f16]; cbv
          subst hr hp
          cases hh
          cases hC; first | (simp; done) | (simp <;> first | rfl | omega | grind)

theorem c_slices_Compare {k : Nat} {p0 : List Int} {p1 : List Int} {r : Int} (hh : slices_Compare.f k p0 p1 = some r) : FunW P 82 [.tree (r_Int p0), .tree (r_Int p1)] [.hole, .hole] (.lit (.int .i64 r)) := by
  unfold slices_Compare.f at hh
  refine fun_go2 eok mixed (ts := [(4, none)]) (rm := [.own]) (gs := [1000000, 1000001]) (pm := [.skip, .skip]) Try.func82 (by kernel_rfl) (by kernel_rfl) (by kernel_rfl) ?_
  intro Fn LW len cast toNat wrap add sub mul bin lt eq At set part app fz' rep nadd nmax ssize sext sget scat seq slt Wide Flat Ones Room r' post' hC hF hr hp
  generalize he_Int : r_Int = qInt
  cbv
  replace hh := bind_some hh
  obtain ⟨o1, hl1, hq1⟩ := hh
  refine loop_go3 hC eok mixed
    (fun s : Nat × Int × Unit => match s with | (_, s16, _) => (⟨[(0, .tree (qInt p0)), (1, .tree (qInt p1)), (9, .tree (qInt p0)), (10, .lit (.int .i64 (cast (len (qInt p0))))), (11, .lit (.int .i64 s16))], []⟩ : St))
    (fun s : Nat × Int × Unit => slices_Compare.l0 k p0 p1 s.1 s.2.1 = some o1)
    (fun s => s.1) (fun _ => .exit 0)
    (fun x : Unit => match x with | _ => (⟨[(0, .tree (qInt p0)), (1, .tree (qInt p1))], []⟩ : St))
    (fun x : Unit => some (.ok x) = some o1)
    (_, _, ()) hl1 ?_ ?_ ?_
  · rintro ⟨n, t0, ⟨⟩⟩ e1
    refine cov_of [] ?_
    cbv
    all_goals (have e1_0 := congrArg (fun s => s.2.1) e1; dsimp only at e1_0; subst e1_0; cases hC; subst he_Int; (first | (simp; done) | (simp <;> first | rfl | omega | grind)))
  · rintro ⟨⟩ hx
    have hx := Option.some.inj hx
    subst hx
    have hh := hq1
    cbv
    replace hh := if_or hh
    rcases hh with ⟨b47, hh⟩ | ⟨b47, hh⟩
    · have f48 : (lt (cast (len (qInt p0))) (cast (len (qInt p1)))) = true := by cases hC; subst he_Int; first | exact decide_eq_true b47 | (simp; done) | (simp; omega) | (simp at b47 ⊢; omega) | (simp at b47 ⊢; exact b47)
      rw [f48]; cbv
      subst hr hp
      cases hh
      cases hC; subst he_Int; first | (simp; done) | (simp <;> first | rfl | omega | grind)
    · have f48 : (lt (cast (len (qInt p0))) (cast (len (qInt p1)))) = false := by cases hC; subst he_Int; first | exact decide_eq_false b47 | (simp; done) | (simp; omega) | (simp at b47 ⊢; omega) | (simp at b47 ⊢; exact b47)
      rw [f48]; cbv
      subst hr hp
      cases hh
      cases hC; subst he_Int; first | (simp; done) | (simp <;> first | rfl | omega | grind)
  · rintro ⟨n, s16, ⟨⟩⟩ N1 D1 hh hN1 hD1 hQ1
    replace hN1 := fun σ' n' a0 (h : slices_Compare.l0 k p0 p1 n' a0 = some o1) => hN1 σ' (n', a0, ()) h
    replace hD1 := fun σ'  (h : some (Except.ok ()) = some o1) => hD1 σ' () h
    cases n with
    | zero => dsimp only at hh; unfold slices_Compare.l0 at hh; cases hh
    | succ n =>
    dsimp only at hh
    unfold slices_Compare.l0 at hh
    cbv
    replace hh := if_or hh
    rcases hh with ⟨b32, hh⟩ | ⟨b32, hh⟩
    · have f33 : (lt s16 (cast (len (qInt p0)))) = true := by cases hC; subst he_Int; first | exact decide_eq_true b32 | (simp; done) | (simp; omega) | (simp at b32 ⊢; omega) | (simp at b32 ⊢; exact b32)
      rw [f33]; cbv
      replace hh := req_some hh
      obtain ⟨h34, hh⟩ := hh
      replace hh := bind_some hh
      obtain ⟨e35, h36, hh⟩ := hh
      refine ⟨[.lit (.int .i64 e35)], (by cases hC; subst he_Int; exact decide_eq_false (Int.not_lt.2 (by first | exact h34 | (simp; done) | (simp; omega) | (simp at h34 ⊢; omega) | (simp at h34 ⊢; exact h34)))), (by cases hC; subst he_Int; first | exact r_Int_get h36 | simp [h36]), ?_⟩
      cbv
      replace hh := if_or hh
      rcases hh with ⟨b37, hh⟩ | ⟨b37, hh⟩
      · have f38 : (lt s16 (cast (len (qInt p1)))) = true := by cases hC; subst he_Int; first | exact decide_eq_true b37 | (simp; done) | (simp; omega) | (simp at b37 ⊢; omega) | (simp at b37 ⊢; exact b37)
        rw [f38]; cbv
        replace hh := req_some hh
        obtain ⟨h39, hh⟩ := hh
        replace hh := bind_some hh
        obtain ⟨e40, h41, hh⟩ := hh
        refine ⟨[.lit (.int .i64 e40)], (by cases hC; subst he_Int; exact decide_eq_false (Int.not_lt.2 (by first | exact h39 | (simp; done) | (simp; omega) | (simp at h39 ⊢; omega) | (simp at h39 ⊢; exact h39)))), (by cases hC; subst he_Int; first | exact r_Int_get h41 | simp [h41]), ?_⟩
        cbv
        replace hh := bind_some hh
        obtain ⟨x43, h42, hh⟩ := hh
        have f44 := c_cmp_Compare h42
        try rw [he_Int] at f44
        refine ⟨_, _, hF _ _ _ _ _ _ f44 (by cases hC; subst he_Int; simp) rfl, ?_⟩
        cbv
        replace hh := if_or hh
        rcases hh with ⟨b45, hh⟩ | ⟨b45, hh⟩
        · have f46 : (eq x43 0) = true := by cases hC; exact beq_iff_eq.2 b45
          rw [f46]; cbv
          refine hN1 _ _ _ hh (Nat.lt_succ_self _) ?_
          rintro ⟨n, t0, ⟨⟩⟩ e1
          refine cov_of [] ?_
          cbv
          all_goals (have e1_0 := congrArg (fun s => s.2.1) e1; dsimp only at e1_0; subst e1_0; cases hC; subst he_Int; (first | (simp; done) | (simp <;> first | rfl | omega | grind)))
        · have f46 : (eq x43 0) = false := by cases hC; exact beq_false_of_ne b45
          rw [f46]; cbv
          cases hh
          have hh : some _ = some _ := hq1
          refine hQ1 _ _ ?_
          cbv
          subst hr hp
          cases hh
          cases hC; subst he_Int; first | (simp; done) | (simp <;> first | rfl | omega | grind)
      · have f38 : (lt s16 (cast (len (qInt p1)))) = false := by cases hC; subst he_Int; first | exact decide_eq_false b37 | (simp; done) | (simp; omega) | (simp at b37 ⊢; omega) | (simp at b37 ⊢; exact b37)
        rw [f38]; cbv
        cases hh
        have hh : some _ = some _ := hq1
        refine hQ1 _ _ ?_
        cbv
        subst hr hp
        cases hh
        cases hC; subst he_Int; first | (simp; done) | (simp <;> first | rfl | omega | grind)
    · have f33 : (lt s16 (cast (len (qInt p0)))) = false := by cases hC; subst he_Int; first | exact decide_eq_false b32 | (simp; done) | (simp; omega) | (simp at b32 ⊢; omega) | (simp at b32 ⊢; exact b32)
      rw [f33]; cbv
      refine hD1 _  hh ?_
      rintro ⟨⟩ e1
      refine cov_of [] ?_
      cbv
      all_goals (cases hC; subst he_Int; (first | (simp; done) | (simp <;> first | rfl | omega | grind)))

theorem c_impl_sign {p0 : Bool} {r : Int} (hh : impl_sign.f p0 = some r) : FunW P 81 [.lit (.bool p0)] [.hole] (.lit (.int .i64 r)) := by
  unfold impl_sign.f at hh
  refine fun_go2 eok mixed (ts := [(2, none)]) (rm := [.own]) (gs := [1000000]) (pm := [.skip]) Try.func81 (by kernel_rfl) (by kernel_rfl) (by kernel_rfl) ?_
  intro Fn LW len cast toNat wrap add sub mul bin lt eq At set part app fz' rep nadd nmax ssize sext sget scat seq slt Wide Flat Ones Room r' post' hC hF hr hp
  cbv
  replace hh := if_or hh
  rcases hh with ⟨b1, hh⟩ | ⟨b1, hh⟩
  · have f2 : p0 = true := by exact b1
    rw [f2]; cbv
    subst hr hp
    cases hh
    cases hC; first | (simp; done) | (simp <;> first | rfl | omega | grind)
  · have f2 : p0 = false := by exact Bool.eq_false_iff.2 b1
    rw [f2]; cbv
    subst hr hp
    cases hh
    cases hC; first | (simp; done) | (simp <;> first | rfl | omega | grind)

theorem c_impl_compare {k : Nat} {p0 : GOcc} {p1 : GOcc} {r : Int} (hh : impl_compare.f k p0 p1 = some r) : FunW P 55 [.agg [.lit (.int .i64 p0.From), .lit (.int .i64 p0.To), .tree (r_Int p0.Ids)], .agg [.lit (.int .i64 p1.From), .lit (.int .i64 p1.To), .tree (r_Int p1.Ids)]] [.hole, .hole] (.lit (.int .i64 r)) := by
  obtain ⟨p0_From, p0_To, p0_Ids⟩ := p0
  obtain ⟨p1_From, p1_To, p1_Ids⟩ := p1
  unfold impl_compare.f at hh
  refine fun_go2 eok mixed (ts := [(4, none)]) (rm := [.own]) (gs := [1000000, 1000001]) (pm := [.skip, .skip]) Try.func55 (by kernel_rfl) (by kernel_rfl) (by kernel_rfl) ?_
  intro Fn LW len cast toNat wrap add sub mul bin lt eq At set part app fz' rep nadd nmax ssize sext sget scat seq slt Wide Flat Ones Room r' post' hC hF hr hp
  generalize he_Int : r_Int = qInt
  cbv
  replace hh := if_or hh
  rcases hh with ⟨b1, hh⟩ | ⟨b1, hh⟩
  · have f2 : (eq p0_To p1_To) = true := by cases hC; exact beq_iff_eq.2 b1
    rw [f2]; cbv
    replace hh := if_or hh
    rcases hh with ⟨b3, hh⟩ | ⟨b3, hh⟩
    · have f4 : (eq p0_From p1_From) = true := by cases hC; exact beq_iff_eq.2 b3
      rw [f4]; cbv
      replace hh := bind_some hh
      obtain ⟨x6, h5, hh⟩ := hh
      have f7 := c_slices_Compare h5
      try rw [he_Int] at f7
      refine ⟨_, _, hF _ _ _ _ _ _ f7 (by cases hC; subst he_Int; simp) rfl, ?_⟩
      cbv
      subst hr hp
      cases hh
      cases hC; subst he_Int; first | (simp; done) | (simp <;> first | rfl | omega | grind)
    · have f4 : (eq p0_From p1_From) = false := by cases hC; exact beq_false_of_ne b3
      rw [f4]; cbv
      replace hh := bind_some hh
      obtain ⟨x9, h8, hh⟩ := hh
      have f10 := c_impl_sign h8
      try rw [he_Int] at f10
      refine ⟨_, _, hF _ _ _ _ _ _ f10 (by cases hC; subst he_Int; simp) rfl, ?_⟩
      cbv
      subst hr hp
      cases hh
      cases hC; subst he_Int; first | (simp; done) | (simp <;> first | rfl | omega | grind)
  · have f2 : (eq p0_To p1_To) = false := by cases hC; exact beq_false_of_ne b1
    rw [f2]; cbv
    replace hh := bind_some hh
    obtain ⟨x12, h11, hh⟩ := hh
    have f13 := c_impl_sign h11
    try rw [he_Int] at f13
    refine ⟨_, _, hF _ _ _ _ _ _ f13 (by cases hC; subst he_Int; simp) rfl, ?_⟩
    cbv
    subst hr hp
    cases hh
    cases hC; subst he_Int; first | (simp; done) | (simp <;> first | rfl | omega | grind)

theorem c_impl_OccLess {k : Nat} {p0 : GOcc} {p1 : GOcc} {r : Bool} (hh : impl_OccLess.f k p0 p1 = some r) : FunW P 24 [.agg [.lit (.int .i64 p0.From), .lit (.int .i64 p0.To), .tree (r_Int p0.Ids)], .agg [.lit (.int .i64 p1.From), .lit (.int .i64 p1.To), .tree (r_Int p1.Ids)]] [.hole, .hole] (.lit (.bool r)) := by
  obtain ⟨p0_From, p0_To, p0_Ids⟩ := p0
  obtain ⟨p1_From, p1_To, p1_Ids⟩ := p1
  unfold impl_OccLess.f at hh
  refine fun_go2 eok mixed (ts := [(4, none)]) (rm := [.own]) (gs := [1000000, 1000001]) (pm := [.skip, .skip]) Try.func24 (by kernel_rfl) (by kernel_rfl) (by kernel_rfl) ?_
  intro Fn LW len cast toNat wrap add sub mul bin lt eq At set part app fz' rep nadd nmax ssize sext sget scat seq slt Wide Flat Ones Room r' post' hC hF hr hp
  generalize he_Int : r_Int = qInt
  cbv
  replace hh := bind_some hh
  obtain ⟨x2, h1, hh⟩ := hh
  have f3 := c_impl_compare h1
  try rw [he_Int] at f3
  refine ⟨_, _, hF _ _ _ _ _ _ f3 (by cases hC; subst he_Int; simp) rfl, ?_⟩
  cbv
  subst hr hp
  cases hh
  cases hC; subst he_Int; first | (simp; done) | (simp <;> first | rfl | omega | grind)

theorem c_impl_OccsOk {k : Nat} {p0 : List GOcc} {r : Bool} (hh : impl_OccsOk.f k p0 = some r) : FunW P 51 [.tree (r_GOcc p0)] [.hole] (.lit (.bool r)) := by
  unfold impl_OccsOk.f at hh
  refine fun_go2 eok mixed (ts := [(2, none)]) (rm := [.own]) (gs := [1000000]) (pm := [.skip]) Try.func51 (by kernel_rfl) (by kernel_rfl) (by kernel_rfl) ?_
  intro Fn LW len cast toNat wrap add sub mul bin lt eq At set part app fz' rep nadd nmax ssize sext sget scat seq slt Wide Flat Ones Room r' post' hC hF hr hp
  generalize he_GOcc : r_GOcc = qGOcc
  generalize he_Int : r_Int = qInt
  cbv
  replace hh := bind_some hh
  obtain ⟨o1, hl1, hq1⟩ := hh
  refine loop_go3 hC eok mixed
    (fun s : Nat × Int × Unit => match s with | (_, s21, _) => (⟨[(0, .tree (qGOcc p0)), (5, .tree (qGOcc p0)), (6, .lit (.int .i64 (cast (len (qGOcc p0))))), (7, .lit (.int .i64 s21))], []⟩ : St))
    (fun s : Nat × Int × Unit => impl_OccsOk.l0 k p0 s.1 s.2.1 = some o1)
    (fun s => s.1) (fun _ => .exit 0)
    (fun x : Unit => match x with | _ => (⟨[(0, .tree (qGOcc p0))], []⟩ : St))
    (fun x : Unit => some (.ok x) = some o1)
    (_, _, ()) hl1 ?_ ?_ ?_
  · rintro ⟨n, t0, ⟨⟩⟩ e1
    refine cov_of [] ?_
    cbv
    all_goals (have e1_0 := congrArg (fun s => s.2.1) e1; dsimp only at e1_0; subst e1_0; cases hC; subst he_GOcc he_Int; (first | (simp; done) | (simp <;> first | rfl | omega | grind)))
  · rintro ⟨⟩ hx
    have hx := Option.some.inj hx
    subst hx
    have hh := hq1
    cbv
    subst hr hp
    cases hh
    cases hC; subst he_GOcc he_Int; first | (simp; done) | (simp <;> first | rfl | omega | grind)
  · rintro ⟨n, s21, ⟨⟩⟩ N1 D1 hh hN1 hD1 hQ1
    replace hN1 := fun σ' n' a0 (h : impl_OccsOk.l0 k p0 n' a0 = some o1) => hN1 σ' (n', a0, ()) h
    replace hD1 := fun σ'  (h : some (Except.ok ()) = some o1) => hD1 σ' () h
    cases n with
    | zero => dsimp only at hh; unfold impl_OccsOk.l0 at hh; cases hh
    | succ n =>
    dsimp only at hh
    unfold impl_OccsOk.l0 at hh
    cbv
    replace hh := if_or hh
    rcases hh with ⟨b42, hh⟩ | ⟨b42, hh⟩
    · have f43 : (lt s21 (cast (len (qGOcc p0)))) = true := by cases hC; subst he_GOcc he_Int; first | exact decide_eq_true b42 | (simp; done) | (simp; omega) | (simp at b42 ⊢; omega) | (simp at b42 ⊢; exact b42)
      rw [f43]; cbv
      replace hh := req_some hh
      obtain ⟨h44, hh⟩ := hh
      replace hh := bind_some hh
      obtain ⟨⟨e45_From, e45_To, e45_Ids⟩, h46, hh⟩ := hh
      refine ⟨[.lit (.int .i64 e45_From), .lit (.int .i64 e45_To), .tree (qInt e45_Ids)], (by cases hC; subst he_GOcc he_Int; exact decide_eq_false (Int.not_lt.2 (by first | exact h44 | (simp; done) | (simp; omega) | (simp at h44 ⊢; omega) | (simp at h44 ⊢; exact h44)))), (by cases hC; subst he_GOcc he_Int; first | exact r_GOcc_get h46 | simp [h46]), ?_⟩
      cbv
      replace hh := bind_some hh
      obtain ⟨x48, h47, hh⟩ := hh
      have f49 := c_impl_OccOk h47
      try rw [he_GOcc] at f49
      try rw [he_Int] at f49
      refine ⟨_, _, hF _ _ _ _ _ _ f49 (by cases hC; subst he_GOcc he_Int; simp) rfl, ?_⟩
      cbv
      replace hh := if_or hh
      rcases hh with ⟨b50, hh⟩ | ⟨b50, hh⟩
      · have f51 : x48 = true := by exact b50
        rw [f51]; cbv
        replace hh := if_or hh
        rcases hh with ⟨b52, hh⟩ | ⟨b52, hh⟩
        · have f53 : (lt 0 s21) = true := by cases hC; exact decide_eq_true b52
          rw [f53]; cbv
          replace hh := req_some hh
          obtain ⟨h54, hh⟩ := hh
          replace hh := bind_some hh
          obtain ⟨⟨e55_From, e55_To, e55_Ids⟩, h56, hh⟩ := hh
          refine ⟨[.lit (.int .i64 e55_From), .lit (.int .i64 e55_To), .tree (qInt e55_Ids)], (by cases hC; subst he_GOcc he_Int; exact decide_eq_false (Int.not_lt.2 (by first | exact h54 | (simp; done) | (simp; omega) | (simp at h54 ⊢; omega) | (simp at h54 ⊢; exact h54)))), (by cases hC; subst he_GOcc he_Int; first | exact r_GOcc_get h56 | simp [h56]), ?_⟩
          cbv
          replace hh := bind_some hh
          obtain ⟨x58, h57, hh⟩ := hh
          have f59 := c_impl_OccLess h57
          try rw [he_GOcc] at f59
          try rw [he_Int] at f59
          refine ⟨_, _, hF _ _ _ _ _ _ f59 (by cases hC; subst he_GOcc he_Int; simp) rfl, ?_⟩
          cbv
          replace hh := if_or hh
          rcases hh with ⟨b60, hh⟩ | ⟨b60, hh⟩
          · have f61 : x58 = true := by exact b60
            rw [f61]; cbv
            refine hN1 _ _ _ hh (Nat.lt_succ_self _) ?_
            rintro ⟨n, t0, ⟨⟩⟩ e1
            refine cov_of [] ?_
            cbv
            all_goals (have e1_0 := congrArg (fun s => s.2.1) e1; dsimp only at e1_0; subst e1_0; cases hC; subst he_GOcc he_Int; (first | (simp; done) | (simp <;> first | rfl | omega | grind)))
          · have f61 : x58 = false := by exact Bool.eq_false_iff.2 b60
            rw [f61]; cbv
            cases hh
            have hh : some _ = some _ := hq1
            refine hQ1 _ _ ?_
            cbv
            subst hr hp
            cases hh
            cases hC; subst he_GOcc he_Int; first | (simp; done) | (simp <;> first | rfl | omega | grind)
        · have f53 : (lt 0 s21) = false := by cases hC; exact decide_eq_false b52
          rw [f53]; cbv
          refine hN1 _ _ _ hh (Nat.lt_succ_self _) ?_
          rintro ⟨n, t0, ⟨⟩⟩ e1
          refine cov_of [] ?_
          cbv
          all_goals (have e1_0 := congrArg (fun s => s.2.1) e1; dsimp only at e1_0; subst e1_0; cases hC; subst he_GOcc he_Int; (first | (simp; done) | (simp <;> first | rfl | omega | grind)))
      · have f51 : x48 = false := by exact Bool.eq_false_iff.2 b50
        rw [f51]; cbv
        cases hh
        have hh : some _ = some _ := hq1
        refine hQ1 _ _ ?_
        cbv
        subst hr hp
        cases hh
        cases hC; subst he_GOcc he_Int; first | (simp; done) | (simp <;> first | rfl | omega | grind)
    · have f43 : (lt s21 (cast (len (qGOcc p0)))) = false := by cases hC; subst he_GOcc he_Int; first | exact decide_eq_false b42 | (simp; done) | (simp; omega) | (simp at b42 ⊢; omega) | (simp at b42 ⊢; exact b42)
      rw [f43]; cbv
      refine hD1 _  hh ?_
      rintro ⟨⟩ e1
      refine cov_of [] ?_
      cbv
      all_goals (cases hC; subst he_GOcc he_Int; (first | (simp; done) | (simp <;> first | rfl | omega | grind)))

theorem c_impl_Occ_clone {p0 : GOcc} {r : GOcc} (hh : impl_Occ_clone.f p0 = some r) : FunW P 80 [.agg [.lit (.int .i64 p0.From), .lit (.int .i64 p0.To), .tree (r_Int p0.Ids)]] [.hole] (.agg [.lit (.int .i64 r.From), .lit (.int .i64 r.To), .inl 1 (r_Int r.Ids)]) := by
  obtain ⟨p0_From, p0_To, p0_Ids⟩ := p0
  unfold impl_Occ_clone.f at hh
  refine fun_go2 eok mixed (ts := [(2, some 44)]) (rm := [.own]) (gs := [1000000]) (pm := [.skip]) Try.func80 (by kernel_rfl) (by kernel_rfl) (by kernel_rfl) ?_
  intro Fn LW len cast toNat wrap add sub mul bin lt eq At set part app fz' rep nadd nmax ssize sext sget scat seq slt Wide Flat Ones Room r' post' hC hF hr hp
  generalize he_Int : r_Int = qInt
  cbv
  replace hh := req_some hh
  obtain ⟨h1, hh⟩ := hh
  try dsimp only at h1
  refine ⟨⟨(by cases hC; subst he_Int; first | exact r_Int_wide _ | (simp; done)), (by cases hC; subst he_Int; first | exact r_Int_ones _ | (simp; done))⟩, ?_⟩
  refine ⟨by cases hC; subst he_Int; first | exact h1 | (simp; done) | (simp; omega) | (simp at h1 ⊢; omega) | (simp at h1 ⊢; exact h1), ?_⟩
  subst hr hp
  cases hh
  cases hC; subst he_Int; first | (simp; done) | (simp <;> first | rfl | omega | grind)

theorem c_impl_cloneOccs {k : Nat} {p0 : List GOcc} {r : List GOcc} (hh : impl_cloneOccs.f k p0 = some r) : FunW P 52 [.tree (r_GOcc p0)] [.hole] (.inl 3 (r_GOccO r)) := by
  unfold impl_cloneOccs.f at hh
  refine fun_go2 eok mixed (ts := [(2, none)]) (rm := [.own]) (gs := [1000000]) (pm := [.skip]) Try.func52 (by kernel_rfl) (by kernel_rfl) (by kernel_rfl) ?_
  intro Fn LW len cast toNat wrap add sub mul bin lt eq At set part app fz' rep nadd nmax ssize sext sget scat seq slt Wide Flat Ones Room r' post' hC hF hr hp
  generalize he_GOcc : r_GOcc = qGOcc
  generalize he_GOccO : r_GOccO = qGOccO
  generalize he_Int : r_Int = qInt
  cbv
  replace hh := bind_some hh
  obtain ⟨o1, hl1, hq1⟩ := hh
  refine loop_go3 hC eok mixed
    (fun s : Nat × (List GOcc) × Int × Unit => match s with | (_, s10, s11, _) => (⟨[(3, .ref (3, 50) 1 0 (len (qGOccO s10))), (6, .tree (qGOcc p0)), (7, .lit (.int .i64 (cast (len (qGOcc p0))))), (8, .lit (.int .i64 s11))], [((3, 50), .arr 1 3 (qGOccO s10))]⟩ : St))
    (fun s : Nat × (List GOcc) × Int × Unit => impl_cloneOccs.l0 k p0 s.1 s.2.1 s.2.2.1 = some o1)
    (fun s => s.1) (fun _ => .exit 0)
    (fun x : List GOcc => match x with | x21 => (⟨[(3, .ref (3, 50) 1 0 (len (qGOccO x21)))], [((3, 50), .arr 1 3 (qGOccO x21))]⟩ : St))
    (fun x : List GOcc => some (x) = some o1)
    (_, _, _, ()) hl1 ?_ ?_ ?_
  · rintro ⟨n, t0, t1, ⟨⟩⟩ e1
    refine cov_of [] ?_
    cbv
    all_goals (have e1_0 := congrArg (fun s => s.2.1) e1; dsimp only at e1_0; subst e1_0; have e1_1 := congrArg (fun s => s.2.2.1) e1; dsimp only at e1_1; subst e1_1; cases hC; subst he_GOcc he_GOccO he_Int; (first | (simp; done) | (simp <;> first | rfl | omega | grind)))
  · rintro x21 hx
    have hx := Option.some.inj hx
    subst hx
    have hh := hq1
    cbv
    subst hr hp
    cases hh
    cases hC; subst he_GOcc he_GOccO he_Int; first | (simp; done) | (simp <;> first | rfl | omega | grind)
  · rintro ⟨n, s10, s11, ⟨⟩⟩ N1 D1 hh hN1 hD1 hQ1
    replace hN1 := fun σ' n' a0 a1 (h : impl_cloneOccs.l0 k p0 n' a0 a1 = some o1) => hN1 σ' (n', a0, a1, ()) h
    replace hD1 := fun σ' (a0 : List GOcc) (h : some (a0) = some o1) => hD1 σ' a0 h
    cases n with
    | zero => dsimp only at hh; unfold impl_cloneOccs.l0 at hh; cases hh
    | succ n =>
    dsimp only at hh
    unfold impl_cloneOccs.l0 at hh
    cbv
    replace hh := if_or hh
    rcases hh with ⟨b22, hh⟩ | ⟨b22, hh⟩
    · have f23 : (lt s11 (cast (len (qGOcc p0)))) = true := by cases hC; subst he_GOcc he_GOccO he_Int; first | exact decide_eq_true b22 | (simp; done) | (simp; omega) | (simp at b22 ⊢; omega) | (simp at b22 ⊢; exact b22)
      rw [f23]; cbv
      replace hh := req_some hh
      obtain ⟨h24, hh⟩ := hh
      replace hh := bind_some hh
      obtain ⟨⟨e25_From, e25_To, e25_Ids⟩, h26, hh⟩ := hh
      refine ⟨[.lit (.int .i64 e25_From), .lit (.int .i64 e25_To), .tree (qInt e25_Ids)], (by cases hC; subst he_GOcc he_GOccO he_Int; exact decide_eq_false (Int.not_lt.2 (by first | exact h24 | (simp; done) | (simp; omega) | (simp at h24 ⊢; omega) | (simp at h24 ⊢; exact h24)))), (by cases hC; subst he_GOcc he_GOccO he_Int; first | exact r_GOcc_get h26 | simp [h26]), ?_⟩
      cbv
      replace hh := bind_some hh
      obtain ⟨⟨x28_From, x28_To, x28_Ids⟩, h27, hh⟩ := hh
      have f29 := c_impl_Occ_clone h27
      try rw [he_GOcc] at f29
      try rw [he_GOccO] at f29
      try rw [he_Int] at f29
      refine ⟨_, _, hF _ _ _ _ _ _ f29 (by cases hC; subst he_GOcc he_GOccO he_Int; simp) rfl, ?_⟩
      cbv
      replace hh := req_some hh
      obtain ⟨h30, hh⟩ := hh
      refine ⟨⟨(by cases hC; subst he_GOcc he_GOccO he_Int; simp), (by cases hC; subst he_GOcc he_GOccO he_Int; first | exact r_GOccO_ones _ | (simp [ocell]; done))⟩, ?_⟩
      refine ⟨⟨(by cases hC; subst he_GOcc he_GOccO he_Int; first | (simp; done) | (simp; first | omega | (simp only [natc] at *; omega))), by cases hC; subst he_GOcc he_GOccO he_Int; first | exact h30 | (simp; done) | (simp; omega) | (simp at h30 ⊢; omega) | (simp at h30 ⊢; exact h30)⟩, ?_⟩
      refine hN1 _ _ _ _ hh (Nat.lt_succ_self _) ?_
      rintro ⟨n, t0, t1, ⟨⟩⟩ e1
      refine cov_of [((3, 50), (16, 0))] ?_
      cbv
      all_goals (have e1_0 := congrArg (fun s => s.2.1) e1; dsimp only at e1_0; subst e1_0; have e1_1 := congrArg (fun s => s.2.2.1) e1; dsimp only at e1_1; subst e1_1; cases hC; subst he_GOcc he_GOccO he_Int; (first | (simp; done) | (simp <;> first | rfl | omega | grind)))
    · have f23 : (lt s11 (cast (len (qGOcc p0)))) = false := by cases hC; subst he_GOcc he_GOccO he_Int; first | exact decide_eq_false b22 | (simp; done) | (simp; omega) | (simp at b22 ⊢; omega) | (simp at b22 ⊢; exact b22)
      rw [f23]; cbv
      refine hD1 _ _ hh ?_
      rintro t0 e1
      refine cov_of [((3, 50), (3, 50))] ?_
      cbv
      all_goals (subst e1; cases hC; subst he_GOcc he_GOccO he_Int; (first | (simp; done) | (simp <;> first | rfl | omega | grind)))

theorem c_impl_TurnOccs {k : Nat} {p0 : List GOcc} {p1 : Int} {r : List GOcc} (hh : impl_TurnOccs.f k p0 p1 = some r) : FunW P 21 [.tree (r_GOcc p0), .lit (.int .i64 p1)] [.hole, .hole] (.inl 3 (r_GOccO r)) := by
  unfold impl_TurnOccs.f at hh
  refine fun_go2 eok mixed (ts := [(4, none)]) (rm := [.own]) (gs := [1000000, 1000001]) (pm := [.skip, .skip]) Try.func21 (by kernel_rfl) (by kernel_rfl) (by kernel_rfl) ?_
  intro Fn LW len cast toNat wrap add sub mul bin lt eq At set part app fz' rep nadd nmax ssize sext sget scat seq slt Wide Flat Ones Room r' post' hC hF hr hp
  generalize he_GOcc : r_GOcc = qGOcc
  generalize he_GOccO : r_GOccO = qGOccO
  generalize he_Int : r_Int = qInt
  cbv
  replace hh := bind_some hh
  obtain ⟨x2, h1, hh⟩ := hh
  have f3 := c_impl_OccsOk h1
  try rw [he_GOcc] at f3
  try rw [he_GOccO] at f3
  try rw [he_Int] at f3
  refine ⟨_, _, hF _ _ _ _ _ _ f3 (by cases hC; subst he_GOcc he_GOccO he_Int; simp) rfl, ?_⟩
  cbv
  replace hh := if_or hh
  rcases hh with ⟨b4, hh⟩ | ⟨b4, hh⟩
  · have f5 : x2 = true := by exact b4
    rw [f5]; cbv
    replace hh := bind_some hh
    obtain ⟨x7, h6, hh⟩ := hh
    have f8 := c_impl_in h6
    try rw [he_GOcc] at f8
    try rw [he_GOccO] at f8
    try rw [he_Int] at f8
    refine ⟨_, _, hF _ _ _ _ _ _ f8 (by cases hC; subst he_GOcc he_GOccO he_Int; simp) rfl, ?_⟩
    cbv
    replace hh := if_or hh
    rcases hh with ⟨b9, hh⟩ | ⟨b9, hh⟩
    · have f10 : x7 = true := by exact b9
      rw [f10]; cbv
      replace hh := bind_some hh
      obtain ⟨x12, h11, hh⟩ := hh
      have f13 := c_impl_cloneOccs h11
      try rw [he_GOcc] at f13
      try rw [he_GOccO] at f13
      try rw [he_Int] at f13
      refine ⟨_, _, hF _ _ _ _ _ _ f13 (by cases hC; subst he_GOcc he_GOccO he_Int; simp) rfl, ?_⟩
      cbv
      replace hh := bind_some hh
      obtain ⟨o1, hl1, hq1⟩ := hh
      refine loop_go3 hC eok mixed
        (fun s : Nat × (List GOcc) × Int × Unit => match s with | (_, s26, s27, _) => (⟨[(1, .lit (.int .i64 p1)), (5, .ref (16, 0) 1 0 (len (qGOccO s26))), (18, .lit (.int .i64 (cast (len (qGOccO x12))))), (19, .lit (.int .i64 s27))], [((16, 0), .arr 1 3 (qGOccO s26))]⟩ : St))
        (fun s : Nat × (List GOcc) × Int × Unit => impl_TurnOccs.l0 k p1 x12 s.1 s.2.1 s.2.2.1 = some o1)
        (fun s => s.1) (fun _ => .exit 0)
        (fun x : List GOcc => match x with | x40 => (⟨[(5, .ref (16, 0) 1 0 (len (qGOccO x40)))], [((16, 0), .arr 1 3 (qGOccO x40))]⟩ : St))
        (fun x : List GOcc => some (x) = some o1)
        (_, _, _, ()) hl1 ?_ ?_ ?_
      · rintro ⟨n, t0, t1, ⟨⟩⟩ e1
        refine cov_of [((16, 0), (16, 0))] ?_
        cbv
        all_goals (have e1_0 := congrArg (fun s => s.2.1) e1; dsimp only at e1_0; subst e1_0; have e1_1 := congrArg (fun s => s.2.2.1) e1; dsimp only at e1_1; subst e1_1; cases hC; subst he_GOcc he_GOccO he_Int; (first | (simp; done) | (simp <;> first | rfl | omega | grind)))
      · rintro x40 hx
        have hx := Option.some.inj hx
        subst hx
        have hh := hq1
        cbv
        subst hr hp
        cases hh
        cases hC; subst he_GOcc he_GOccO he_Int; first | (simp; done) | (simp <;> first | rfl | omega | grind)
      · rintro ⟨n, s26, s27, ⟨⟩⟩ N1 D1 hh hN1 hD1 hQ1
        replace hN1 := fun σ' n' a0 a1 (h : impl_TurnOccs.l0 k p1 x12 n' a0 a1 = some o1) => hN1 σ' (n', a0, a1, ()) h
        replace hD1 := fun σ' (a0 : List GOcc) (h : some (a0) = some o1) => hD1 σ' a0 h
        cases n with
        | zero => dsimp only at hh; unfold impl_TurnOccs.l0 at hh; cases hh
        | succ n =>
        dsimp only at hh
        unfold impl_TurnOccs.l0 at hh
        cbv
        replace hh := if_or hh
        rcases hh with ⟨b41, hh⟩ | ⟨b41, hh⟩
        · have f42 : (lt s27 (cast (len (qGOccO x12)))) = true := by cases hC; subst he_GOcc he_GOccO he_Int; first | exact decide_eq_true b41 | (simp; done) | (simp; omega) | (simp at b41 ⊢; omega) | (simp at b41 ⊢; exact b41)
          rw [f42]; cbv
          replace hh := req_some hh
          obtain ⟨h43, hh⟩ := hh
          replace hh := req_some hh
          obtain ⟨h44, hh⟩ := hh
          replace h44 : s27 < (s26.length : Nat) := h44
          refine ⟨(by cases hC; subst he_GOcc he_GOccO he_Int; exact decide_eq_false (Int.not_lt.2 (by first | exact h43 | (simp; done) | (simp; omega) | (simp at h43 ⊢; omega) | (simp at h43 ⊢; exact h43)))), (by cases hC; subst he_GOcc he_GOccO he_Int; exact decide_eq_true (by first | exact h44 | (simp; done) | (simp; omega) | (simp at h44 ⊢; omega) | (simp at h44 ⊢; exact h44))), ?_⟩
          replace hh := bind_some hh
          obtain ⟨⟨e45_From, e45_To, e45_Ids⟩, h46, hh⟩ := hh
          refine ⟨[.lit (.int .i64 e45_From), .lit (.int .i64 e45_To), .inl 1 (qInt e45_Ids)], (by cases hC; subst he_GOcc he_GOccO he_Int; first | exact r_GOccO_get h46 | (simp [h46]; done) | (have q := r_GOccO_get h46; rw [r_GOccO_map] at q; simpa [List.map] using q)), ?_⟩
          cbv
          replace hh := req_some hh
          obtain ⟨h47, hh⟩ := hh
          replace hh := req_some hh
          obtain ⟨h48, hh⟩ := hh
          replace h48 : s27 < (s26.length : Nat) := h48
          refine ⟨(by cases hC; subst he_GOcc he_GOccO he_Int; exact decide_eq_false (Int.not_lt.2 (by first | exact h47 | (simp; done) | (simp; omega) | (simp at h47 ⊢; omega) | (simp at h47 ⊢; exact h47)))), (by cases hC; subst he_GOcc he_GOccO he_Int; exact decide_eq_true (by first | exact h48 | (simp; done) | (simp; omega) | (simp at h48 ⊢; omega) | (simp at h48 ⊢; exact h48))), ?_⟩
          refine ⟨[.lit (.int .i64 e45_From), .lit (.int .i64 e45_To), .inl 1 (qInt e45_Ids)], (by cases hC; subst he_GOcc he_GOccO he_Int; first | exact r_GOccO_get h46 | (simp [h46]; done) | (have q := r_GOccO_get h46; rw [r_GOccO_map] at q; simpa [List.map] using q)), ?_⟩
          cbv
          replace hh := req_some hh
          obtain ⟨h49, hh⟩ := hh
          replace hh := req_some hh
          obtain ⟨h50, hh⟩ := hh
          replace h50 : s27 < (s26.length : Nat) := h50
          refine ⟨(by cases hC; subst he_GOcc he_GOccO he_Int; exact decide_eq_false (Int.not_lt.2 (by first | exact h49 | (simp; done) | (simp; omega) | (simp at h49 ⊢; omega) | (simp at h49 ⊢; exact h49)))), (by cases hC; subst he_GOcc he_GOccO he_Int; exact decide_eq_true (by first | exact h50 | (simp; done) | (simp; omega) | (simp at h50 ⊢; omega) | (simp at h50 ⊢; exact h50))), ?_⟩
          refine ⟨[.lit (.int .i64 (wrap .i64 (add e45_From p1))), .lit (.int .i64 e45_To), .inl 1 (qInt e45_Ids)], (by cases hC; subst he_GOcc he_GOccO he_Int; first | exact r_GOccO_get h46 | (simp [h46]; done) | (have q := r_GOccO_get h46; rw [r_GOccO_map] at q; simpa [List.map] using q) | (simp [(List.getElem?_eq_some_iff.1 h46).1]; done) | simp [h46, (List.getElem?_eq_some_iff.1 h46).1]), ?_⟩
          cbv
          replace hh := req_some hh
          obtain ⟨h51, hh⟩ := hh
          replace hh := req_some hh
          obtain ⟨h52, hh⟩ := hh
          replace h52 : s27 < (s26.length : Nat) := h52
          refine ⟨(by cases hC; subst he_GOcc he_GOccO he_Int; exact decide_eq_false (Int.not_lt.2 (by first | exact h51 | (simp; done) | (simp; omega) | (simp at h51 ⊢; omega) | (simp at h51 ⊢; exact h51)))), (by cases hC; subst he_GOcc he_GOccO he_Int; exact decide_eq_true (by first | exact h52 | (simp; done) | (simp; omega) | (simp at h52 ⊢; omega) | (simp at h52 ⊢; exact h52))), ?_⟩
          refine ⟨[.lit (.int .i64 (wrap .i64 (add e45_From p1))), .lit (.int .i64 e45_To), .inl 1 (qInt e45_Ids)], (by cases hC; subst he_GOcc he_GOccO he_Int; first | exact r_GOccO_get h46 | (simp [h46]; done) | (have q := r_GOccO_get h46; rw [r_GOccO_map] at q; simpa [List.map] using q) | (simp [(List.getElem?_eq_some_iff.1 h46).1]; done) | simp [h46, (List.getElem?_eq_some_iff.1 h46).1]), ?_⟩
          cbv
          refine hN1 _ _ _ _ hh (Nat.lt_succ_self _) ?_
          rintro ⟨n, t0, t1, ⟨⟩⟩ e1
          refine cov_of [((16, 0), (16, 0))] ?_
          cbv
          all_goals (have e1_0 := congrArg (fun s => s.2.1) e1; dsimp only at e1_0; subst e1_0; have e1_1 := congrArg (fun s => s.2.2.1) e1; dsimp only at e1_1; subst e1_1; cases hC; subst he_GOcc he_GOccO he_Int; (first | (simp; done) | (simp <;> first | rfl | omega | grind)))
        · have f42 : (lt s27 (cast (len (qGOccO x12)))) = false := by cases hC; subst he_GOcc he_GOccO he_Int; first | exact decide_eq_false b41 | (simp; done) | (simp; omega) | (simp at b41 ⊢; omega) | (simp at b41 ⊢; exact b41)
          rw [f42]; cbv
          refine hD1 _ _ hh ?_
          rintro t0 e1
          refine cov_of [((16, 0), (16, 0))] ?_
          cbv
          all_goals (subst e1; cases hC; subst he_GOcc he_GOccO he_Int; (first | (simp; done) | (simp <;> first | rfl | omega | grind)))
    · have f10 : x7 = false := by exact Bool.eq_false_iff.2 b9
      rw [f10]; cbv
      refine ⟨3, ?_⟩
      cbv
      subst hr hp
      cases hh
      cases hC; subst he_GOcc he_GOccO he_Int; first | (simp; done) | (simp <;> first | rfl | omega | grind)
  · have f5 : x2 = false := by exact Bool.eq_false_iff.2 b4
    rw [f5]; cbv
    refine ⟨3, ?_⟩
    cbv
    subst hr hp
    cases hh
    cases hC; subst he_GOcc he_GOccO he_Int; first | (simp; done) | (simp <;> first | rfl | omega | grind)

end Go.Proofs.Ytgbgabkdbfeibaa
