/- The functions of this program do what the plain ones do. -/
import Derived.Test.YtgbgabkdbfeibaaC0
namespace Go.Proofs.Ytgbgabkdbfeibaa
open Go Go.Vm
set_option linter.unusedVariables false
theorem c_spec_OccOk {k : Nat} {p0 : GOcc} {r : Bool} (hh : spec_OccOk.f k p0 = some r) : FunW P 57 [.agg [.lit (.int .i64 p0.From), .lit (.int .i64 p0.To), .tree (r_Int p0.Ids)]] [.hole] (.lit (.bool r)) := by
  obtain ⟨p0_From, p0_To, p0_Ids⟩ := p0
  unfold spec_OccOk.f at hh
  refine fun_go2 eok mixed (ts := [(2, none)]) (rm := [.own]) (gs := [1000000]) (pm := [.skip]) Try.func57 (by kernel_rfl) (by kernel_rfl) (by kernel_rfl) ?_
  intro Fn LW len cast toNat wrap add sub mul bin lt eq At set part app fz' rep nadd nmax ssize sext sget scat seq slt Wide Flat Ones Room r' post' hC hF hr hp
  generalize he_Int : r_Int = qInt
  cbv
  replace hh := if_or hh
  rcases hh with ⟨b1, hh⟩ | ⟨b1, hh⟩
  · have f2 : (lt p0_From 1) = true := by cases hC; exact decide_eq_true b1
    rw [f2]; cbv
    subst hr hp
    cases hh
    cases hC; subst he_Int; first | (simp; done) | (simp <;> first | rfl | omega | grind)
  · have f2 : (lt p0_From 1) = false := by cases hC; exact decide_eq_false b1
    rw [f2]; cbv
    replace hh := if_or hh
    rcases hh with ⟨b3, hh⟩ | ⟨b3, hh⟩
    · have f4 : (lt p0_To p0_From) = true := by cases hC; exact decide_eq_true b3
      rw [f4]; cbv
      subst hr hp
      cases hh
      cases hC; subst he_Int; first | (simp; done) | (simp <;> first | rfl | omega | grind)
    · have f4 : (lt p0_To p0_From) = false := by cases hC; exact decide_eq_false b3
      rw [f4]; cbv
      replace hh := if_or hh
      rcases hh with ⟨b5, hh⟩ | ⟨b5, hh⟩
      · have f6 : (lt 2000 p0_To) = true := by cases hC; exact decide_eq_true b5
        rw [f6]; cbv
        subst hr hp
        cases hh
        cases hC; subst he_Int; first | (simp; done) | (simp <;> first | rfl | omega | grind)
      · have f6 : (lt 2000 p0_To) = false := by cases hC; exact decide_eq_false b5
        rw [f6]; cbv
        replace hh := if_or hh
        rcases hh with ⟨b7, hh⟩ | ⟨b7, hh⟩
        · have f8 : (lt (cast (len (qInt p0_Ids))) 1) = true := by cases hC; subst he_Int; first | exact decide_eq_true b7 | (simp; done) | (simp; omega) | (simp at b7 ⊢; omega) | (simp at b7 ⊢; exact b7)
          rw [f8]; cbv
          subst hr hp
          cases hh
          cases hC; subst he_Int; first | (simp; done) | (simp <;> first | rfl | omega | grind)
        · have f8 : (lt (cast (len (qInt p0_Ids))) 1) = false := by cases hC; subst he_Int; first | exact decide_eq_false b7 | (simp; done) | (simp; omega) | (simp at b7 ⊢; omega) | (simp at b7 ⊢; exact b7)
          rw [f8]; cbv
          replace hh := if_or hh
          rcases hh with ⟨b9, hh⟩ | ⟨b9, hh⟩
          · have f10 : (lt 24 (cast (len (qInt p0_Ids)))) = true := by cases hC; subst he_Int; first | exact decide_eq_true b9 | (simp; done) | (simp; omega) | (simp at b9 ⊢; omega) | (simp at b9 ⊢; exact b9)
            rw [f10]; cbv
            subst hr hp
            cases hh
            cases hC; subst he_Int; first | (simp; done) | (simp <;> first | rfl | omega | grind)
          · have f10 : (lt 24 (cast (len (qInt p0_Ids)))) = false := by cases hC; subst he_Int; first | exact decide_eq_false b9 | (simp; done) | (simp; omega) | (simp at b9 ⊢; omega) | (simp at b9 ⊢; exact b9)
            rw [f10]; cbv
            replace hh := bind_some hh
            obtain ⟨o1, hl1, hq1⟩ := hh
            refine loop_go3 hC eok mixed
              (fun s : Nat × Int × Unit => match s with | (_, s33, _) => (⟨[(1, .mptr (1, 0) 1 0 0), (3, .lit (.int .i64 s33))], [((1, 0), .box 1 [.lit (.int .i64 p0_From), .lit (.int .i64 p0_To), .tree (qInt p0_Ids)])]⟩ : St))
              (fun s : Nat × Int × Unit => spec_OccOk.l0 k (⟨p0_From, p0_To, p0_Ids⟩ : GOcc) s.1 s.2.1 = some o1)
              (fun s => s.1) (fun _ => .exit 0)
              (fun x : Unit => match x with | _ => (⟨[], []⟩ : St))
              (fun x : Unit => some (.ok x) = some o1)
              (_, _, ()) hl1 ?_ ?_ ?_
            · rintro ⟨n, t0, ⟨⟩⟩ e1
              refine cov_of [((1, 0), (1, 0))] ?_
              cbv
              all_goals (have e1_0 := congrArg (fun s => s.2.1) e1; dsimp only at e1_0; subst e1_0; cases hC; subst he_Int; (first | (simp; done) | (simp <;> first | rfl | omega | grind)))
            · rintro ⟨⟩ hx
              have hx := Option.some.inj hx
              subst hx
              have hh := hq1
              cbv
              subst hr hp
              cases hh
              cases hC; subst he_Int; first | (simp; done) | (simp <;> first | rfl | omega | grind)
            · rintro ⟨n, s33, ⟨⟩⟩ N1 D1 hh hN1 hD1 hQ1
              replace hN1 := fun σ' n' a0 (h : spec_OccOk.l0 k (⟨p0_From, p0_To, p0_Ids⟩ : GOcc) n' a0 = some o1) => hN1 σ' (n', a0, ()) h
              replace hD1 := fun σ'  (h : some (Except.ok ()) = some o1) => hD1 σ' () h
              cases n with
              | zero => dsimp only at hh; unfold spec_OccOk.l0 at hh; cases hh
              | succ n =>
              dsimp only at hh
              unfold spec_OccOk.l0 at hh
              cbv
              replace hh := if_or hh
              rcases hh with ⟨b56, hh⟩ | ⟨b56, hh⟩
              · have f57 : (lt s33 (cast (len (qInt p0_Ids)))) = true := by cases hC; subst he_Int; first | exact decide_eq_true b56 | (simp; done) | (simp; omega) | (simp at b56 ⊢; omega) | (simp at b56 ⊢; exact b56)
                rw [f57]; cbv
                replace hh := req_some hh
                obtain ⟨h58, hh⟩ := hh
                replace hh := bind_some hh
                obtain ⟨e59, h60, hh⟩ := hh
                refine ⟨[.lit (.int .i64 e59)], (by cases hC; subst he_Int; exact decide_eq_false (Int.not_lt.2 (by first | exact h58 | (simp; done) | (simp; omega) | (simp at h58 ⊢; omega) | (simp at h58 ⊢; exact h58)))), (by cases hC; subst he_Int; first | exact r_Int_get h60 | simp [h60]), ?_⟩
                cbv
                replace hh := if_or hh
                rcases hh with ⟨b61, hh⟩ | ⟨b61, hh⟩
                · have f62 : (lt e59 0) = true := by cases hC; exact decide_eq_true b61
                  rw [f62]; cbv
                  cases hh
                  have hh : some _ = some _ := hq1
                  refine hQ1 _ _ ?_
                  cbv
                  subst hr hp
                  cases hh
                  cases hC; subst he_Int; first | (simp; done) | (simp <;> first | rfl | omega | grind)
                · have f62 : (lt e59 0) = false := by cases hC; exact decide_eq_false b61
                  rw [f62]; cbv
                  replace hh := req_some hh
                  obtain ⟨h63, hh⟩ := hh
                  replace hh := bind_some hh
                  obtain ⟨e64, h65, hh⟩ := hh
                  refine ⟨[.lit (.int .i64 e64)], (by cases hC; subst he_Int; exact decide_eq_false (Int.not_lt.2 (by first | exact h63 | (simp; done) | (simp; omega) | (simp at h63 ⊢; omega) | (simp at h63 ⊢; exact h63)))), (by cases hC; subst he_Int; first | exact r_Int_get h65 | simp [h65]), ?_⟩
                  cbv
                  replace hh := if_or hh
                  rcases hh with ⟨b66, hh⟩ | ⟨b66, hh⟩
                  · have f67 : (lt e64 24) = true := by cases hC; exact decide_eq_true b66
                    rw [f67]; cbv
                    replace hh := if_or hh
                    rcases hh with ⟨b68, hh⟩ | ⟨b68, hh⟩
                    · have f69 : (lt 0 s33) = true := by cases hC; exact decide_eq_true b68
                      rw [f69]; cbv
                      replace hh := req_some hh
                      obtain ⟨h70, hh⟩ := hh
                      replace hh := bind_some hh
                      obtain ⟨e71, h72, hh⟩ := hh
                      refine ⟨[.lit (.int .i64 e71)], (by cases hC; subst he_Int; exact decide_eq_false (Int.not_lt.2 (by first | exact h70 | (simp; done) | (simp; omega) | (simp at h70 ⊢; omega) | (simp at h70 ⊢; exact h70)))), (by cases hC; subst he_Int; first | exact r_Int_get h72 | simp [h72]), ?_⟩
                      cbv
                      replace hh := req_some hh
                      obtain ⟨h73, hh⟩ := hh
                      replace hh := bind_some hh
                      obtain ⟨e74, h75, hh⟩ := hh
                      refine ⟨[.lit (.int .i64 e74)], (by cases hC; subst he_Int; exact decide_eq_false (Int.not_lt.2 (by first | exact h73 | (simp; done) | (simp; omega) | (simp at h73 ⊢; omega) | (simp at h73 ⊢; exact h73)))), (by cases hC; subst he_Int; first | exact r_Int_get h75 | simp [h75]), ?_⟩
                      cbv
                      replace hh := if_or hh
                      rcases hh with ⟨b76, hh⟩ | ⟨b76, hh⟩
                      · have f77 : (lt e74 e71) = true := by cases hC; exact decide_eq_true b76
                        rw [f77]; cbv
                        refine hN1 _ _ _ hh (Nat.lt_succ_self _) ?_
                        rintro ⟨n, t0, ⟨⟩⟩ e1
                        refine cov_of [((1, 0), (1, 0))] ?_
                        cbv
                        all_goals (have e1_0 := congrArg (fun s => s.2.1) e1; dsimp only at e1_0; subst e1_0; cases hC; subst he_Int; (first | (simp; done) | (simp <;> first | rfl | omega | grind)))
                      · have f77 : (lt e74 e71) = false := by cases hC; exact decide_eq_false b76
                        rw [f77]; cbv
                        cases hh
                        have hh : some _ = some _ := hq1
                        refine hQ1 _ _ ?_
                        cbv
                        subst hr hp
                        cases hh
                        cases hC; subst he_Int; first | (simp; done) | (simp <;> first | rfl | omega | grind)
                    · have f69 : (lt 0 s33) = false := by cases hC; exact decide_eq_false b68
                      rw [f69]; cbv
                      refine hN1 _ _ _ hh (Nat.lt_succ_self _) ?_
                      rintro ⟨n, t0, ⟨⟩⟩ e1
                      refine cov_of [((1, 0), (1, 0))] ?_
                      cbv
                      all_goals (have e1_0 := congrArg (fun s => s.2.1) e1; dsimp only at e1_0; subst e1_0; cases hC; subst he_Int; (first | (simp; done) | (simp <;> first | rfl | omega | grind)))
                  · have f67 : (lt e64 24) = false := by cases hC; exact decide_eq_false b66
                    rw [f67]; cbv
                    cases hh
                    have hh : some _ = some _ := hq1
                    refine hQ1 _ _ ?_
                    cbv
                    subst hr hp
                    cases hh
                    cases hC; subst he_Int; first | (simp; done) | (simp <;> first | rfl | omega | grind)
              · have f57 : (lt s33 (cast (len (qInt p0_Ids)))) = false := by cases hC; subst he_Int; first | exact decide_eq_false b56 | (simp; done) | (simp; omega) | (simp at b56 ⊢; omega) | (simp at b56 ⊢; exact b56)
                rw [f57]; cbv
                refine hD1 _  hh ?_
                rintro ⟨⟩ e1
                refine cov_of [] ?_
                cbv
                all_goals (cases hC; subst he_Int; (first | (simp; done) | (simp <;> first | rfl | omega | grind)))

theorem c_spec_OccsOk {k : Nat} {p0 : List GOcc} {r : Bool} (hh : spec_OccsOk.f k p0 = some r) : FunW P 25 [.tree (r_GOcc p0)] [.hole] (.lit (.bool r)) := by
  unfold spec_OccsOk.f at hh
  refine fun_go2 eok mixed (ts := [(2, none)]) (rm := [.own]) (gs := [1000000]) (pm := [.skip]) Try.func25 (by kernel_rfl) (by kernel_rfl) (by kernel_rfl) ?_
  intro Fn LW len cast toNat wrap add sub mul bin lt eq At set part app fz' rep nadd nmax ssize sext sget scat seq slt Wide Flat Ones Room r' post' hC hF hr hp
  generalize he_GOcc : r_GOcc = qGOcc
  generalize he_Int : r_Int = qInt
  cbv
  replace hh := if_or hh
  rcases hh with ⟨b1, hh⟩ | ⟨b1, hh⟩
  · have f2 : (lt 40 (cast (len (qGOcc p0)))) = true := by cases hC; subst he_GOcc he_Int; first | exact decide_eq_true b1 | (simp; done) | (simp; omega) | (simp at b1 ⊢; omega) | (simp at b1 ⊢; exact b1)
    rw [f2]; cbv
    subst hr hp
    cases hh
    cases hC; subst he_GOcc he_Int; first | (simp; done) | (simp <;> first | rfl | omega | grind)
  · have f2 : (lt 40 (cast (len (qGOcc p0)))) = false := by cases hC; subst he_GOcc he_Int; first | exact decide_eq_false b1 | (simp; done) | (simp; omega) | (simp at b1 ⊢; omega) | (simp at b1 ⊢; exact b1)
    rw [f2]; cbv
    replace hh := bind_some hh
    obtain ⟨o1, hl1, hq1⟩ := hh
    refine loop_go3 hC eok mixed
      (fun s : Nat × Int × Unit => match s with | (_, s26, _) => (⟨[(0, .tree (qGOcc p0)), (3, .lit (.int .i64 s26))], []⟩ : St))
      (fun s : Nat × Int × Unit => spec_OccsOk.l0 k p0 s.1 s.2.1 = some o1)
      (fun s => s.1) (fun _ => .exit 0)
      (fun x : Unit => match x with | _ => (⟨[], []⟩ : St))
      (fun x : Unit => some (.ok x) = some o1)
      (_, _, ()) hl1 ?_ ?_ ?_
    · rintro ⟨n, t0, ⟨⟩⟩ e1
      refine cov_of [] ?_
      cbv
      all_goals (have e1_0 := congrArg (fun s => s.2.1) e1; dsimp only at e1_0; subst e1_0; cases hC; subst he_GOcc he_Int; (first | (simp; done) | (simp <;> first | rfl | omega | grind)))
    · rintro ⟨⟩ hx
      have hx := Option.some.inj hx
      subst hx
      have hh := hq1
      cbv
      subst hr hp
      cases hh
      cases hC; subst he_GOcc he_Int; first | (simp; done) | (simp <;> first | rfl | omega | grind)
    · rintro ⟨n, s26, ⟨⟩⟩ N1 D1 hh hN1 hD1 hQ1
      replace hN1 := fun σ' n' a0 (h : spec_OccsOk.l0 k p0 n' a0 = some o1) => hN1 σ' (n', a0, ()) h
      replace hD1 := fun σ'  (h : some (Except.ok ()) = some o1) => hD1 σ' () h
      cases n with
      | zero => dsimp only at hh; unfold spec_OccsOk.l0 at hh; cases hh
      | succ n =>
      dsimp only at hh
      unfold spec_OccsOk.l0 at hh
      cbv
      replace hh := if_or hh
      rcases hh with ⟨b50, hh⟩ | ⟨b50, hh⟩
      · have f51 : (lt s26 (cast (len (qGOcc p0)))) = true := by cases hC; subst he_GOcc he_Int; first | exact decide_eq_true b50 | (simp; done) | (simp; omega) | (simp at b50 ⊢; omega) | (simp at b50 ⊢; exact b50)
        rw [f51]; cbv
        replace hh := req_some hh
        obtain ⟨h52, hh⟩ := hh
        replace hh := bind_some hh
        obtain ⟨⟨e53_From, e53_To, e53_Ids⟩, h54, hh⟩ := hh
        refine ⟨[.lit (.int .i64 e53_From), .lit (.int .i64 e53_To), .tree (qInt e53_Ids)], (by cases hC; subst he_GOcc he_Int; exact decide_eq_false (Int.not_lt.2 (by first | exact h52 | (simp; done) | (simp; omega) | (simp at h52 ⊢; omega) | (simp at h52 ⊢; exact h52)))), (by cases hC; subst he_GOcc he_Int; first | exact r_GOcc_get h54 | simp [h54]), ?_⟩
        cbv
        replace hh := bind_some hh
        obtain ⟨x56, h55, hh⟩ := hh
        have f57 := c_spec_OccOk h55
        try rw [he_GOcc] at f57
        try rw [he_Int] at f57
        refine ⟨_, _, hF _ _ _ _ _ _ f57 (by cases hC; subst he_GOcc he_Int; simp) rfl, ?_⟩
        cbv
        replace hh := if_or hh
        rcases hh with ⟨b58, hh⟩ | ⟨b58, hh⟩
        · have f59 : x56 = true := by exact b58
          rw [f59]; cbv
          replace hh := if_or hh
          rcases hh with ⟨b60, hh⟩ | ⟨b60, hh⟩
          · have f61 : (lt 0 s26) = true := by cases hC; exact decide_eq_true b60
            rw [f61]; cbv
            replace hh := req_some hh
            obtain ⟨h62, hh⟩ := hh
            replace hh := bind_some hh
            obtain ⟨⟨e63_From, e63_To, e63_Ids⟩, h64, hh⟩ := hh
            refine ⟨[.lit (.int .i64 e63_From), .lit (.int .i64 e63_To), .tree (qInt e63_Ids)], (by cases hC; subst he_GOcc he_Int; exact decide_eq_false (Int.not_lt.2 (by first | exact h62 | (simp; done) | (simp; omega) | (simp at h62 ⊢; omega) | (simp at h62 ⊢; exact h62)))), (by cases hC; subst he_GOcc he_Int; first | exact r_GOcc_get h64 | simp [h64]), ?_⟩
            cbv
            replace hh := req_some hh
            obtain ⟨h65, hh⟩ := hh
            replace hh := bind_some hh
            obtain ⟨⟨e66_From, e66_To, e66_Ids⟩, h67, hh⟩ := hh
            refine ⟨[.lit (.int .i64 e66_From), .lit (.int .i64 e66_To), .tree (qInt e66_Ids)], (by cases hC; subst he_GOcc he_Int; exact decide_eq_false (Int.not_lt.2 (by first | exact h65 | (simp; done) | (simp; omega) | (simp at h65 ⊢; omega) | (simp at h65 ⊢; exact h65)))), (by cases hC; subst he_GOcc he_Int; first | exact r_GOcc_get h67 | simp [h67]), ?_⟩
            cbv
            replace hh := bind_some hh
            obtain ⟨x69, h68, hh⟩ := hh
            have f70 := c_spec_OccLess h68
            try rw [he_GOcc] at f70
            try rw [he_Int] at f70
            refine ⟨_, _, hF _ _ _ _ _ _ f70 (by cases hC; subst he_GOcc he_Int; simp) rfl, ?_⟩
            cbv
            replace hh := if_or hh
            rcases hh with ⟨b71, hh⟩ | ⟨b71, hh⟩
            · have f72 : x69 = true := by exact b71
              rw [f72]; cbv
              refine hN1 _ _ _ hh (Nat.lt_succ_self _) ?_
              rintro ⟨n, t0, ⟨⟩⟩ e1
              refine cov_of [] ?_
              cbv
              all_goals (have e1_0 := congrArg (fun s => s.2.1) e1; dsimp only at e1_0; subst e1_0; cases hC; subst he_GOcc he_Int; (first | (simp; done) | (simp <;> first | rfl | omega | grind)))
            · have f72 : x69 = false := by exact Bool.eq_false_iff.2 b71
              rw [f72]; cbv
              cases hh
              have hh : some _ = some _ := hq1
              refine hQ1 _ _ ?_
              cbv
              subst hr hp
              cases hh
              cases hC; subst he_GOcc he_Int; first | (simp; done) | (simp <;> first | rfl | omega | grind)
          · have f61 : (lt 0 s26) = false := by cases hC; exact decide_eq_false b60
            rw [f61]; cbv
            refine hN1 _ _ _ hh (Nat.lt_succ_self _) ?_
            rintro ⟨n, t0, ⟨⟩⟩ e1
            refine cov_of [] ?_
            cbv
            all_goals (have e1_0 := congrArg (fun s => s.2.1) e1; dsimp only at e1_0; subst e1_0; cases hC; subst he_GOcc he_Int; (first | (simp; done) | (simp <;> first | rfl | omega | grind)))
        · have f59 : x56 = false := by exact Bool.eq_false_iff.2 b58
          rw [f59]; cbv
          cases hh
          have hh : some _ = some _ := hq1
          refine hQ1 _ _ ?_
          cbv
          subst hr hp
          cases hh
          cases hC; subst he_GOcc he_Int; first | (simp; done) | (simp <;> first | rfl | omega | grind)
      · have f51 : (lt s26 (cast (len (qGOcc p0)))) = false := by cases hC; subst he_GOcc he_Int; first | exact decide_eq_false b50 | (simp; done) | (simp; omega) | (simp at b50 ⊢; omega) | (simp at b50 ⊢; exact b50)
        rw [f51]; cbv
        refine hD1 _  hh ?_
        rintro ⟨⟩ e1
        refine cov_of [] ?_
        cbv
        all_goals (cases hC; subst he_GOcc he_Int; (first | (simp; done) | (simp <;> first | rfl | omega | grind)))

theorem c_spec_TurnOccs {k : Nat} {p0 : List GOcc} {p1 : Int} {r : List GOcc} (hh : spec_TurnOccs.f k p0 p1 = some r) : FunW P 23 [.tree (r_GOcc p0), .lit (.int .i64 p1)] [.hole, .hole] (.inl 3 (r_GOccO r)) := by
  unfold spec_TurnOccs.f at hh
  refine fun_go2 eok mixed (ts := [(4, none)]) (rm := [.own]) (gs := [1000000, 1000001]) (pm := [.skip, .skip]) Try.func23 (by kernel_rfl) (by kernel_rfl) (by kernel_rfl) ?_
  intro Fn LW len cast toNat wrap add sub mul bin lt eq At set part app fz' rep nadd nmax ssize sext sget scat seq slt Wide Flat Ones Room r' post' hC hF hr hp
  generalize he_GOcc : r_GOcc = qGOcc
  generalize he_GOccO : r_GOccO = qGOccO
  generalize he_Int : r_Int = qInt
  cbv
  replace hh := bind_some hh
  obtain ⟨x2, h1, hh⟩ := hh
  have f3 := c_spec_OccsOk h1
  try rw [he_GOcc] at f3
  try rw [he_GOccO] at f3
  try rw [he_Int] at f3
  refine ⟨_, _, hF _ _ _ _ _ _ f3 (by cases hC; subst he_GOcc he_GOccO he_Int; simp) rfl, ?_⟩
  cbv
  replace hh := if_or hh
  rcases hh with ⟨b4, hh⟩ | ⟨b4, hh⟩
  · have f5 : x2 = true := by exact b4
    rw [f5]; cbv
    replace hh := if_or hh
    rcases hh with ⟨b6, hh⟩ | ⟨b6, hh⟩
    · have f7 : (lt p1 0) = true := by cases hC; exact decide_eq_true b6
      rw [f7]; cbv
      subst hr hp
      cases hh
      cases hC; subst he_GOcc he_GOccO he_Int; first | (simp; done) | (simp <;> first | rfl | omega | grind)
    · have f7 : (lt p1 0) = false := by cases hC; exact decide_eq_false b6
      rw [f7]; cbv
      replace hh := if_or hh
      rcases hh with ⟨b8, hh⟩ | ⟨b8, hh⟩
      · have f9 : (lt 1000 p1) = true := by cases hC; exact decide_eq_true b8
        rw [f9]; cbv
        subst hr hp
        cases hh
        cases hC; subst he_GOcc he_GOccO he_Int; first | (simp; done) | (simp <;> first | rfl | omega | grind)
      · have f9 : (lt 1000 p1) = false := by cases hC; exact decide_eq_false b8
        rw [f9]; cbv
        replace hh := bind_some hh
        obtain ⟨o1, hl1, hq1⟩ := hh
        refine loop_go3 hC eok mixed
          (fun s : Nat × (List GOcc) × Int × Unit => match s with | (_, s19, s20, _) => (⟨[(0, .tree (qGOcc p0)), (1, .lit (.int .i64 p1)), (5, .ref (8, 0) 1 0 (len (qGOccO s19))), (6, .lit (.int .i64 s20))], [((8, 0), .arr 1 3 (qGOccO s19))]⟩ : St))
          (fun s : Nat × (List GOcc) × Int × Unit => spec_TurnOccs.l0 k p0 p1 s.1 s.2.1 s.2.2.1 = some o1)
          (fun s => s.1) (fun _ => .exit 0)
          (fun x : List GOcc => match x with | x30 => (⟨[(5, .ref (8, 0) 1 0 (len (qGOccO x30)))], [((8, 0), .arr 1 3 (qGOccO x30))]⟩ : St))
          (fun x : List GOcc => some (x) = some o1)
          (_, _, _, ()) hl1 ?_ ?_ ?_
        · rintro ⟨n, t0, t1, ⟨⟩⟩ e1
          refine cov_of [((8, 0), (8, 0))] ?_
          cbv
          all_goals (have e1_0 := congrArg (fun s => s.2.1) e1; dsimp only at e1_0; subst e1_0; have e1_1 := congrArg (fun s => s.2.2.1) e1; dsimp only at e1_1; subst e1_1; cases hC; subst he_GOcc he_GOccO he_Int; (first | (simp; done) | (simp <;> first | rfl | omega | grind)))
        · rintro x30 hx
          have hx := Option.some.inj hx
          subst hx
          have hh := hq1
          cbv
          subst hr hp
          cases hh
          cases hC; subst he_GOcc he_GOccO he_Int; first | (simp; done) | (simp <;> first | rfl | omega | grind)
        · rintro ⟨n, s19, s20, ⟨⟩⟩ N1 D1 hh hN1 hD1 hQ1
          replace hN1 := fun σ' n' a0 a1 (h : spec_TurnOccs.l0 k p0 p1 n' a0 a1 = some o1) => hN1 σ' (n', a0, a1, ()) h
          replace hD1 := fun σ' (a0 : List GOcc) (h : some (a0) = some o1) => hD1 σ' a0 h
          cases n with
          | zero => dsimp only at hh; unfold spec_TurnOccs.l0 at hh; cases hh
          | succ n =>
          dsimp only at hh
          unfold spec_TurnOccs.l0 at hh
          cbv
          replace hh := if_or hh
          rcases hh with ⟨b31, hh⟩ | ⟨b31, hh⟩
          · have f32 : (lt s20 (cast (len (qGOcc p0)))) = true := by cases hC; subst he_GOcc he_GOccO he_Int; first | exact decide_eq_true b31 | (simp; done) | (simp; omega) | (simp at b31 ⊢; omega) | (simp at b31 ⊢; exact b31)
            rw [f32]; cbv
            replace hh := req_some hh
            obtain ⟨h33, hh⟩ := hh
            replace hh := bind_some hh
            obtain ⟨⟨e34_From, e34_To, e34_Ids⟩, h35, hh⟩ := hh
            refine ⟨[.lit (.int .i64 e34_From), .lit (.int .i64 e34_To), .tree (qInt e34_Ids)], (by cases hC; subst he_GOcc he_GOccO he_Int; exact decide_eq_false (Int.not_lt.2 (by first | exact h33 | (simp; done) | (simp; omega) | (simp at h33 ⊢; omega) | (simp at h33 ⊢; exact h33)))), (by cases hC; subst he_GOcc he_GOccO he_Int; first | exact r_GOcc_get h35 | simp [h35]), ?_⟩
            cbv
            replace hh := bind_some hh
            obtain ⟨⟨x37_From, x37_To, x37_Ids⟩, h36, hh⟩ := hh
            have f38 := c_spec_l3Copy h36
            try rw [he_GOcc] at f38
            try rw [he_GOccO] at f38
            try rw [he_Int] at f38
            refine ⟨_, _, hF _ _ _ _ _ _ f38 (by cases hC; subst he_GOcc he_GOccO he_Int; simp) rfl, ?_⟩
            cbv
            replace hh := req_some hh
            obtain ⟨h39, hh⟩ := hh
            refine ⟨⟨(by cases hC; subst he_GOcc he_GOccO he_Int; simp), (by cases hC; subst he_GOcc he_GOccO he_Int; first | exact r_GOccO_ones _ | (simp [ocell]; done))⟩, ?_⟩
            refine ⟨⟨(by cases hC; subst he_GOcc he_GOccO he_Int; first | (simp; done) | (simp; first | omega | (simp only [natc] at *; omega))), by cases hC; subst he_GOcc he_GOccO he_Int; first | exact h39 | (simp; done) | (simp; omega) | (simp at h39 ⊢; omega) | (simp at h39 ⊢; exact h39)⟩, ?_⟩
            refine hN1 _ _ _ _ hh (Nat.lt_succ_self _) ?_
            rintro ⟨n, t0, t1, ⟨⟩⟩ e1
            refine cov_of [((8, 0), (45, 0))] ?_
            cbv
            all_goals (have e1_0 := congrArg (fun s => s.2.1) e1; dsimp only at e1_0; subst e1_0; have e1_1 := congrArg (fun s => s.2.2.1) e1; dsimp only at e1_1; subst e1_1; cases hC; subst he_GOcc he_GOccO he_Int; (first | (simp; done) | (simp <;> first | rfl | omega | grind)))
          · have f32 : (lt s20 (cast (len (qGOcc p0)))) = false := by cases hC; subst he_GOcc he_GOccO he_Int; first | exact decide_eq_false b31 | (simp; done) | (simp; omega) | (simp at b31 ⊢; omega) | (simp at b31 ⊢; exact b31)
            rw [f32]; cbv
            refine hD1 _ _ hh ?_
            rintro t0 e1
            refine cov_of [((8, 0), (8, 0))] ?_
            cbv
            all_goals (subst e1; cases hC; subst he_GOcc he_GOccO he_Int; (first | (simp; done) | (simp <;> first | rfl | omega | grind)))
  · have f5 : x2 = false := by exact Bool.eq_false_iff.2 b4
    rw [f5]; cbv
    subst hr hp
    cases hh
    cases hC; subst he_GOcc he_GOccO he_Int; first | (simp; done) | (simp <;> first | rfl | omega | grind)

theorem c_impl_OccsSame_1 {k : Nat} {p0 : GOcc} {p1 : GOcc} {r : Bool} (hh : impl_OccsSame_1.f k p0 p1 = some r) : FunW P 54 [.agg [.lit (.int .i64 p0.From), .lit (.int .i64 p0.To), .tree (r_Int p0.Ids)], .agg [.lit (.int .i64 p1.From), .lit (.int .i64 p1.To), .tree (r_Int p1.Ids)]] [.hole, .hole] (.lit (.bool r)) := by
  obtain ⟨p0_From, p0_To, p0_Ids⟩ := p0
  obtain ⟨p1_From, p1_To, p1_Ids⟩ := p1
  unfold impl_OccsSame_1.f at hh
  refine fun_go2 eok mixed (ts := [(4, none)]) (rm := [.own]) (gs := [1000000, 1000001]) (pm := [.skip, .skip]) Try.func54 (by kernel_rfl) (by kernel_rfl) (by kernel_rfl) ?_
  intro Fn LW len cast toNat wrap add sub mul bin lt eq At set part app fz' rep nadd nmax ssize sext sget scat seq slt Wide Flat Ones Room r' post' hC hF hr hp
  generalize he_Int : r_Int = qInt
  cbv
  replace hh := bind_some hh
  obtain ⟨x2, h1, hh⟩ := hh
  have f3 := c_impl_compare h1
  try rw [he_Int] at f3
  refine ⟨_, _, hF _ _ _ _ _ _ f3 (by cases hC; subst he_Int; simp) rfl, ?_⟩
  cbv
  subst hr hp
  cases hh
  cases hC; subst he_Int; first | (simp; done) | (simp <;> first | rfl | omega | grind)

theorem c_slices_EqualFunc_impl_OccsSame_1 {k : Nat} {g2 : GOcc → GOcc → Option Bool} (hg2 : ∀ {y0 : GOcc} {y1 : GOcc} {r : Bool}, g2 y0 y1 = some r → FunW P 54 [.agg [.lit (.int .i64 y0.From), .lit (.int .i64 y0.To), .tree (r_Int y0.Ids)], .agg [.lit (.int .i64 y1.From), .lit (.int .i64 y1.To), .tree (r_Int y1.Ids)]] [.hole, .hole] (.lit (.bool r))) {p0 : List GOcc} {p1 : List GOcc} {r : Bool} (hh : slices_EqualFunc.f g2 k p0 p1 = some r) : FunW P 53 [.tree (r_GOcc p0), .tree (r_GOcc p1), .clo 54 []] [.hole, .hole, .hole] (.lit (.bool r)) := by
  unfold slices_EqualFunc.f at hh
  refine fun_go2 eok mixed (ts := [(6, none)]) (rm := [.own]) (gs := [1000000, 1000001, 1000002]) (pm := [.skip, .skip, .skip]) Try.func53 (by kernel_rfl) (by kernel_rfl) (by kernel_rfl) ?_
  intro Fn LW len cast toNat wrap add sub mul bin lt eq At set part app fz' rep nadd nmax ssize sext sget scat seq slt Wide Flat Ones Room r' post' hC hF hr hp
  generalize he_GOcc : r_GOcc = qGOcc
  generalize he_Int : r_Int = qInt
  cbv
  replace hh := if_or hh
  rcases hh with ⟨b1, hh⟩ | ⟨b1, hh⟩
  · have f2 : (eq (cast (len (qGOcc p0))) (cast (len (qGOcc p1)))) = true := by cases hC; subst he_GOcc he_Int; first | exact beq_iff_eq.2 b1 | (simp; done) | (simp; omega) | (simp at b1 ⊢; omega) | (simp at b1 ⊢; exact b1)
    rw [f2]; cbv
    replace hh := bind_some hh
    obtain ⟨o1, hl1, hq1⟩ := hh
    refine loop_go3 hC eok mixed
      (fun s : Nat × Int × Unit => match s with | (_, s16, _) => (⟨[(1, .tree (qGOcc p1)), (2, .clo 54 []), (15, .tree (qGOcc p0)), (16, .lit (.int .i64 (cast (len (qGOcc p0))))), (17, .lit (.int .i64 s16))], []⟩ : St))
      (fun s : Nat × Int × Unit => slices_EqualFunc.l0 k g2 p0 p1 s.1 s.2.1 = some o1)
      (fun s => s.1) (fun _ => .exit 0)
      (fun x : Unit => match x with | _ => (⟨[], []⟩ : St))
      (fun x : Unit => some (.ok x) = some o1)
      (_, _, ()) hl1 ?_ ?_ ?_
    · rintro ⟨n, t0, ⟨⟩⟩ e1
      refine cov_of [] ?_
      cbv
      all_goals (have e1_0 := congrArg (fun s => s.2.1) e1; dsimp only at e1_0; subst e1_0; cases hC; subst he_GOcc he_Int; (first | (simp; done) | (simp <;> first | rfl | omega | grind)))
    · rintro ⟨⟩ hx
      have hx := Option.some.inj hx
      subst hx
      have hh := hq1
      cbv
      subst hr hp
      cases hh
      cases hC; subst he_GOcc he_Int; first | (simp; done) | (simp <;> first | rfl | omega | grind)
    · rintro ⟨n, s16, ⟨⟩⟩ N1 D1 hh hN1 hD1 hQ1
      replace hN1 := fun σ' n' a0 (h : slices_EqualFunc.l0 k g2 p0 p1 n' a0 = some o1) => hN1 σ' (n', a0, ()) h
      replace hD1 := fun σ'  (h : some (Except.ok ()) = some o1) => hD1 σ' () h
      cases n with
      | zero => dsimp only at hh; unfold slices_EqualFunc.l0 at hh; cases hh
      | succ n =>
      dsimp only at hh
      unfold slices_EqualFunc.l0 at hh
      cbv
      replace hh := if_or hh
      rcases hh with ⟨b30, hh⟩ | ⟨b30, hh⟩
      · have f31 : (lt s16 (cast (len (qGOcc p0)))) = true := by cases hC; subst he_GOcc he_Int; first | exact decide_eq_true b30 | (simp; done) | (simp; omega) | (simp at b30 ⊢; omega) | (simp at b30 ⊢; exact b30)
        rw [f31]; cbv
        replace hh := req_some hh
        obtain ⟨h32, hh⟩ := hh
        replace hh := bind_some hh
        obtain ⟨⟨e33_From, e33_To, e33_Ids⟩, h34, hh⟩ := hh
        refine ⟨[.lit (.int .i64 e33_From), .lit (.int .i64 e33_To), .tree (qInt e33_Ids)], (by cases hC; subst he_GOcc he_Int; exact decide_eq_false (Int.not_lt.2 (by first | exact h32 | (simp; done) | (simp; omega) | (simp at h32 ⊢; omega) | (simp at h32 ⊢; exact h32)))), (by cases hC; subst he_GOcc he_Int; first | exact r_GOcc_get h34 | simp [h34]), ?_⟩
        cbv
        replace hh := req_some hh
        obtain ⟨h35, hh⟩ := hh
        replace hh := bind_some hh
        obtain ⟨⟨e36_From, e36_To, e36_Ids⟩, h37, hh⟩ := hh
        refine ⟨[.lit (.int .i64 e36_From), .lit (.int .i64 e36_To), .tree (qInt e36_Ids)], (by cases hC; subst he_GOcc he_Int; exact decide_eq_false (Int.not_lt.2 (by first | exact h35 | (simp; done) | (simp; omega) | (simp at h35 ⊢; omega) | (simp at h35 ⊢; exact h35)))), (by cases hC; subst he_GOcc he_Int; first | exact r_GOcc_get h37 | simp [h37]), ?_⟩
        cbv
        replace hh := bind_some hh
        obtain ⟨x39, h38, hh⟩ := hh
        have f40 := hg2 h38
        try rw [he_GOcc] at f40
        try rw [he_Int] at f40
        refine ⟨_, _, hF _ _ _ _ _ _ f40 (by cases hC; subst he_GOcc he_Int; simp) rfl, ?_⟩
        cbv
        replace hh := if_or hh
        rcases hh with ⟨b41, hh⟩ | ⟨b41, hh⟩
        · have f42 : x39 = true := by exact b41
          rw [f42]; cbv
          refine hN1 _ _ _ hh (Nat.lt_succ_self _) ?_
          rintro ⟨n, t0, ⟨⟩⟩ e1
          refine cov_of [] ?_
          cbv
          all_goals (have e1_0 := congrArg (fun s => s.2.1) e1; dsimp only at e1_0; subst e1_0; cases hC; subst he_GOcc he_Int; (first | (simp; done) | (simp <;> first | rfl | omega | grind)))
        · have f42 : x39 = false := by exact Bool.eq_false_iff.2 b41
          rw [f42]; cbv
          cases hh
          have hh : some _ = some _ := hq1
          refine hQ1 _ _ ?_
          cbv
          subst hr hp
          cases hh
          cases hC; subst he_GOcc he_Int; first | (simp; done) | (simp <;> first | rfl | omega | grind)
      · have f31 : (lt s16 (cast (len (qGOcc p0)))) = false := by cases hC; subst he_GOcc he_Int; first | exact decide_eq_false b30 | (simp; done) | (simp; omega) | (simp at b30 ⊢; omega) | (simp at b30 ⊢; exact b30)
        rw [f31]; cbv
        refine hD1 _  hh ?_
        rintro ⟨⟩ e1
        refine cov_of [] ?_
        cbv
        all_goals (cases hC; subst he_GOcc he_Int; (first | (simp; done) | (simp <;> first | rfl | omega | grind)))
  · have f2 : (eq (cast (len (qGOcc p0))) (cast (len (qGOcc p1)))) = false := by cases hC; subst he_GOcc he_Int; first | exact beq_false_of_ne b1 | (simp; done) | (simp; omega) | (simp at b1 ⊢; omega) | (simp at b1 ⊢; exact b1)
    rw [f2]; cbv
    subst hr hp
    cases hh
    cases hC; subst he_GOcc he_Int; first | (simp; done) | (simp <;> first | rfl | omega | grind)

theorem c_impl_OccsSame {k : Nat} {p0 : List GOcc} {p1 : List GOcc} {r : Bool} (hh : impl_OccsSame.f k p0 p1 = some r) : FunW P 22 [.tree (r_GOcc p0), .tree (r_GOcc p1)] [.hole, .hole] (.lit (.bool r)) := by
  unfold impl_OccsSame.f at hh
  refine fun_go2 eok mixed (ts := [(4, none)]) (rm := [.own]) (gs := [1000000, 1000001]) (pm := [.skip, .skip]) Try.func22 (by kernel_rfl) (by kernel_rfl) (by kernel_rfl) ?_
  intro Fn LW len cast toNat wrap add sub mul bin lt eq At set part app fz' rep nadd nmax ssize sext sget scat seq slt Wide Flat Ones Room r' post' hC hF hr hp
  generalize he_GOcc : r_GOcc = qGOcc
  cbv
  replace hh := bind_some hh
  obtain ⟨x2, h1, hh⟩ := hh
  have f3 := c_slices_EqualFunc_impl_OccsSame_1 (g2 := fun y0 y1 => impl_OccsSame_1.f k y0 y1) (fun h => c_impl_OccsSame_1 h) h1
  try rw [he_GOcc] at f3
  refine ⟨_, _, hF _ _ _ _ _ _ f3 (by cases hC; subst he_GOcc; simp) rfl, ?_⟩
  cbv
  subst hr hp
  cases hh
  cases hC; subst he_GOcc; first | (simp; done) | (simp <;> first | rfl | omega | grind)
theorem c_impl_OccsSame_L0 {k : Nat} {p0 : List GOcc} {p1 : List GOcc} {r : Bool} (hh : impl_OccsSame.f k p0 p1 = some r) : FunW P 22 [.inl 3 (r_GOccO p0), .tree (r_GOcc p1)] [.inl 3 (r_GOccO p0), .hole] (.lit (.bool r)) :=
  (c_impl_OccsSame hh).lend (rfl) (.lend (congrArg A.tree (r_GOccO_fz _).symm) (.same rfl .nil))
theorem c_impl_OccsSame_L0_1 {k : Nat} {p0 : List GOcc} {p1 : List GOcc} {r : Bool} (hh : impl_OccsSame.f k p0 p1 = some r) : FunW P 22 [.inl 3 (r_GOccO p0), .inl 3 (r_GOccO p1)] [.inl 3 (r_GOccO p0), .inl 3 (r_GOccO p1)] (.lit (.bool r)) :=
  (c_impl_OccsSame hh).lend (rfl) (.lend (congrArg A.tree (r_GOccO_fz _).symm) (.lend (congrArg A.tree (r_GOccO_fz _).symm) .nil))
theorem c_impl_OccsSame_L1 {k : Nat} {p0 : List GOcc} {p1 : List GOcc} {r : Bool} (hh : impl_OccsSame.f k p0 p1 = some r) : FunW P 22 [.tree (r_GOcc p0), .inl 3 (r_GOccO p1)] [.hole, .inl 3 (r_GOccO p1)] (.lit (.bool r)) :=
  (c_impl_OccsSame hh).lend (rfl) (.same rfl (.lend (congrArg A.tree (r_GOccO_fz _).symm) .nil))

theorem c_laws_FnTurnOccs {k : Nat} {p0 : List Int} {r : Bool} (hh : laws_FnTurnOccs.f k p0 = some r) : FunW P 5 [.tree (r_Iu8 p0)] [.hole] (.lit (.bool r)) := by
  unfold laws_FnTurnOccs.f at hh
  refine fun_go2 eok mixed (ts := [(2, none)]) (rm := [.own]) (gs := [1000000]) (pm := [.skip]) Try.func5 (by kernel_rfl) (by kernel_rfl) (by kernel_rfl) ?_
  intro Fn LW len cast toNat wrap add sub mul bin lt eq At set part app fz' rep nadd nmax ssize sext sget scat seq slt Wide Flat Ones Room r' post' hC hF hr hp
  generalize he_GOcc : r_GOcc = qGOcc
  generalize he_GOccO : r_GOccO = qGOccO
  generalize he_Int : r_Int = qInt
  generalize he_Iu8 : r_Iu8 = qIu8
  cbv
  replace hh := if_or hh
  rcases hh with ⟨b1, hh⟩ | ⟨b1, hh⟩
  · have f2 : (lt 1048576 (cast (len (qIu8 p0)))) = true := by cases hC; subst he_GOcc he_GOccO he_Int he_Iu8; first | exact decide_eq_true b1 | (simp; done) | (simp; omega) | (simp at b1 ⊢; omega) | (simp at b1 ⊢; exact b1)
    rw [f2]; cbv
    subst hr hp
    cases hh
    cases hC; subst he_GOcc he_GOccO he_Int he_Iu8; first | (simp; done) | (simp <;> first | rfl | omega | grind)
  · have f2 : (lt 1048576 (cast (len (qIu8 p0)))) = false := by cases hC; subst he_GOcc he_GOccO he_Int he_Iu8; first | exact decide_eq_false b1 | (simp; done) | (simp; omega) | (simp at b1 ⊢; omega) | (simp at b1 ⊢; exact b1)
    rw [f2]; cbv
    replace hh := bind_some hh
    obtain ⟨⟨x4_0, x4_1⟩, h3, hh⟩ := hh
    have f5 := FunW.frz (r' := .tup [.tree (r_GOcc x4_0), .lit (.int .i64 x4_1)]) (c_spec_DrawTurnOccs h3) (by simp [-r_GOcc_map, r_GOcc_fz, -r_GOccO_map, r_GOccO_fz])
    try rw [he_GOcc] at f5
    try rw [he_GOccO] at f5
    try rw [he_Int] at f5
    try rw [he_Iu8] at f5
    refine ⟨_, _, hF _ _ _ _ _ _ f5 (by cases hC; subst he_GOcc he_GOccO he_Int he_Iu8; simp) rfl, ?_⟩
    cbv
    replace hh := bind_some hh
    obtain ⟨x7, h6, hh⟩ := hh
    have f8 := FunW.frz (r' := .tree (r_GOcc x7)) (c_impl_TurnOccs h6) (by simp [-r_GOcc_map, r_GOcc_fz, -r_GOccO_map, r_GOccO_fz])
    try rw [he_GOcc] at f8
    try rw [he_GOccO] at f8
    try rw [he_Int] at f8
    try rw [he_Iu8] at f8
    refine ⟨_, _, hF _ _ _ _ _ _ f8 (by cases hC; subst he_GOcc he_GOccO he_Int he_Iu8; simp) rfl, ?_⟩
    cbv
    replace hh := bind_some hh
    obtain ⟨x10, h9, hh⟩ := hh
    have f11 := c_spec_TurnOccs h9
    try rw [he_GOcc] at f11
    try rw [he_GOccO] at f11
    try rw [he_Int] at f11
    try rw [he_Iu8] at f11
    refine ⟨_, _, hF _ _ _ _ _ _ f11 (by cases hC; subst he_GOcc he_GOccO he_Int he_Iu8; simp) rfl, ?_⟩
    cbv
    replace hh := bind_some hh
    obtain ⟨x13, h12, hh⟩ := hh
    have f14 := c_impl_OccsSame_L1 h12
    try rw [he_GOcc] at f14
    try rw [he_GOccO] at f14
    try rw [he_Int] at f14
    try rw [he_Iu8] at f14
    refine ⟨_, _, hF _ _ _ _ _ _ f14 (by cases hC; subst he_GOcc he_GOccO he_Int he_Iu8; simp) rfl, ?_⟩
    cbv
    replace hh := if_or hh
    rcases hh with ⟨b15, hh⟩ | ⟨b15, hh⟩
    · have f16 : x13 = true := by exact b15
      rw [f16]; cbv
      replace hh := bind_some hh
      obtain ⟨o1, hl1, hq1⟩ := hh
      refine loop_go3 hC eok mixed
        (fun s : Nat × Int × Unit => match s with | (_, s30, _) => (⟨[(3, .tree (qGOcc x4_0)), (5, .tree (qGOcc x7)), (6, .lit (.int .i64 s30))], []⟩ : St))
        (fun s : Nat × Int × Unit => laws_FnTurnOccs.l0 k x7 s.1 s.2.1 = some o1)
        (fun s => s.1) (fun _ => .exit 0)
        (fun x : Unit => match x with | _ => (⟨[(3, .tree (qGOcc x4_0)), (5, .tree (qGOcc x7))], []⟩ : St))
        (fun x : Unit => some (.ok x) = some o1)
        (_, _, ()) hl1 ?_ ?_ ?_
      · rintro ⟨n, t0, ⟨⟩⟩ e1
        refine cov_of [] ?_
        cbv
        all_goals (have e1_0 := congrArg (fun s => s.2.1) e1; dsimp only at e1_0; subst e1_0; cases hC; subst he_GOcc he_GOccO he_Int he_Iu8; (first | (simp; done) | (simp <;> first | rfl | omega | grind)))
      · rintro ⟨⟩ hx
        have hx := Option.some.inj hx
        subst hx
        have hh := hq1
        cbv
        replace hh := bind_some hh
        obtain ⟨o1, hl1, hq1⟩ := hh
        refine loop_go3 hC eok mixed
          (fun s : Nat × Int × Unit => match s with | (_, s81, _) => (⟨[(3, .tree (qGOcc x4_0)), (5, .tree (qGOcc x7)), (7, .lit (.int .i64 s81))], []⟩ : St))
          (fun s : Nat × Int × Unit => laws_FnTurnOccs.l1 k (⟨x4_0, x4_1⟩ : (List GOcc) × Int) x7 s.1 s.2.1 = some o1)
          (fun s => s.1) (fun _ => .exit 2)
          (fun x : Unit => match x with | _ => (⟨[(3, .tree (qGOcc x4_0))], []⟩ : St))
          (fun x : Unit => some (.ok x) = some o1)
          (_, _, ()) hl1 ?_ ?_ ?_
        · rintro ⟨n, t0, ⟨⟩⟩ e1
          refine cov_of [] ?_
          cbv
          all_goals (have e1_0 := congrArg (fun s => s.2.1) e1; dsimp only at e1_0; subst e1_0; cases hC; subst he_GOcc he_GOccO he_Int he_Iu8; (first | (simp; done) | (simp <;> first | rfl | omega | grind)))
        · rintro ⟨⟩ hx
          have hx := Option.some.inj hx
          subst hx
          have hh := hq1
          cbv
          replace hh := bind_some hh
          obtain ⟨x131, h130, hh⟩ := hh
          have f132 := c_spec_OccsOk h130
          try rw [he_GOcc] at f132
          try rw [he_GOccO] at f132
          try rw [he_Int] at f132
          try rw [he_Iu8] at f132
          refine ⟨_, _, hF _ _ _ _ _ _ f132 (by cases hC; subst he_GOcc he_GOccO he_Int he_Iu8; simp) rfl, ?_⟩
          cbv
          replace hh := if_or hh
          rcases hh with ⟨b133, hh⟩ | ⟨b133, hh⟩
          · have f134 : x131 = true := by exact b133
            rw [f134]; cbv
            replace hh := bind_some hh
            obtain ⟨x136, h135, hh⟩ := hh
            have f137 := c_impl_TurnOccs h135
            try rw [he_GOcc] at f137
            try rw [he_GOccO] at f137
            try rw [he_Int] at f137
            try rw [he_Iu8] at f137
            refine ⟨_, _, hF _ _ _ _ _ _ f137 (by cases hC; subst he_GOcc he_GOccO he_Int he_Iu8; simp) rfl, ?_⟩
            cbv
            replace hh := bind_some hh
            obtain ⟨x139, h138, hh⟩ := hh
            have f140 := c_impl_OccsSame_L0 h138
            try rw [he_GOcc] at f140
            try rw [he_GOccO] at f140
            try rw [he_Int] at f140
            try rw [he_Iu8] at f140
            refine ⟨_, _, hF _ _ _ _ _ _ f140 (by cases hC; subst he_GOcc he_GOccO he_Int he_Iu8; simp) rfl, ?_⟩
            cbv
            subst hr hp
            cases hh
            cases hC; subst he_GOcc he_GOccO he_Int he_Iu8; first | (simp; done) | (simp <;> first | rfl | omega | grind)
          · have f134 : x131 = false := by exact Bool.eq_false_iff.2 b133
            rw [f134]; cbv
            subst hr hp
            cases hh
            cases hC; subst he_GOcc he_GOccO he_Int he_Iu8; first | (simp; done) | (simp <;> first | rfl | omega | grind)
        · rintro ⟨n, s81, ⟨⟩⟩ N1 D1 hh hN1 hD1 hQ1
          replace hN1 := fun σ' n' a0 (h : laws_FnTurnOccs.l1 k (⟨x4_0, x4_1⟩ : (List GOcc) × Int) x7 n' a0 = some o1) => hN1 σ' (n', a0, ()) h
          replace hD1 := fun σ'  (h : some (Except.ok ()) = some o1) => hD1 σ' () h
          cases n with
          | zero => dsimp only at hh; unfold laws_FnTurnOccs.l1 at hh; cases hh
          | succ n =>
          dsimp only at hh
          unfold laws_FnTurnOccs.l1 at hh
          cbv
          replace hh := if_or hh
          rcases hh with ⟨b106, hh⟩ | ⟨b106, hh⟩
          · have f107 : (lt s81 (cast (len (qGOcc x7)))) = true := by cases hC; subst he_GOcc he_GOccO he_Int he_Iu8; first | exact decide_eq_true b106 | (simp; done) | (simp; omega) | (simp at b106 ⊢; omega) | (simp at b106 ⊢; exact b106)
            rw [f107]; cbv
            replace hh := req_some hh
            obtain ⟨h108, hh⟩ := hh
            replace hh := bind_some hh
            obtain ⟨⟨e109_From, e109_To, e109_Ids⟩, h110, hh⟩ := hh
            refine ⟨[.lit (.int .i64 e109_From), .lit (.int .i64 e109_To), .tree (qInt e109_Ids)], (by cases hC; subst he_GOcc he_GOccO he_Int he_Iu8; exact decide_eq_false (Int.not_lt.2 (by first | exact h108 | (simp; done) | (simp; omega) | (simp at h108 ⊢; omega) | (simp at h108 ⊢; exact h108)))), (by cases hC; subst he_GOcc he_GOccO he_Int he_Iu8; first | exact r_GOcc_get h110 | simp [h110]), ?_⟩
            cbv
            replace hh := req_some hh
            obtain ⟨h111, hh⟩ := hh
            replace hh := bind_some hh
            obtain ⟨⟨e112_From, e112_To, e112_Ids⟩, h113, hh⟩ := hh
            refine ⟨[.lit (.int .i64 e112_From), .lit (.int .i64 e112_To), .tree (qInt e112_Ids)], (by cases hC; subst he_GOcc he_GOccO he_Int he_Iu8; exact decide_eq_false (Int.not_lt.2 (by first | exact h111 | (simp; done) | (simp; omega) | (simp at h111 ⊢; omega) | (simp at h111 ⊢; exact h111)))), (by cases hC; subst he_GOcc he_GOccO he_Int he_Iu8; first | exact r_GOcc_get h113 | simp [h113]), ?_⟩
            cbv
            replace hh := req_some hh
            obtain ⟨h114, hh⟩ := hh
            replace hh := bind_some hh
            obtain ⟨⟨e115_From, e115_To, e115_Ids⟩, h116, hh⟩ := hh
            refine ⟨[.lit (.int .i64 e115_From), .lit (.int .i64 e115_To), .tree (qInt e115_Ids)], (by cases hC; subst he_GOcc he_GOccO he_Int he_Iu8; exact decide_eq_false (Int.not_lt.2 (by first | exact h114 | (simp; done) | (simp; omega) | (simp at h114 ⊢; omega) | (simp at h114 ⊢; exact h114)))), (by cases hC; subst he_GOcc he_GOccO he_Int he_Iu8; first | exact r_GOcc_get h116 | simp [h116]), ?_⟩
            cbv
            replace hh := req_some hh
            obtain ⟨h117, hh⟩ := hh
            replace hh := bind_some hh
            obtain ⟨⟨e118_From, e118_To, e118_Ids⟩, h119, hh⟩ := hh
            refine ⟨[.lit (.int .i64 e118_From), .lit (.int .i64 e118_To), .tree (qInt e118_Ids)], (by cases hC; subst he_GOcc he_GOccO he_Int he_Iu8; exact decide_eq_false (Int.not_lt.2 (by first | exact h117 | (simp; done) | (simp; omega) | (simp at h117 ⊢; omega) | (simp at h117 ⊢; exact h117)))), (by cases hC; subst he_GOcc he_GOccO he_Int he_Iu8; first | exact r_GOcc_get h119 | simp [h119]), ?_⟩
            cbv
            replace hh := if_or hh
            rcases hh with ⟨b120, hh⟩ | ⟨b120, hh⟩
            · have f121 : (eq (wrap .i64 (sub e109_To e112_From)) (wrap .i64 (sub e115_To e118_From))) = true := by cases hC; exact beq_iff_eq.2 b120
              rw [f121]; cbv
              replace hh := req_some hh
              obtain ⟨h122, hh⟩ := hh
              replace hh := bind_some hh
              obtain ⟨⟨e123_From, e123_To, e123_Ids⟩, h124, hh⟩ := hh
              refine ⟨[.lit (.int .i64 e123_From), .lit (.int .i64 e123_To), .tree (qInt e123_Ids)], (by cases hC; subst he_GOcc he_GOccO he_Int he_Iu8; exact decide_eq_false (Int.not_lt.2 (by first | exact h122 | (simp; done) | (simp; omega) | (simp at h122 ⊢; omega) | (simp at h122 ⊢; exact h122)))), (by cases hC; subst he_GOcc he_GOccO he_Int he_Iu8; first | exact r_GOcc_get h124 | simp [h124]), ?_⟩
              cbv
              replace hh := req_some hh
              obtain ⟨h125, hh⟩ := hh
              replace hh := bind_some hh
              obtain ⟨⟨e126_From, e126_To, e126_Ids⟩, h127, hh⟩ := hh
              refine ⟨[.lit (.int .i64 e126_From), .lit (.int .i64 e126_To), .tree (qInt e126_Ids)], (by cases hC; subst he_GOcc he_GOccO he_Int he_Iu8; exact decide_eq_false (Int.not_lt.2 (by first | exact h125 | (simp; done) | (simp; omega) | (simp at h125 ⊢; omega) | (simp at h125 ⊢; exact h125)))), (by cases hC; subst he_GOcc he_GOccO he_Int he_Iu8; first | exact r_GOcc_get h127 | simp [h127]), ?_⟩
              cbv
              replace hh := if_or hh
              rcases hh with ⟨b128, hh⟩ | ⟨b128, hh⟩
              · have f129 : (eq (cast (len (qInt e123_Ids))) (cast (len (qInt e126_Ids)))) = true := by cases hC; subst he_GOcc he_GOccO he_Int he_Iu8; first | exact beq_iff_eq.2 b128 | (simp; done) | (simp; omega) | (simp at b128 ⊢; omega) | (simp at b128 ⊢; exact b128)
                rw [f129]; cbv
                refine hN1 _ _ _ hh (Nat.lt_succ_self _) ?_
                rintro ⟨n, t0, ⟨⟩⟩ e1
                refine cov_of [] ?_
                cbv
                all_goals (have e1_0 := congrArg (fun s => s.2.1) e1; dsimp only at e1_0; subst e1_0; cases hC; subst he_GOcc he_GOccO he_Int he_Iu8; (first | (simp; done) | (simp <;> first | rfl | omega | grind)))
              · have f129 : (eq (cast (len (qInt e123_Ids))) (cast (len (qInt e126_Ids)))) = false := by cases hC; subst he_GOcc he_GOccO he_Int he_Iu8; first | exact beq_false_of_ne b128 | (simp; done) | (simp; omega) | (simp at b128 ⊢; omega) | (simp at b128 ⊢; exact b128)
                rw [f129]; cbv
                cases hh
                have hh : some _ = some _ := hq1
                refine hQ1 _ _ ?_
                cbv
                subst hr hp
                cases hh
                cases hC; subst he_GOcc he_GOccO he_Int he_Iu8; first | (simp; done) | (simp <;> first | rfl | omega | grind)
            · have f121 : (eq (wrap .i64 (sub e109_To e112_From)) (wrap .i64 (sub e115_To e118_From))) = false := by cases hC; exact beq_false_of_ne b120
              rw [f121]; cbv
              cases hh
              have hh : some _ = some _ := hq1
              refine hQ1 _ _ ?_
              cbv
              subst hr hp
              cases hh
              cases hC; subst he_GOcc he_GOccO he_Int he_Iu8; first | (simp; done) | (simp <;> first | rfl | omega | grind)
          · have f107 : (lt s81 (cast (len (qGOcc x7)))) = false := by cases hC; subst he_GOcc he_GOccO he_Int he_Iu8; first | exact decide_eq_false b106 | (simp; done) | (simp; omega) | (simp at b106 ⊢; omega) | (simp at b106 ⊢; exact b106)
            rw [f107]; cbv
            refine hD1 _  hh ?_
            rintro ⟨⟩ e1
            refine cov_of [] ?_
            cbv
            all_goals (cases hC; subst he_GOcc he_GOccO he_Int he_Iu8; (first | (simp; done) | (simp <;> first | rfl | omega | grind)))
      · rintro ⟨n, s30, ⟨⟩⟩ N1 D1 hh hN1 hD1 hQ1
        replace hN1 := fun σ' n' a0 (h : laws_FnTurnOccs.l0 k x7 n' a0 = some o1) => hN1 σ' (n', a0, ()) h
        replace hD1 := fun σ'  (h : some (Except.ok ()) = some o1) => hD1 σ' () h
        cases n with
        | zero => dsimp only at hh; unfold laws_FnTurnOccs.l0 at hh; cases hh
        | succ n =>
        dsimp only at hh
        unfold laws_FnTurnOccs.l0 at hh
        cbv
        replace hh := if_or hh
        rcases hh with ⟨b44, hh⟩ | ⟨b44, hh⟩
        · have f45 : (lt s30 (cast (len (qGOcc x7)))) = true := by cases hC; subst he_GOcc he_GOccO he_Int he_Iu8; first | exact decide_eq_true b44 | (simp; done) | (simp; omega) | (simp at b44 ⊢; omega) | (simp at b44 ⊢; exact b44)
          rw [f45]; cbv
          replace hh := req_some hh
          obtain ⟨h46, hh⟩ := hh
          replace hh := bind_some hh
          obtain ⟨⟨e47_From, e47_To, e47_Ids⟩, h48, hh⟩ := hh
          refine ⟨[.lit (.int .i64 e47_From), .lit (.int .i64 e47_To), .tree (qInt e47_Ids)], (by cases hC; subst he_GOcc he_GOccO he_Int he_Iu8; exact decide_eq_false (Int.not_lt.2 (by first | exact h46 | (simp; done) | (simp; omega) | (simp at h46 ⊢; omega) | (simp at h46 ⊢; exact h46)))), (by cases hC; subst he_GOcc he_GOccO he_Int he_Iu8; first | exact r_GOcc_get h48 | simp [h48]), ?_⟩
          cbv
          replace hh := req_some hh
          obtain ⟨h49, hh⟩ := hh
          replace hh := bind_some hh
          obtain ⟨⟨e50_From, e50_To, e50_Ids⟩, h51, hh⟩ := hh
          refine ⟨[.lit (.int .i64 e50_From), .lit (.int .i64 e50_To), .tree (qInt e50_Ids)], (by cases hC; subst he_GOcc he_GOccO he_Int he_Iu8; exact decide_eq_false (Int.not_lt.2 (by first | exact h49 | (simp; done) | (simp; omega) | (simp at h49 ⊢; omega) | (simp at h49 ⊢; exact h49)))), (by cases hC; subst he_GOcc he_GOccO he_Int he_Iu8; first | exact r_GOcc_get h51 | simp [h51]), ?_⟩
          cbv
          replace hh := bind_some hh
          obtain ⟨x53, h52, hh⟩ := hh
          have f54 := c_impl_OccLess h52
          try rw [he_GOcc] at f54
          try rw [he_GOccO] at f54
          try rw [he_Int] at f54
          try rw [he_Iu8] at f54
          refine ⟨_, _, hF _ _ _ _ _ _ f54 (by cases hC; subst he_GOcc he_GOccO he_Int he_Iu8; simp) rfl, ?_⟩
          cbv
          replace hh := if_or hh
          rcases hh with ⟨b55, hh⟩ | ⟨b55, hh⟩
          · have f56 : x53 = true := by exact b55
            rw [f56]; cbv
            refine hN1 _ _ _ hh (Nat.lt_succ_self _) ?_
            rintro ⟨n, t0, ⟨⟩⟩ e1
            refine cov_of [] ?_
            cbv
            all_goals (have e1_0 := congrArg (fun s => s.2.1) e1; dsimp only at e1_0; subst e1_0; cases hC; subst he_GOcc he_GOccO he_Int he_Iu8; (first | (simp; done) | (simp <;> first | rfl | omega | grind)))
          · have f56 : x53 = false := by exact Bool.eq_false_iff.2 b55
            rw [f56]; cbv
            cases hh
            have hh : some _ = some _ := hq1
            refine hQ1 _ _ ?_
            cbv
            subst hr hp
            cases hh
            cases hC; subst he_GOcc he_GOccO he_Int he_Iu8; first | (simp; done) | (simp <;> first | rfl | omega | grind)
        · have f45 : (lt s30 (cast (len (qGOcc x7)))) = false := by cases hC; subst he_GOcc he_GOccO he_Int he_Iu8; first | exact decide_eq_false b44 | (simp; done) | (simp; omega) | (simp at b44 ⊢; omega) | (simp at b44 ⊢; exact b44)
          rw [f45]; cbv
          refine hD1 _  hh ?_
          rintro ⟨⟩ e1
          refine cov_of [] ?_
          cbv
          all_goals (cases hC; subst he_GOcc he_GOccO he_Int he_Iu8; (first | (simp; done) | (simp <;> first | rfl | omega | grind)))
    · have f16 : x13 = false := by exact Bool.eq_false_iff.2 b15
      rw [f16]; cbv
      subst hr hp
      cases hh
      cases hC; subst he_GOcc he_GOccO he_Int he_Iu8; first | (simp; done) | (simp <;> first | rfl | omega | grind)

end Go.Proofs.Ytgbgabkdbfeibaa
