/- The functions of this program do what the plain ones do. -/
import Derived.Test.YtgbgabkdbfeibaaC0
namespace Go.Proofs.Ytgbgabkdbfeibaa
open Go Go.Vm
set_option linter.unusedVariables false
theorem c_laws_heldOccS {k : Nat} {p0 : List GOcc} {p1 : Int} {r : Int} (hh : laws_heldOccS.f k p0 p1 = some r) : FunW P 37 [.tree (r_GOcc p0), .lit (.int .i64 p1)] [.hole, .hole] (.lit (.int .i64 r)) := by
  unfold laws_heldOccS.f at hh
  refine fun_go2 eok mixed (ts := [(4, none)]) (rm := [.own]) (gs := [1000000, 1000001]) (pm := [.skip, .skip]) Try.func37 (by kernel_rfl) (by kernel_rfl) (by kernel_rfl) ?_
  intro Fn LW len cast toNat wrap add sub mul bin lt eq At set part app fz' rep nadd nmax ssize sext sget scat seq slt Wide Flat Ones Room r' post' hC hF hr hp
  generalize he_GOcc : r_GOcc = qGOcc
  generalize he_Int : r_Int = qInt
  cbv
  replace hh := bind_some hh
  obtain ⟨o1, hl1, hq1⟩ := hh
  refine loop_go3 hC eok mixed
    (fun s : Nat × Int × Int × Unit => match s with | (_, s21, s22, _) => (⟨[(0, .tree (qGOcc p0)), (1, .lit (.int .i64 s21)), (5, .lit (.int .i64 s22))], []⟩ : St))
    (fun s : Nat × Int × Int × Unit => laws_heldOccS.l0 k p0 s.1 s.2.1 s.2.2.1 = some o1)
    (fun s => s.1) (fun _ => .exit 0)
    (fun x : Int => match x with | x43 => (⟨[(1, .lit (.int .i64 x43))], []⟩ : St))
    (fun x : Int => some (.ok x) = some o1)
    (_, _, _, ()) hl1 ?_ ?_ ?_
  · rintro ⟨n, t0, t1, ⟨⟩⟩ e1
    refine cov_of [] ?_
    cbv
    all_goals (have e1_0 := congrArg (fun s => s.2.1) e1; dsimp only at e1_0; subst e1_0; have e1_1 := congrArg (fun s => s.2.2.1) e1; dsimp only at e1_1; subst e1_1; cases hC; subst he_GOcc he_Int; (first | (simp; done) | (simp <;> first | rfl | omega | grind)))
  · rintro x43 hx
    have hx := Option.some.inj hx
    subst hx
    have hh := hq1
    cbv
    subst hr hp
    cases hh
    cases hC; subst he_GOcc he_Int; first | (simp; done) | (simp <;> first | rfl | omega | grind)
  · rintro ⟨n, s21, s22, ⟨⟩⟩ N1 D1 hh hN1 hD1 hQ1
    replace hN1 := fun σ' n' a0 a1 (h : laws_heldOccS.l0 k p0 n' a0 a1 = some o1) => hN1 σ' (n', a0, a1, ()) h
    replace hD1 := fun σ' (a0 : Int) (h : some (Except.ok a0) = some o1) => hD1 σ' a0 h
    cases n with
    | zero => dsimp only at hh; unfold laws_heldOccS.l0 at hh; cases hh
    | succ n =>
    dsimp only at hh
    unfold laws_heldOccS.l0 at hh
    cbv
    replace hh := if_or hh
    rcases hh with ⟨b44, hh⟩ | ⟨b44, hh⟩
    · have f45 : (lt s22 (cast (len (qGOcc p0)))) = true := by cases hC; subst he_GOcc he_Int; first | exact decide_eq_true b44 | (simp; done) | (simp; omega) | (simp at b44 ⊢; omega) | (simp at b44 ⊢; exact b44)
      rw [f45]; cbv
      replace hh := req_some hh
      obtain ⟨h46, hh⟩ := hh
      replace hh := bind_some hh
      obtain ⟨⟨e47_From, e47_To, e47_Ids⟩, h48, hh⟩ := hh
      refine ⟨[.lit (.int .i64 e47_From), .lit (.int .i64 e47_To), .tree (qInt e47_Ids)], (by cases hC; subst he_GOcc he_Int; exact decide_eq_false (Int.not_lt.2 (by first | exact h46 | (simp; done) | (simp; omega) | (simp at h46 ⊢; omega) | (simp at h46 ⊢; exact h46)))), (by cases hC; subst he_GOcc he_Int; first | exact r_GOcc_get h48 | simp [h48]), ?_⟩
      cbv
      replace hh := if_or hh
      rcases hh with ⟨b49, hh⟩ | ⟨b49, hh⟩
      · have f50 : (eq e47_From s21) = true := by cases hC; exact beq_iff_eq.2 b49
        rw [f50]; cbv
        replace hh := req_some hh
        obtain ⟨h51, hh⟩ := hh
        replace hh := bind_some hh
        obtain ⟨⟨e52_From, e52_To, e52_Ids⟩, h53, hh⟩ := hh
        refine ⟨[.lit (.int .i64 e52_From), .lit (.int .i64 e52_To), .tree (qInt e52_Ids)], (by cases hC; subst he_GOcc he_Int; exact decide_eq_false (Int.not_lt.2 (by first | exact h51 | (simp; done) | (simp; omega) | (simp at h51 ⊢; omega) | (simp at h51 ⊢; exact h51)))), (by cases hC; subst he_GOcc he_Int; first | exact r_GOcc_get h53 | simp [h53]), ?_⟩
        cbv
        replace hh := if_or hh
        rcases hh with ⟨b54, hh⟩ | ⟨b54, hh⟩
        · have f55 : (eq e52_To (wrap .i64 (add s21 1))) = true := by cases hC; exact beq_iff_eq.2 b54
          rw [f55]; cbv
          replace hh := req_some hh
          obtain ⟨h56, hh⟩ := hh
          replace hh := bind_some hh
          obtain ⟨⟨e57_From, e57_To, e57_Ids⟩, h58, hh⟩ := hh
          refine ⟨[.lit (.int .i64 e57_From), .lit (.int .i64 e57_To), .tree (qInt e57_Ids)], (by cases hC; subst he_GOcc he_Int; exact decide_eq_false (Int.not_lt.2 (by first | exact h56 | (simp; done) | (simp; omega) | (simp at h56 ⊢; omega) | (simp at h56 ⊢; exact h56)))), (by cases hC; subst he_GOcc he_Int; first | exact r_GOcc_get h58 | simp [h58]), ?_⟩
          cbv
          replace hh := bind_some hh
          obtain ⟨x60, h59, hh⟩ := hh
          have f61 := c_laws_heldIntS h59
          try rw [he_GOcc] at f61
          try rw [he_Int] at f61
          refine ⟨_, _, hF _ _ _ _ _ _ f61 (by cases hC; subst he_GOcc he_Int; simp) rfl, ?_⟩
          cbv
          replace hh := if_or hh
          rcases hh with ⟨b62, hh⟩ | ⟨b62, hh⟩
          · have f63 : (lt x60 0) = true := by cases hC; exact decide_eq_true b62
            rw [f63]; cbv
            cases hh
            have hh : some _ = some _ := hq1
            refine hQ1 _ _ ?_
            cbv
            subst hr hp
            cases hh
            cases hC; subst he_GOcc he_Int; first | (simp; done) | (simp <;> first | rfl | omega | grind)
          · have f63 : (lt x60 0) = false := by cases hC; exact decide_eq_false b62
            rw [f63]; cbv
            refine hN1 _ _ _ _ hh (Nat.lt_succ_self _) ?_
            rintro ⟨n, t0, t1, ⟨⟩⟩ e1
            refine cov_of [] ?_
            cbv
            all_goals (have e1_0 := congrArg (fun s => s.2.1) e1; dsimp only at e1_0; subst e1_0; have e1_1 := congrArg (fun s => s.2.2.1) e1; dsimp only at e1_1; subst e1_1; cases hC; subst he_GOcc he_Int; (first | (simp; done) | (simp <;> first | rfl | omega | grind)))
        · have f55 : (eq e52_To (wrap .i64 (add s21 1))) = false := by cases hC; exact beq_false_of_ne b54
          rw [f55]; cbv
          cases hh
          have hh : some _ = some _ := hq1
          refine hQ1 _ _ ?_
          cbv
          subst hr hp
          cases hh
          cases hC; subst he_GOcc he_Int; first | (simp; done) | (simp <;> first | rfl | omega | grind)
      · have f50 : (eq e47_From s21) = false := by cases hC; exact beq_false_of_ne b49
        rw [f50]; cbv
        cases hh
        have hh : some _ = some _ := hq1
        refine hQ1 _ _ ?_
        cbv
        subst hr hp
        cases hh
        cases hC; subst he_GOcc he_Int; first | (simp; done) | (simp <;> first | rfl | omega | grind)
    · have f45 : (lt s22 (cast (len (qGOcc p0)))) = false := by cases hC; subst he_GOcc he_Int; first | exact decide_eq_false b44 | (simp; done) | (simp; omega) | (simp at b44 ⊢; omega) | (simp at b44 ⊢; exact b44)
      rw [f45]; cbv
      refine hD1 _ _ hh ?_
      rintro t0 e1
      refine cov_of [] ?_
      cbv
      all_goals (subst e1; cases hC; subst he_GOcc he_Int; (first | (simp; done) | (simp <;> first | rfl | omega | grind)))
theorem c_laws_heldOccS_L0 {k : Nat} {p0 : List GOcc} {p1 : Int} {r : Int} (hh : laws_heldOccS.f k p0 p1 = some r) : FunW P 37 [.inl 3 (r_GOccO p0), .lit (.int .i64 p1)] [.inl 3 (r_GOccO p0), .hole] (.lit (.int .i64 r)) :=
  (c_laws_heldOccS hh).lend (rfl) (.lend (congrArg A.tree (r_GOccO_fz _).symm) (.same rfl .nil))

theorem c_laws_FnExactTurnOccs {k : Nat} {p0 : List GOcc} {p1 : Int} {r : Bool} (hh : laws_FnExactTurnOccs.f k p0 p1 = some r) : FunW P 7 [.tree (r_GOcc p0), .lit (.int .i64 p1)] [.hole, .hole] (.lit (.bool r)) := by
  unfold laws_FnExactTurnOccs.f at hh
  refine fun_go2 eok mixed (ts := [(4, none)]) (rm := [.own]) (gs := [1000000, 1000001]) (pm := [.skip, .skip]) Try.func7 (by kernel_rfl) (by kernel_rfl) (by kernel_rfl) ?_
  intro Fn LW len cast toNat wrap add sub mul bin lt eq At set part app fz' rep nadd nmax ssize sext sget scat seq slt Wide Flat Ones Room r' post' hC hF hr hp
  generalize he_GOcc : r_GOcc = qGOcc
  generalize he_GOccO : r_GOccO = qGOccO
  cbv
  replace hh := bind_some hh
  obtain ⟨x2, h1, hh⟩ := hh
  have f3 := c_laws_szOccS h1
  try rw [he_GOcc] at f3
  try rw [he_GOccO] at f3
  refine ⟨_, _, hF _ _ _ _ _ _ f3 (by cases hC; subst he_GOcc he_GOccO; simp) rfl, ?_⟩
  cbv
  replace hh := if_or hh
  rcases hh with ⟨b4, hh⟩ | ⟨b4, hh⟩
  · have f5 : (lt x2 0) = true := by cases hC; exact decide_eq_true b4
    rw [f5]; cbv
    subst hr hp
    cases hh
    cases hC; subst he_GOcc he_GOccO; first | (simp; done) | (simp <;> first | rfl | omega | grind)
  · have f5 : (lt x2 0) = false := by cases hC; exact decide_eq_false b4
    rw [f5]; cbv
    replace hh := bind_some hh
    obtain ⟨x7, h6, hh⟩ := hh
    have f8 := c_laws_toOccS h6
    try rw [he_GOcc] at f8
    try rw [he_GOccO] at f8
    refine ⟨_, _, hF _ _ _ _ _ _ f8 (by cases hC; subst he_GOcc he_GOccO; simp) rfl, ?_⟩
    cbv
    replace hh := bind_some hh
    obtain ⟨x10, h9, hh⟩ := hh
    have f11 := c_spec_TurnOccs_L0 h9
    try rw [he_GOcc] at f11
    try rw [he_GOccO] at f11
    refine ⟨_, _, hF _ _ _ _ _ _ f11 (by cases hC; subst he_GOcc he_GOccO; simp) rfl, ?_⟩
    cbv
    replace hh := bind_some hh
    obtain ⟨x13, h12, hh⟩ := hh
    have f14 := c_laws_toOccS h12
    try rw [he_GOcc] at f14
    try rw [he_GOccO] at f14
    refine ⟨_, _, hF _ _ _ _ _ _ f14 (by cases hC; subst he_GOcc he_GOccO; simp) rfl, ?_⟩
    cbv
    replace hh := bind_some hh
    obtain ⟨x16, h15, hh⟩ := hh
    have f17 := c_impl_TurnOccs_L0 h15
    try rw [he_GOcc] at f17
    try rw [he_GOccO] at f17
    refine ⟨_, _, hF _ _ _ _ _ _ f17 (by cases hC; subst he_GOcc he_GOccO; simp) rfl, ?_⟩
    cbv
    replace hh := bind_some hh
    obtain ⟨x19, h18, hh⟩ := hh
    have f20 := c_laws_eqOccS_L0_1 h18
    try rw [he_GOcc] at f20
    try rw [he_GOccO] at f20
    refine ⟨_, _, hF _ _ _ _ _ _ f20 (by cases hC; subst he_GOcc he_GOccO; simp) rfl, ?_⟩
    cbv
    replace hh := if_or hh
    rcases hh with ⟨b21, hh⟩ | ⟨b21, hh⟩
    · have f22 : x19 = true := by exact b21
      rw [f22]; cbv
      replace hh := bind_some hh
      obtain ⟨x24, h23, hh⟩ := hh
      have f25 := c_laws_toOccS h23
      try rw [he_GOcc] at f25
      try rw [he_GOccO] at f25
      refine ⟨_, _, hF _ _ _ _ _ _ f25 (by cases hC; subst he_GOcc he_GOccO; simp) rfl, ?_⟩
      cbv
      replace hh := bind_some hh
      obtain ⟨x27, h26, hh⟩ := hh
      have f28 := c_laws_eqOccS_L0_1 h26
      try rw [he_GOcc] at f28
      try rw [he_GOccO] at f28
      refine ⟨_, _, hF _ _ _ _ _ _ f28 (by cases hC; subst he_GOcc he_GOccO; simp) rfl, ?_⟩
      cbv
      replace hh := if_or hh
      rcases hh with ⟨b29, hh⟩ | ⟨b29, hh⟩
      · have f30 : x27 = true := by exact b29
        rw [f30]; cbv
        replace hh := bind_some hh
        obtain ⟨⟨x32_0, x32_1⟩, h31, hh⟩ := hh
        replace hh := req_some hh
        obtain ⟨h70, hh⟩ := hh
        try dsimp only at h70
        have f33 := c_laws_markOccS h31
        try rw [he_GOcc] at f33
        try rw [he_GOccO] at f33
        refine ⟨_, _, hF _ _ _ _ _ _ f33 (by cases hC; subst he_GOcc he_GOccO; simp) rfl, ?_⟩
        cbv
        replace hh := if_or hh
        rcases hh with ⟨b34, hh⟩ | ⟨b34, hh⟩
        · have f35 : (lt x32_0 0) = true := by cases hC; exact decide_eq_true b34
          rw [f35]; cbv
          subst hr hp
          cases hh
          cases hC; subst he_GOcc he_GOccO; first | (simp; done) | (simp <;> first | rfl | omega | grind)
        · have f35 : (lt x32_0 0) = false := by cases hC; exact decide_eq_false b34
          rw [f35]; cbv
          replace hh := bind_some hh
          obtain ⟨x37, h36, hh⟩ := hh
          have f38 := c_laws_eqOccS_L0_1 h36
          try rw [he_GOcc] at f38
          try rw [he_GOccO] at f38
          refine ⟨_, _, hF _ _ _ _ _ _ f38 (by cases hC; subst he_GOcc he_GOccO; simp) rfl, ?_⟩
          cbv
          replace hh := if_or hh
          rcases hh with ⟨b39, hh⟩ | ⟨b39, hh⟩
          · have f40 : x37 = true := by exact b39
            rw [f40]; cbv
            replace hh := bind_some hh
            obtain ⟨⟨x42_0, x42_1⟩, h41, hh⟩ := hh
            replace hh := req_some hh
            obtain ⟨h69, hh⟩ := hh
            try dsimp only at h69
            have f43 := c_laws_markOccS h41
            try rw [he_GOcc] at f43
            try rw [he_GOccO] at f43
            refine ⟨_, _, hF _ _ _ _ _ _ f43 (by cases hC; subst he_GOcc he_GOccO; simp) rfl, ?_⟩
            cbv
            replace hh := bind_some hh
            obtain ⟨x45, h44, hh⟩ := hh
            refine ⟨by cases hC; subst he_GOcc he_GOccO; first | (simp; done) | (simp; omega), ?_⟩
            have f46 := c_laws_heldOccS_L0 h44
            try rw [he_GOcc] at f46
            try rw [he_GOccO] at f46
            refine ⟨_, _, hF _ _ _ _ _ _ f46 (by cases hC; subst he_GOcc he_GOccO; simp) rfl, ?_⟩
            cbv
            replace hh := if_or hh
            rcases hh with ⟨b47, hh⟩ | ⟨b47, hh⟩
            · have f48 : (lt x45 0) = true := by cases hC; exact decide_eq_true b47
              rw [f48]; cbv
              subst hr hp
              cases hh
              cases hC; subst he_GOcc he_GOccO; first | (simp; done) | (simp <;> first | rfl | omega | grind)
            · have f48 : (lt x45 0) = false := by cases hC; exact decide_eq_false b47
              rw [f48]; cbv
              replace hh := if_or hh
              rcases hh with ⟨b49, hh⟩ | ⟨b49, hh⟩
              · have f50 : (eq x45 x42_0) = true := by cases hC; exact beq_iff_eq.2 b49
                rw [f50]; cbv
                replace hh := bind_some hh
                obtain ⟨x52, h51, hh⟩ := hh
                have f53 := c_laws_toOccS h51
                try rw [he_GOcc] at f53
                try rw [he_GOccO] at f53
                refine ⟨_, _, hF _ _ _ _ _ _ f53 (by cases hC; subst he_GOcc he_GOccO; simp) rfl, ?_⟩
                cbv
                replace hh := bind_some hh
                obtain ⟨x55, h54, hh⟩ := hh
                have f56 := c_impl_TurnOccs_L0 h54
                try rw [he_GOcc] at f56
                try rw [he_GOccO] at f56
                refine ⟨_, _, hF _ _ _ _ _ _ f56 (by cases hC; subst he_GOcc he_GOccO; simp) rfl, ?_⟩
                cbv
                replace hh := bind_some hh
                obtain ⟨x58, h57, hh⟩ := hh
                have f59 := c_laws_eqOccS_L0_1 h57
                try rw [he_GOcc] at f59
                try rw [he_GOccO] at f59
                refine ⟨_, _, hF _ _ _ _ _ _ f59 (by cases hC; subst he_GOcc he_GOccO; simp) rfl, ?_⟩
                cbv
                replace hh := if_or hh
                rcases hh with ⟨b60, hh⟩ | ⟨b60, hh⟩
                · have f61 : x58 = true := by exact b60
                  rw [f61]; cbv
                  replace hh := bind_some hh
                  obtain ⟨x63, h62, hh⟩ := hh
                  refine ⟨by cases hC; subst he_GOcc he_GOccO; first | (simp; done) | (simp; omega), ?_⟩
                  have f64 := c_laws_heldOccS_L0 h62
                  try rw [he_GOcc] at f64
                  try rw [he_GOccO] at f64
                  refine ⟨_, _, hF _ _ _ _ _ _ f64 (by cases hC; subst he_GOcc he_GOccO; simp) rfl, ?_⟩
                  cbv
                  replace hh := if_or hh
                  rcases hh with ⟨b65, hh⟩ | ⟨b65, hh⟩
                  · have f66 : (lt x63 0) = true := by cases hC; exact decide_eq_true b65
                    rw [f66]; cbv
                    subst hr hp
                    cases hh
                    cases hC; subst he_GOcc he_GOccO; first | (simp; done) | (simp <;> first | rfl | omega | grind)
                  · have f66 : (lt x63 0) = false := by cases hC; exact decide_eq_false b65
                    rw [f66]; cbv
                    replace hh := if_or hh
                    rcases hh with ⟨b67, hh⟩ | ⟨b67, hh⟩
                    · have f68 : (eq x63 x42_0) = true := by cases hC; exact beq_iff_eq.2 b67
                      rw [f68]; cbv
                      subst hr hp
                      cases hh
                      cases hC; subst he_GOcc he_GOccO; first | (simp; done) | (simp <;> first | rfl | omega | grind)
                    · have f68 : (eq x63 x42_0) = false := by cases hC; exact beq_false_of_ne b67
                      rw [f68]; cbv
                      subst hr hp
                      cases hh
                      cases hC; subst he_GOcc he_GOccO; first | (simp; done) | (simp <;> first | rfl | omega | grind)
                · have f61 : x58 = false := by exact Bool.eq_false_iff.2 b60
                  rw [f61]; cbv
                  subst hr hp
                  cases hh
                  cases hC; subst he_GOcc he_GOccO; first | (simp; done) | (simp <;> first | rfl | omega | grind)
              · have f50 : (eq x45 x42_0) = false := by cases hC; exact beq_false_of_ne b49
                rw [f50]; cbv
                subst hr hp
                cases hh
                cases hC; subst he_GOcc he_GOccO; first | (simp; done) | (simp <;> first | rfl | omega | grind)
          · have f40 : x37 = false := by exact Bool.eq_false_iff.2 b39
            rw [f40]; cbv
            subst hr hp
            cases hh
            cases hC; subst he_GOcc he_GOccO; first | (simp; done) | (simp <;> first | rfl | omega | grind)
      · have f30 : x27 = false := by exact Bool.eq_false_iff.2 b29
        rw [f30]; cbv
        subst hr hp
        cases hh
        cases hC; subst he_GOcc he_GOccO; first | (simp; done) | (simp <;> first | rfl | omega | grind)
    · have f22 : x19 = false := by exact Bool.eq_false_iff.2 b21
      rw [f22]; cbv
      subst hr hp
      cases hh
      cases hC; subst he_GOcc he_GOccO; first | (simp; done) | (simp <;> first | rfl | omega | grind)

end Go.Proofs.Ytgbgabkdbfeibaa
