/- The functions of this program do what the plain ones do. -/
import Derived.Test.YtgbgabkdbfeibaaC0
namespace Go.Proofs.Ytgbgabkdbfeibaa
open Go Go.Vm
set_option linter.unusedVariables false
theorem c_scc30 : ∀ k : Nat, (∀ {p0 : List GEx} {p1 : List GEx} {r : Bool}, laws_eqExS.f k p0 p1 = some r → FunW P 65 [.tree (r_GEx p0), .tree (r_GEx p1)] [.hole, .hole] (.lit (.bool r))) ∧ (∀ {p0 : GEx} {p1 : GEx} {r : Bool}, laws_eqEx.f k p0 p1 = some r → FunW P 30 [.agg [.lit (.int .i64 p0.Kind), .lit (.int .i64 p0.Sym), .lit (.int .i64 p0.N), .tree (r_GEx p0.Kids)], .agg [.lit (.int .i64 p1.Kind), .lit (.int .i64 p1.Sym), .lit (.int .i64 p1.N), .tree (r_GEx p1.Kids)]] [.hole, .hole] (.lit (.bool r))) := by
  intro k
  induction k using Nat.strongRecOn with
  | _ k ih =>
  refine ⟨?_, ?_⟩
  · intro p0 p1 r hh
    cases k with
    | zero => unfold laws_eqExS.f at hh; cases hh
    | succ k =>
    unfold laws_eqExS.f at hh
    refine fun_go2 eok mixed (ts := [(4, none)]) (rm := [.own]) (gs := [1000000, 1000001]) (pm := [.skip, .skip]) Try.func65 (by kernel_rfl) (by kernel_rfl) (by kernel_rfl) ?_
    intro Fn LW len cast toNat wrap add sub mul bin lt eq At set part app fz' rep nadd nmax ssize sext sget scat seq slt Wide Flat Ones Room r' post' hC hF hr hp
    generalize he_GEx : r_GEx = qGEx
    cbv
    replace hh := if_or hh
    rcases hh with ⟨b1, hh⟩ | ⟨b1, hh⟩
    · have f2 : (eq (cast (len (qGEx p0))) (cast (len (qGEx p1)))) = true := by cases hC; subst he_GEx; first | exact beq_iff_eq.2 b1 | (simp; done) | (simp; omega) | (simp at b1 ⊢; omega) | (simp at b1 ⊢; exact b1)
      rw [f2]; cbv
      replace hh := bind_some hh
      obtain ⟨o1, hl1, hq1⟩ := hh
      refine loop_go3 hC eok mixed
        (fun s : Nat × Int × Unit => match s with | (_, s16, _) => (⟨[(0, .tree (qGEx p0)), (1, .tree (qGEx p1)), (5, .lit (.int .i64 s16))], []⟩ : St))
        (fun s : Nat × Int × Unit => laws_eqExS.l0 k (laws_eqEx.f k) p0 p1 s.1 s.2.1 = some o1)
        (fun s => s.1) (fun _ => .exit 0)
        (fun x : Unit => match x with | _ => (⟨[], []⟩ : St))
        (fun x : Unit => some (.ok x) = some o1)
        (_, _, ()) hl1 ?_ ?_ ?_
      · rintro ⟨n, t0, ⟨⟩⟩ e1
        refine cov_of [] ?_
        cbv
        all_goals (have e1_0 := congrArg (fun s => s.2.1) e1; dsimp only at e1_0; subst e1_0; cases hC; subst he_GEx; (first | (simp; done) | (simp <;> first | rfl | omega | grind)))
      · rintro ⟨⟩ hx
        have hx := Option.some.inj hx
        subst hx
        have hh := hq1
        cbv
        subst hr hp
        cases hh
        cases hC; subst he_GEx; first | (simp; done) | (simp <;> first | rfl | omega | grind)
      · rintro ⟨n, s16, ⟨⟩⟩ N1 D1 hh hN1 hD1 hQ1
        replace hN1 := fun σ' n' a0 (h : laws_eqExS.l0 k (laws_eqEx.f k) p0 p1 n' a0 = some o1) => hN1 σ' (n', a0, ()) h
        replace hD1 := fun σ'  (h : some (Except.ok ()) = some o1) => hD1 σ' () h
        cases n with
        | zero => dsimp only at hh; unfold laws_eqExS.l0 at hh; cases hh
        | succ n =>
        dsimp only at hh
        unfold laws_eqExS.l0 at hh
        cbv
        replace hh := if_or hh
        rcases hh with ⟨b30, hh⟩ | ⟨b30, hh⟩
        · have f31 : (lt s16 (cast (len (qGEx p0)))) = true := by cases hC; subst he_GEx; first | exact decide_eq_true b30 | (simp; done) | (simp; omega) | (simp at b30 ⊢; omega) | (simp at b30 ⊢; exact b30)
          rw [f31]; cbv
          replace hh := req_some hh
          obtain ⟨h32, hh⟩ := hh
          replace hh := bind_some hh
          obtain ⟨⟨e33_Kind, e33_Sym, e33_N, e33_Kids⟩, h34, hh⟩ := hh
          refine ⟨[.lit (.int .i64 e33_Kind), .lit (.int .i64 e33_Sym), .lit (.int .i64 e33_N), .tree (qGEx e33_Kids)], (by cases hC; subst he_GEx; exact decide_eq_false (Int.not_lt.2 (by first | exact h32 | (simp; done) | (simp; omega) | (simp at h32 ⊢; omega) | (simp at h32 ⊢; exact h32)))), (by cases hC; subst he_GEx; first | exact r_GEx_get h34 | simp [h34]), ?_⟩
          cbv
          replace hh := req_some hh
          obtain ⟨h35, hh⟩ := hh
          replace hh := bind_some hh
          obtain ⟨⟨e36_Kind, e36_Sym, e36_N, e36_Kids⟩, h37, hh⟩ := hh
          refine ⟨[.lit (.int .i64 e36_Kind), .lit (.int .i64 e36_Sym), .lit (.int .i64 e36_N), .tree (qGEx e36_Kids)], (by cases hC; subst he_GEx; exact decide_eq_false (Int.not_lt.2 (by first | exact h35 | (simp; done) | (simp; omega) | (simp at h35 ⊢; omega) | (simp at h35 ⊢; exact h35)))), (by cases hC; subst he_GEx; first | exact r_GEx_get h37 | simp [h37]), ?_⟩
          cbv
          replace hh := bind_some hh
          obtain ⟨x39, h38, hh⟩ := hh
          have f40 := (ih k (Nat.lt_succ_self k)).2 h38
          try rw [he_GEx] at f40
          refine ⟨_, _, hF _ _ _ _ _ _ f40 (by cases hC; subst he_GEx; simp) rfl, ?_⟩
          cbv
          replace hh := if_or hh
          rcases hh with ⟨b41, hh⟩ | ⟨b41, hh⟩
          · have f42 : x39 = true := by exact b41
            rw [f42]; cbv
            refine hN1 _ _ _ hh (Nat.lt_succ_self _) ?_
            rintro ⟨n, t0, ⟨⟩⟩ e1
            refine cov_of [] ?_
            cbv
            all_goals (have e1_0 := congrArg (fun s => s.2.1) e1; dsimp only at e1_0; subst e1_0; cases hC; subst he_GEx; (first | (simp; done) | (simp <;> first | rfl | omega | grind)))
          · have f42 : x39 = false := by exact Bool.eq_false_iff.2 b41
            rw [f42]; cbv
            cases hh
            have hh : some _ = some _ := hq1
            refine hQ1 _ _ ?_
            cbv
            subst hr hp
            cases hh
            cases hC; subst he_GEx; first | (simp; done) | (simp <;> first | rfl | omega | grind)
        · have f31 : (lt s16 (cast (len (qGEx p0)))) = false := by cases hC; subst he_GEx; first | exact decide_eq_false b30 | (simp; done) | (simp; omega) | (simp at b30 ⊢; omega) | (simp at b30 ⊢; exact b30)
          rw [f31]; cbv
          refine hD1 _  hh ?_
          rintro ⟨⟩ e1
          refine cov_of [] ?_
          cbv
          all_goals (cases hC; subst he_GEx; (first | (simp; done) | (simp <;> first | rfl | omega | grind)))
    · have f2 : (eq (cast (len (qGEx p0))) (cast (len (qGEx p1)))) = false := by cases hC; subst he_GEx; first | exact beq_false_of_ne b1 | (simp; done) | (simp; omega) | (simp at b1 ⊢; omega) | (simp at b1 ⊢; exact b1)
      rw [f2]; cbv
      subst hr hp
      cases hh
      cases hC; subst he_GEx; first | (simp; done) | (simp <;> first | rfl | omega | grind)
  · intro p0 p1 r hh
    cases k with
    | zero => unfold laws_eqEx.f at hh; cases hh
    | succ k =>
    obtain ⟨p0_Kind, p0_Sym, p0_N, p0_Kids⟩ := p0
    obtain ⟨p1_Kind, p1_Sym, p1_N, p1_Kids⟩ := p1
    unfold laws_eqEx.f at hh
    refine fun_go2 eok mixed (ts := [(4, none)]) (rm := [.own]) (gs := [1000000, 1000001]) (pm := [.skip, .skip]) Try.func30 (by kernel_rfl) (by kernel_rfl) (by kernel_rfl) ?_
    intro Fn LW len cast toNat wrap add sub mul bin lt eq At set part app fz' rep nadd nmax ssize sext sget scat seq slt Wide Flat Ones Room r' post' hC hF hr hp
    generalize he_GEx : r_GEx = qGEx
    cbv
    replace hh := if_or hh
    rcases hh with ⟨b1, hh⟩ | ⟨b1, hh⟩
    · have f2 : (eq p0_Kind p1_Kind) = true := by cases hC; exact beq_iff_eq.2 b1
      rw [f2]; cbv
      replace hh := if_or hh
      rcases hh with ⟨b3, hh⟩ | ⟨b3, hh⟩
      · have f4 : (eq p0_Sym p1_Sym) = true := by cases hC; exact beq_iff_eq.2 b3
        rw [f4]; cbv
        replace hh := if_or hh
        rcases hh with ⟨b5, hh⟩ | ⟨b5, hh⟩
        · have f6 : (eq p0_N p1_N) = true := by cases hC; exact beq_iff_eq.2 b5
          rw [f6]; cbv
          replace hh := bind_some hh
          obtain ⟨x8, h7, hh⟩ := hh
          have f9 := (ih k (Nat.lt_succ_self k)).1 h7
          try rw [he_GEx] at f9
          refine ⟨_, _, hF _ _ _ _ _ _ f9 (by cases hC; subst he_GEx; simp) rfl, ?_⟩
          cbv
          replace hh := if_or hh
          rcases hh with ⟨b10, hh⟩ | ⟨b10, hh⟩
          · have f11 : x8 = true := by exact b10
            rw [f11]; cbv
            subst hr hp
            cases hh
            cases hC; subst he_GEx; first | (simp; done) | (simp <;> first | rfl | omega | grind)
          · have f11 : x8 = false := by exact Bool.eq_false_iff.2 b10
            rw [f11]; cbv
            subst hr hp
            cases hh
            cases hC; subst he_GEx; first | (simp; done) | (simp <;> first | rfl | omega | grind)
        · have f6 : (eq p0_N p1_N) = false := by cases hC; exact beq_false_of_ne b5
          rw [f6]; cbv
          subst hr hp
          cases hh
          cases hC; subst he_GEx; first | (simp; done) | (simp <;> first | rfl | omega | grind)
      · have f4 : (eq p0_Sym p1_Sym) = false := by cases hC; exact beq_false_of_ne b3
        rw [f4]; cbv
        subst hr hp
        cases hh
        cases hC; subst he_GEx; first | (simp; done) | (simp <;> first | rfl | omega | grind)
    · have f2 : (eq p0_Kind p1_Kind) = false := by cases hC; exact beq_false_of_ne b1
      rw [f2]; cbv
      subst hr hp
      cases hh
      cases hC; subst he_GEx; first | (simp; done) | (simp <;> first | rfl | omega | grind)
theorem c_laws_eqExS {k : Nat} {p0 : List GEx} {p1 : List GEx} {r : Bool} (hh : laws_eqExS.f k p0 p1 = some r) : FunW P 65 [.tree (r_GEx p0), .tree (r_GEx p1)] [.hole, .hole] (.lit (.bool r)) := (c_scc30 k).1 hh
theorem c_laws_eqEx {k : Nat} {p0 : GEx} {p1 : GEx} {r : Bool} (hh : laws_eqEx.f k p0 p1 = some r) : FunW P 30 [.agg [.lit (.int .i64 p0.Kind), .lit (.int .i64 p0.Sym), .lit (.int .i64 p0.N), .tree (r_GEx p0.Kids)], .agg [.lit (.int .i64 p1.Kind), .lit (.int .i64 p1.Sym), .lit (.int .i64 p1.N), .tree (r_GEx p1.Kids)]] [.hole, .hole] (.lit (.bool r)) := (c_scc30 k).2 hh


theorem c_laws_eqEx_L0_1 {k : Nat} {p0 : GEx} {p1 : GEx} {r : Bool} (hh : laws_eqEx.f k p0 p1 = some r) : FunW P 30 [.agg [.lit (.int .i64 p0.Kind), .lit (.int .i64 p0.Sym), .lit (.int .i64 p0.N), .inl 4 (r_GExO p0.Kids)], .agg [.lit (.int .i64 p1.Kind), .lit (.int .i64 p1.Sym), .lit (.int .i64 p1.N), .inl 4 (r_GExO p1.Kids)]] [.agg [.lit (.int .i64 p0.Kind), .lit (.int .i64 p0.Sym), .lit (.int .i64 p0.N), .inl 4 (r_GExO p0.Kids)], .agg [.lit (.int .i64 p1.Kind), .lit (.int .i64 p1.Sym), .lit (.int .i64 p1.N), .inl 4 (r_GExO p1.Kids)]] (.lit (.bool r)) :=
  (c_laws_eqEx hh).lend (rfl) (.lend (by simp [-r_GExO_map, -r_GEx_map, Vm.fz, fzCells, r_GExO_fz]) (.lend (by simp [-r_GExO_map, -r_GEx_map, Vm.fz, fzCells, r_GExO_fz]) .nil))

theorem c_scc66 : ∀ k : Nat, (∀ {p0 : List GEx} {p1 : Int} {r : Int × (List GEx)}, laws_markExS.f k p0 p1 = some r → FunW P 66 [.inl 4 (r_GExO p0), .lit (.int .i64 p1)] [.inl 4 (r_GExO r.2), .hole] (.lit (.int .i64 r.1))) := by
  intro k
  induction k using Nat.strongRecOn with
  | _ k ih =>
  · intro p0 p1 r hh
    cases k with
    | zero => unfold laws_markExS.f at hh; cases hh
    | succ k =>
    unfold laws_markExS.f at hh
    refine fun_go2 eok mixed (ts := [(4, none)]) (rm := [.own]) (gs := [1000000, 1000001]) (pm := [.own, .skip]) Try.func66 (by kernel_rfl) (by kernel_rfl) (by kernel_rfl) ?_
    intro Fn LW len cast toNat wrap add sub mul bin lt eq At set part app fz' rep nadd nmax ssize sext sget scat seq slt Wide Flat Ones Room r' post' hC hF hr hp
    generalize he_GExO : r_GExO = qGExO
    cbv
    replace hh := bind_some hh
    obtain ⟨o1, hl1, hq1⟩ := hh
    refine loop_go3 hC eok mixed
      (fun s : Nat × (List GEx) × Int × Int × Unit => match s with | (_, s17, s18, s19, _) => (⟨[(0, .ref (0, 0) 1 0 (len (qGExO s17))), (1, .lit (.int .i64 s18)), (5, .lit (.int .i64 s19)), (1000000, .ref (0, 0) 1 0 (len (qGExO s17)))], [((0, 0), .arr 1 4 (qGExO s17))]⟩ : St))
      (fun s : Nat × (List GEx) × Int × Int × Unit => laws_markExS.l0 k (laws_markExS.f k) s.1 s.2.1 s.2.2.1 s.2.2.2.1 = some o1)
      (fun s => s.1) (fun _ => .exit 0)
      (fun x : Int × (List GEx) => match x with | (x36, x37) => (⟨[(1, .lit (.int .i64 x36)), (1000000, .ref (0, 0) 1 0 (len (qGExO x37)))], [((0, 0), .arr 1 4 (qGExO x37))]⟩ : St))
      (fun x : Int × (List GEx) => some (x) = some o1)
      (_, _, _, _, ()) hl1 ?_ ?_ ?_
    · rintro ⟨n, t0, t1, t2, ⟨⟩⟩ e1
      refine cov_of [((0, 0), (0, 0))] ?_
      cbv
      all_goals (have e1_0 := congrArg (fun s => s.2.1) e1; dsimp only at e1_0; subst e1_0; have e1_1 := congrArg (fun s => s.2.2.1) e1; dsimp only at e1_1; subst e1_1; have e1_2 := congrArg (fun s => s.2.2.2.1) e1; dsimp only at e1_2; subst e1_2; cases hC; subst he_GExO; (first | (simp; done) | (simp <;> first | rfl | omega | grind)))
    · rintro ⟨x36, x37⟩ hx
      have hx := Option.some.inj hx
      subst hx
      have hh := hq1
      cbv
      subst hr hp
      cases hh
      cases hC; subst he_GExO; first | (simp; done) | (simp <;> first | rfl | omega | grind)
    · rintro ⟨n, s17, s18, s19, ⟨⟩⟩ N1 D1 hh hN1 hD1 hQ1
      replace hN1 := fun σ' n' a0 a1 a2 (h : laws_markExS.l0 k (laws_markExS.f k) n' a0 a1 a2 = some o1) => hN1 σ' (n', a0, a1, a2, ()) h
      replace hD1 := fun σ' (a0 : Int) (a1 : List GEx) (h : some ((a0, a1)) = some o1) => hD1 σ' (a0, a1) h
      cases n with
      | zero => dsimp only at hh; unfold laws_markExS.l0 at hh; cases hh
      | succ n =>
      dsimp only at hh
      unfold laws_markExS.l0 at hh
      cbv
      replace hh := if_or hh
      rcases hh with ⟨b38, hh⟩ | ⟨b38, hh⟩
      · have f39 : (lt s19 (cast (len (qGExO s17)))) = true := by cases hC; subst he_GExO; first | exact decide_eq_true b38 | (simp; done) | (simp; omega) | (simp at b38 ⊢; omega) | (simp at b38 ⊢; exact b38)
        rw [f39]; cbv
        replace hh := req_some hh
        obtain ⟨h40, hh⟩ := hh
        replace hh := req_some hh
        obtain ⟨h41, hh⟩ := hh
        replace h41 : s19 < (s17.length : Nat) := h41
        refine ⟨(by cases hC; subst he_GExO; exact decide_eq_false (Int.not_lt.2 (by first | exact h40 | (simp; done) | (simp; omega) | (simp at h40 ⊢; omega) | (simp at h40 ⊢; exact h40)))), (by cases hC; subst he_GExO; exact decide_eq_true (by first | exact h41 | (simp; done) | (simp; omega) | (simp at h41 ⊢; omega) | (simp at h41 ⊢; exact h41))), ?_⟩
        replace hh := bind_some hh
        obtain ⟨⟨e42_Kind, e42_Sym, e42_N, e42_Kids⟩, h43, hh⟩ := hh
        refine ⟨[.lit (.int .i64 e42_Kind), .lit (.int .i64 e42_Sym), .lit (.int .i64 e42_N), .inl 4 (qGExO e42_Kids)], (by cases hC; subst he_GExO; first | exact r_GExO_get h43 | (simp [h43]; done) | (have q := r_GExO_get h43; rw [r_GExO_map] at q; simpa [List.map] using q)), ?_⟩
        cbv
        replace hh := req_some hh
        obtain ⟨h44, hh⟩ := hh
        replace hh := req_some hh
        obtain ⟨h45, hh⟩ := hh
        replace h45 : s19 < (s17.length : Nat) := h45
        refine ⟨(by cases hC; subst he_GExO; exact decide_eq_false (Int.not_lt.2 (by first | exact h44 | (simp; done) | (simp; omega) | (simp at h44 ⊢; omega) | (simp at h44 ⊢; exact h44)))), (by cases hC; subst he_GExO; exact decide_eq_true (by first | exact h45 | (simp; done) | (simp; omega) | (simp at h45 ⊢; omega) | (simp at h45 ⊢; exact h45))), ?_⟩
        refine ⟨[.lit (.int .i64 s18), .lit (.int .i64 e42_Sym), .lit (.int .i64 e42_N), .inl 4 (qGExO e42_Kids)], (by cases hC; subst he_GExO; first | exact r_GExO_get h43 | (simp [h43]; done) | (have q := r_GExO_get h43; rw [r_GExO_map] at q; simpa [List.map] using q) | (simp [(List.getElem?_eq_some_iff.1 h43).1]; done) | simp [h43, (List.getElem?_eq_some_iff.1 h43).1]), ?_⟩
        cbv
        replace hh := req_some hh
        obtain ⟨h46, hh⟩ := hh
        replace hh := req_some hh
        obtain ⟨h47, hh⟩ := hh
        replace h47 : s19 < (s17.length : Nat) := h47
        refine ⟨(by cases hC; subst he_GExO; exact decide_eq_false (Int.not_lt.2 (by first | exact h46 | (simp; done) | (simp; omega) | (simp at h46 ⊢; omega) | (simp at h46 ⊢; exact h46)))), (by cases hC; subst he_GExO; exact decide_eq_true (by first | exact h47 | (simp; done) | (simp; omega) | (simp at h47 ⊢; omega) | (simp at h47 ⊢; exact h47))), ?_⟩
        refine ⟨[.lit (.int .i64 s18), .lit (.int .i64 (wrap .i64 (add s18 1))), .lit (.int .i64 e42_N), .inl 4 (qGExO e42_Kids)], (by cases hC; subst he_GExO; first | exact r_GExO_get h43 | (simp [h43]; done) | (have q := r_GExO_get h43; rw [r_GExO_map] at q; simpa [List.map] using q) | (simp [(List.getElem?_eq_some_iff.1 h43).1]; done) | simp [h43, (List.getElem?_eq_some_iff.1 h43).1]), ?_⟩
        cbv
        replace hh := req_some hh
        obtain ⟨h48, hh⟩ := hh
        replace hh := req_some hh
        obtain ⟨h49, hh⟩ := hh
        replace h49 : s19 < (s17.length : Nat) := h49
        refine ⟨(by cases hC; subst he_GExO; exact decide_eq_false (Int.not_lt.2 (by first | exact h48 | (simp; done) | (simp; omega) | (simp at h48 ⊢; omega) | (simp at h48 ⊢; exact h48)))), (by cases hC; subst he_GExO; exact decide_eq_true (by first | exact h49 | (simp; done) | (simp; omega) | (simp at h49 ⊢; omega) | (simp at h49 ⊢; exact h49))), ?_⟩
        refine ⟨[.lit (.int .i64 s18), .lit (.int .i64 (wrap .i64 (add s18 1))), .lit (.int .i64 (wrap .i64 (add (wrap .i64 (add s18 1)) 1))), .inl 4 (qGExO e42_Kids)], (by cases hC; subst he_GExO; first | exact r_GExO_get h43 | (simp [h43]; done) | (have q := r_GExO_get h43; rw [r_GExO_map] at q; simpa [List.map] using q) | (simp [(List.getElem?_eq_some_iff.1 h43).1]; done) | simp [h43, (List.getElem?_eq_some_iff.1 h43).1]), ?_⟩
        cbv
        replace hh := bind_some hh
        obtain ⟨⟨x51_0, x51_1⟩, h50, hh⟩ := hh
        replace hh := req_some hh
        obtain ⟨h53, hh⟩ := hh
        try dsimp only at h53
        have f52 := (ih k (Nat.lt_succ_self k)) h50
        try rw [he_GExO] at f52
        refine ⟨_, _, hF _ _ _ _ _ _ f52 (by cases hC; subst he_GExO; simp) rfl, ?_⟩
        cbv
        refine hN1 _ _ _ _ _ hh (Nat.lt_succ_self _) ?_
        rintro ⟨n, t0, t1, t2, ⟨⟩⟩ e1
        refine cov_shut hC (0, 0) ?_
        cbv
        refine ⟨by cases hC; subst he_GExO; first | (simp; done) | (simp; first | omega | (simp only [natc] at *; omega)), ?_⟩
        refine cov_of [((0, 0), (0, 0))] ?_
        cbv
        all_goals (have e1_0 := congrArg (fun s => s.2.1) e1; dsimp only at e1_0; subst e1_0; have e1_1 := congrArg (fun s => s.2.2.1) e1; dsimp only at e1_1; subst e1_1; have e1_2 := congrArg (fun s => s.2.2.2.1) e1; dsimp only at e1_2; subst e1_2; cases hC; subst he_GExO; (first | (simp; done) | (simp <;> first | rfl | omega | grind)))
      · have f39 : (lt s19 (cast (len (qGExO s17)))) = false := by cases hC; subst he_GExO; first | exact decide_eq_false b38 | (simp; done) | (simp; omega) | (simp at b38 ⊢; omega) | (simp at b38 ⊢; exact b38)
        rw [f39]; cbv
        refine hD1 _ _ _ hh ?_
        rintro ⟨t0, t1⟩ e1
        refine cov_of [((0, 0), (0, 0))] ?_
        cbv
        all_goals (have e1_0 := congrArg (fun s => s.1) e1; dsimp only at e1_0; subst e1_0; have e1_1 := congrArg (fun s => s.2) e1; dsimp only at e1_1; subst e1_1; cases hC; subst he_GExO; (first | (simp; done) | (simp <;> first | rfl | omega | grind)))
theorem c_laws_markExS {k : Nat} {p0 : List GEx} {p1 : Int} {r : Int × (List GEx)} (hh : laws_markExS.f k p0 p1 = some r) : FunW P 66 [.inl 4 (r_GExO p0), .lit (.int .i64 p1)] [.inl 4 (r_GExO r.2), .hole] (.lit (.int .i64 r.1)) := (c_scc66 k) hh


theorem c_laws_markEx {k : Nat} {p0 : GEx} {p1 : Int} {r : Int × GEx} (hh : laws_markEx.f k p0 p1 = some r) : FunW P 31 [.agg [.lit (.int .i64 p0.Kind), .lit (.int .i64 p0.Sym), .lit (.int .i64 p0.N), .inl 4 (r_GExO p0.Kids)], .lit (.int .i64 p1)] [.agg [.lit (.int .i64 r.2.Kind), .lit (.int .i64 r.2.Sym), .lit (.int .i64 r.2.N), .inl 4 (r_GExO r.2.Kids)], .hole] (.lit (.int .i64 r.1)) := by
  obtain ⟨p0_Kind, p0_Sym, p0_N, p0_Kids⟩ := p0
  unfold laws_markEx.f at hh
  refine fun_go2 eok mixed (ts := [(4, none)]) (rm := [.own]) (gs := [1000000, 1000001]) (pm := [.own, .skip]) Try.func31 (by kernel_rfl) (by kernel_rfl) (by kernel_rfl) ?_
  intro Fn LW len cast toNat wrap add sub mul bin lt eq At set part app fz' rep nadd nmax ssize sext sget scat seq slt Wide Flat Ones Room r' post' hC hF hr hp
  generalize he_GExO : r_GExO = qGExO
  cbv
  replace hh := bind_some hh
  obtain ⟨⟨x2_0, x2_1⟩, h1, hh⟩ := hh
  replace hh := req_some hh
  obtain ⟨h4, hh⟩ := hh
  try dsimp only at h4
  have f3 := c_laws_markExS h1
  try rw [he_GExO] at f3
  refine ⟨_, _, hF _ _ _ _ _ _ f3 (by cases hC; subst he_GExO; simp) rfl, ?_⟩
  cbv
  subst hr hp
  cases hh
  cases hC; subst he_GExO; first | (simp; done) | (simp <;> first | rfl | omega | grind)

theorem c_scc67 : ∀ k : Nat, (∀ {p0 : List GEx} {p1 : Int} {r : Int}, laws_heldExS.f k p0 p1 = some r → FunW P 67 [.tree (r_GEx p0), .lit (.int .i64 p1)] [.hole, .hole] (.lit (.int .i64 r))) := by
  intro k
  induction k using Nat.strongRecOn with
  | _ k ih =>
  · intro p0 p1 r hh
    cases k with
    | zero => unfold laws_heldExS.f at hh; cases hh
    | succ k =>
    unfold laws_heldExS.f at hh
    refine fun_go2 eok mixed (ts := [(4, none)]) (rm := [.own]) (gs := [1000000, 1000001]) (pm := [.skip, .skip]) Try.func67 (by kernel_rfl) (by kernel_rfl) (by kernel_rfl) ?_
    intro Fn LW len cast toNat wrap add sub mul bin lt eq At set part app fz' rep nadd nmax ssize sext sget scat seq slt Wide Flat Ones Room r' post' hC hF hr hp
    generalize he_GEx : r_GEx = qGEx
    cbv
    replace hh := bind_some hh
    obtain ⟨o1, hl1, hq1⟩ := hh
    refine loop_go3 hC eok mixed
      (fun s : Nat × Int × Int × Unit => match s with | (_, s26, s27, _) => (⟨[(0, .tree (qGEx p0)), (1, .lit (.int .i64 s26)), (5, .lit (.int .i64 s27))], []⟩ : St))
      (fun s : Nat × Int × Int × Unit => laws_heldExS.l0 k (laws_heldExS.f k) p0 s.1 s.2.1 s.2.2.1 = some o1)
      (fun s => s.1) (fun _ => .exit 0)
      (fun x : Int => match x with | x53 => (⟨[(1, .lit (.int .i64 x53))], []⟩ : St))
      (fun x : Int => some (.ok x) = some o1)
      (_, _, _, ()) hl1 ?_ ?_ ?_
    · rintro ⟨n, t0, t1, ⟨⟩⟩ e1
      refine cov_of [] ?_
      cbv
      all_goals (have e1_0 := congrArg (fun s => s.2.1) e1; dsimp only at e1_0; subst e1_0; have e1_1 := congrArg (fun s => s.2.2.1) e1; dsimp only at e1_1; subst e1_1; cases hC; subst he_GEx; (first | (simp; done) | (simp <;> first | rfl | omega | grind)))
    · rintro x53 hx
      have hx := Option.some.inj hx
      subst hx
      have hh := hq1
      cbv
      subst hr hp
      cases hh
      cases hC; subst he_GEx; first | (simp; done) | (simp <;> first | rfl | omega | grind)
    · rintro ⟨n, s26, s27, ⟨⟩⟩ N1 D1 hh hN1 hD1 hQ1
      replace hN1 := fun σ' n' a0 a1 (h : laws_heldExS.l0 k (laws_heldExS.f k) p0 n' a0 a1 = some o1) => hN1 σ' (n', a0, a1, ()) h
      replace hD1 := fun σ' (a0 : Int) (h : some (Except.ok a0) = some o1) => hD1 σ' a0 h
      cases n with
      | zero => dsimp only at hh; unfold laws_heldExS.l0 at hh; cases hh
      | succ n =>
      dsimp only at hh
      unfold laws_heldExS.l0 at hh
      cbv
      replace hh := if_or hh
      rcases hh with ⟨b54, hh⟩ | ⟨b54, hh⟩
      · have f55 : (lt s27 (cast (len (qGEx p0)))) = true := by cases hC; subst he_GEx; first | exact decide_eq_true b54 | (simp; done) | (simp; omega) | (simp at b54 ⊢; omega) | (simp at b54 ⊢; exact b54)
        rw [f55]; cbv
        replace hh := req_some hh
        obtain ⟨h56, hh⟩ := hh
        replace hh := bind_some hh
        obtain ⟨⟨e57_Kind, e57_Sym, e57_N, e57_Kids⟩, h58, hh⟩ := hh
        refine ⟨[.lit (.int .i64 e57_Kind), .lit (.int .i64 e57_Sym), .lit (.int .i64 e57_N), .tree (qGEx e57_Kids)], (by cases hC; subst he_GEx; exact decide_eq_false (Int.not_lt.2 (by first | exact h56 | (simp; done) | (simp; omega) | (simp at h56 ⊢; omega) | (simp at h56 ⊢; exact h56)))), (by cases hC; subst he_GEx; first | exact r_GEx_get h58 | simp [h58]), ?_⟩
        cbv
        replace hh := if_or hh
        rcases hh with ⟨b59, hh⟩ | ⟨b59, hh⟩
        · have f60 : (eq e57_Kind s26) = true := by cases hC; exact beq_iff_eq.2 b59
          rw [f60]; cbv
          replace hh := req_some hh
          obtain ⟨h61, hh⟩ := hh
          replace hh := bind_some hh
          obtain ⟨⟨e62_Kind, e62_Sym, e62_N, e62_Kids⟩, h63, hh⟩ := hh
          refine ⟨[.lit (.int .i64 e62_Kind), .lit (.int .i64 e62_Sym), .lit (.int .i64 e62_N), .tree (qGEx e62_Kids)], (by cases hC; subst he_GEx; exact decide_eq_false (Int.not_lt.2 (by first | exact h61 | (simp; done) | (simp; omega) | (simp at h61 ⊢; omega) | (simp at h61 ⊢; exact h61)))), (by cases hC; subst he_GEx; first | exact r_GEx_get h63 | simp [h63]), ?_⟩
          cbv
          replace hh := if_or hh
          rcases hh with ⟨b64, hh⟩ | ⟨b64, hh⟩
          · have f65 : (eq e62_Sym (wrap .i64 (add s26 1))) = true := by cases hC; exact beq_iff_eq.2 b64
            rw [f65]; cbv
            replace hh := req_some hh
            obtain ⟨h66, hh⟩ := hh
            replace hh := bind_some hh
            obtain ⟨⟨e67_Kind, e67_Sym, e67_N, e67_Kids⟩, h68, hh⟩ := hh
            refine ⟨[.lit (.int .i64 e67_Kind), .lit (.int .i64 e67_Sym), .lit (.int .i64 e67_N), .tree (qGEx e67_Kids)], (by cases hC; subst he_GEx; exact decide_eq_false (Int.not_lt.2 (by first | exact h66 | (simp; done) | (simp; omega) | (simp at h66 ⊢; omega) | (simp at h66 ⊢; exact h66)))), (by cases hC; subst he_GEx; first | exact r_GEx_get h68 | simp [h68]), ?_⟩
            cbv
            replace hh := if_or hh
            rcases hh with ⟨b69, hh⟩ | ⟨b69, hh⟩
            · have f70 : (eq e67_N (wrap .i64 (add (wrap .i64 (add s26 1)) 1))) = true := by cases hC; exact beq_iff_eq.2 b69
              rw [f70]; cbv
              replace hh := req_some hh
              obtain ⟨h71, hh⟩ := hh
              replace hh := bind_some hh
              obtain ⟨⟨e72_Kind, e72_Sym, e72_N, e72_Kids⟩, h73, hh⟩ := hh
              refine ⟨[.lit (.int .i64 e72_Kind), .lit (.int .i64 e72_Sym), .lit (.int .i64 e72_N), .tree (qGEx e72_Kids)], (by cases hC; subst he_GEx; exact decide_eq_false (Int.not_lt.2 (by first | exact h71 | (simp; done) | (simp; omega) | (simp at h71 ⊢; omega) | (simp at h71 ⊢; exact h71)))), (by cases hC; subst he_GEx; first | exact r_GEx_get h73 | simp [h73]), ?_⟩
              cbv
              replace hh := bind_some hh
              obtain ⟨x75, h74, hh⟩ := hh
              have f76 := (ih k (Nat.lt_succ_self k)) h74
              try rw [he_GEx] at f76
              refine ⟨_, _, hF _ _ _ _ _ _ f76 (by cases hC; subst he_GEx; simp) rfl, ?_⟩
              cbv
              replace hh := if_or hh
              rcases hh with ⟨b77, hh⟩ | ⟨b77, hh⟩
              · have f78 : (lt x75 0) = true := by cases hC; exact decide_eq_true b77
                rw [f78]; cbv
                cases hh
                have hh : some _ = some _ := hq1
                refine hQ1 _ _ ?_
                cbv
                subst hr hp
                cases hh
                cases hC; subst he_GEx; first | (simp; done) | (simp <;> first | rfl | omega | grind)
              · have f78 : (lt x75 0) = false := by cases hC; exact decide_eq_false b77
                rw [f78]; cbv
                refine hN1 _ _ _ _ hh (Nat.lt_succ_self _) ?_
                rintro ⟨n, t0, t1, ⟨⟩⟩ e1
                refine cov_of [] ?_
                cbv
                all_goals (have e1_0 := congrArg (fun s => s.2.1) e1; dsimp only at e1_0; subst e1_0; have e1_1 := congrArg (fun s => s.2.2.1) e1; dsimp only at e1_1; subst e1_1; cases hC; subst he_GEx; (first | (simp; done) | (simp <;> first | rfl | omega | grind)))
            · have f70 : (eq e67_N (wrap .i64 (add (wrap .i64 (add s26 1)) 1))) = false := by cases hC; exact beq_false_of_ne b69
              rw [f70]; cbv
              cases hh
              have hh : some _ = some _ := hq1
              refine hQ1 _ _ ?_
              cbv
              subst hr hp
              cases hh
              cases hC; subst he_GEx; first | (simp; done) | (simp <;> first | rfl | omega | grind)
          · have f65 : (eq e62_Sym (wrap .i64 (add s26 1))) = false := by cases hC; exact beq_false_of_ne b64
            rw [f65]; cbv
            cases hh
            have hh : some _ = some _ := hq1
            refine hQ1 _ _ ?_
            cbv
            subst hr hp
            cases hh
            cases hC; subst he_GEx; first | (simp; done) | (simp <;> first | rfl | omega | grind)
        · have f60 : (eq e57_Kind s26) = false := by cases hC; exact beq_false_of_ne b59
          rw [f60]; cbv
          cases hh
          have hh : some _ = some _ := hq1
          refine hQ1 _ _ ?_
          cbv
          subst hr hp
          cases hh
          cases hC; subst he_GEx; first | (simp; done) | (simp <;> first | rfl | omega | grind)
      · have f55 : (lt s27 (cast (len (qGEx p0)))) = false := by cases hC; subst he_GEx; first | exact decide_eq_false b54 | (simp; done) | (simp; omega) | (simp at b54 ⊢; omega) | (simp at b54 ⊢; exact b54)
        rw [f55]; cbv
        refine hD1 _ _ hh ?_
        rintro t0 e1
        refine cov_of [] ?_
        cbv
        all_goals (subst e1; cases hC; subst he_GEx; (first | (simp; done) | (simp <;> first | rfl | omega | grind)))
theorem c_laws_heldExS {k : Nat} {p0 : List GEx} {p1 : Int} {r : Int} (hh : laws_heldExS.f k p0 p1 = some r) : FunW P 67 [.tree (r_GEx p0), .lit (.int .i64 p1)] [.hole, .hole] (.lit (.int .i64 r)) := (c_scc67 k) hh


theorem c_laws_heldEx {k : Nat} {p0 : GEx} {p1 : Int} {r : Int} (hh : laws_heldEx.f k p0 p1 = some r) : FunW P 32 [.agg [.lit (.int .i64 p0.Kind), .lit (.int .i64 p0.Sym), .lit (.int .i64 p0.N), .tree (r_GEx p0.Kids)], .lit (.int .i64 p1)] [.hole, .hole] (.lit (.int .i64 r)) := by
  obtain ⟨p0_Kind, p0_Sym, p0_N, p0_Kids⟩ := p0
  unfold laws_heldEx.f at hh
  refine fun_go2 eok mixed (ts := [(4, none)]) (rm := [.own]) (gs := [1000000, 1000001]) (pm := [.skip, .skip]) Try.func32 (by kernel_rfl) (by kernel_rfl) (by kernel_rfl) ?_
  intro Fn LW len cast toNat wrap add sub mul bin lt eq At set part app fz' rep nadd nmax ssize sext sget scat seq slt Wide Flat Ones Room r' post' hC hF hr hp
  generalize he_GEx : r_GEx = qGEx
  cbv
  replace hh := bind_some hh
  obtain ⟨x2, h1, hh⟩ := hh
  have f3 := c_laws_heldExS h1
  try rw [he_GEx] at f3
  refine ⟨_, _, hF _ _ _ _ _ _ f3 (by cases hC; subst he_GEx; simp) rfl, ?_⟩
  cbv
  replace hh := if_or hh
  rcases hh with ⟨b4, hh⟩ | ⟨b4, hh⟩
  · have f5 : (lt x2 0) = true := by cases hC; exact decide_eq_true b4
    rw [f5]; cbv
    subst hr hp
    cases hh
    cases hC; subst he_GEx; first | (simp; done) | (simp <;> first | rfl | omega | grind)
  · have f5 : (lt x2 0) = false := by cases hC; exact decide_eq_false b4
    rw [f5]; cbv
    subst hr hp
    cases hh
    cases hC; subst he_GEx; first | (simp; done) | (simp <;> first | rfl | omega | grind)
theorem c_laws_heldEx_L0 {k : Nat} {p0 : GEx} {p1 : Int} {r : Int} (hh : laws_heldEx.f k p0 p1 = some r) : FunW P 32 [.agg [.lit (.int .i64 p0.Kind), .lit (.int .i64 p0.Sym), .lit (.int .i64 p0.N), .inl 4 (r_GExO p0.Kids)], .lit (.int .i64 p1)] [.agg [.lit (.int .i64 p0.Kind), .lit (.int .i64 p0.Sym), .lit (.int .i64 p0.N), .inl 4 (r_GExO p0.Kids)], .hole] (.lit (.int .i64 r)) :=
  (c_laws_heldEx hh).lend (rfl) (.lend (by simp [-r_GExO_map, -r_GEx_map, Vm.fz, fzCells, r_GExO_fz]) (.same rfl .nil))

theorem c_laws_FnExactTurnEx {k : Nat} {p0 : GEx} {p1 : List Int} {r : Bool} (hh : laws_FnExactTurnEx.f k p0 p1 = some r) : FunW P 6 [.agg [.lit (.int .i64 p0.Kind), .lit (.int .i64 p0.Sym), .lit (.int .i64 p0.N), .tree (r_GEx p0.Kids)], .tree (r_Int p1)] [.hole, .hole] (.lit (.bool r)) := by
  obtain ⟨p0_Kind, p0_Sym, p0_N, p0_Kids⟩ := p0
  unfold laws_FnExactTurnEx.f at hh
  refine fun_go2 eok mixed (ts := [(4, none)]) (rm := [.own]) (gs := [1000000, 1000001]) (pm := [.skip, .skip]) Try.func6 (by kernel_rfl) (by kernel_rfl) (by kernel_rfl) ?_
  intro Fn LW len cast toNat wrap add sub mul bin lt eq At set part app fz' rep nadd nmax ssize sext sget scat seq slt Wide Flat Ones Room r' post' hC hF hr hp
  generalize he_GEx : r_GEx = qGEx
  generalize he_GExO : r_GExO = qGExO
  generalize he_Int : r_Int = qInt
  cbv
  replace hh := if_or hh
  rcases hh with ⟨b1, hh⟩ | ⟨b1, hh⟩
  · have f2 : (lt 1048576 (cast (len (qInt p1)))) = true := by cases hC; subst he_GEx he_GExO he_Int; first | exact decide_eq_true b1 | (simp; done) | (simp; omega) | (simp at b1 ⊢; omega) | (simp at b1 ⊢; exact b1)
    rw [f2]; cbv
    subst hr hp
    cases hh
    cases hC; subst he_GEx he_GExO he_Int; first | (simp; done) | (simp <;> first | rfl | omega | grind)
  · have f2 : (lt 1048576 (cast (len (qInt p1)))) = false := by cases hC; subst he_GEx he_GExO he_Int; first | exact decide_eq_false b1 | (simp; done) | (simp; omega) | (simp at b1 ⊢; omega) | (simp at b1 ⊢; exact b1)
    rw [f2]; cbv
    replace hh := bind_some hh
    obtain ⟨x4, h3, hh⟩ := hh
    have f5 := c_laws_szEx h3
    try rw [he_GEx] at f5
    try rw [he_GExO] at f5
    try rw [he_Int] at f5
    refine ⟨_, _, hF _ _ _ _ _ _ f5 (by cases hC; subst he_GEx he_GExO he_Int; simp) rfl, ?_⟩
    cbv
    replace hh := if_or hh
    rcases hh with ⟨b6, hh⟩ | ⟨b6, hh⟩
    · have f7 : (lt x4 0) = true := by cases hC; exact decide_eq_true b6
      rw [f7]; cbv
      subst hr hp
      cases hh
      cases hC; subst he_GEx he_GExO he_Int; first | (simp; done) | (simp <;> first | rfl | omega | grind)
    · have f7 : (lt x4 0) = false := by cases hC; exact decide_eq_false b6
      rw [f7]; cbv
      replace hh := bind_some hh
      obtain ⟨⟨x9_Kind, x9_Sym, x9_N, x9_Kids⟩, h8, hh⟩ := hh
      have f10 := c_laws_toEx h8
      try rw [he_GEx] at f10
      try rw [he_GExO] at f10
      try rw [he_Int] at f10
      refine ⟨_, _, hF _ _ _ _ _ _ f10 (by cases hC; subst he_GEx he_GExO he_Int; simp) rfl, ?_⟩
      cbv
      replace hh := bind_some hh
      obtain ⟨x12, h11, hh⟩ := hh
      have f13 := c_laws_toIntS h11
      try rw [he_GEx] at f13
      try rw [he_GExO] at f13
      try rw [he_Int] at f13
      refine ⟨_, _, hF _ _ _ _ _ _ f13 (by cases hC; subst he_GEx he_GExO he_Int; simp) rfl, ?_⟩
      cbv
      replace hh := bind_some hh
      obtain ⟨⟨x15_Kind, x15_Sym, x15_N, x15_Kids⟩, h14, hh⟩ := hh
      have f16 := c_spec_TurnEx_L0_1 h14
      try rw [he_GEx] at f16
      try rw [he_GExO] at f16
      try rw [he_Int] at f16
      refine ⟨_, _, hF _ _ _ _ _ _ f16 (by cases hC; subst he_GEx he_GExO he_Int; simp) rfl, ?_⟩
      cbv
      replace hh := bind_some hh
      obtain ⟨⟨x18_Kind, x18_Sym, x18_N, x18_Kids⟩, h17, hh⟩ := hh
      have f19 := c_laws_toEx h17
      try rw [he_GEx] at f19
      try rw [he_GExO] at f19
      try rw [he_Int] at f19
      refine ⟨_, _, hF _ _ _ _ _ _ f19 (by cases hC; subst he_GEx he_GExO he_Int; simp) rfl, ?_⟩
      cbv
      replace hh := bind_some hh
      obtain ⟨x21, h20, hh⟩ := hh
      have f22 := c_laws_toIntS h20
      try rw [he_GEx] at f22
      try rw [he_GExO] at f22
      try rw [he_Int] at f22
      refine ⟨_, _, hF _ _ _ _ _ _ f22 (by cases hC; subst he_GEx he_GExO he_Int; simp) rfl, ?_⟩
      cbv
      replace hh := bind_some hh
      obtain ⟨⟨x24_Kind, x24_Sym, x24_N, x24_Kids⟩, h23, hh⟩ := hh
      have f25 := c_impl_TurnEx_L0_1 h23
      try rw [he_GEx] at f25
      try rw [he_GExO] at f25
      try rw [he_Int] at f25
      refine ⟨_, _, hF _ _ _ _ _ _ f25 (by cases hC; subst he_GEx he_GExO he_Int; simp) rfl, ?_⟩
      cbv
      replace hh := bind_some hh
      obtain ⟨x27, h26, hh⟩ := hh
      have f28 := c_laws_eqEx_L0_1 h26
      try rw [he_GEx] at f28
      try rw [he_GExO] at f28
      try rw [he_Int] at f28
      refine ⟨_, _, hF _ _ _ _ _ _ f28 (by cases hC; subst he_GEx he_GExO he_Int; simp) rfl, ?_⟩
      cbv
      replace hh := if_or hh
      rcases hh with ⟨b29, hh⟩ | ⟨b29, hh⟩
      · have f30 : x27 = true := by exact b29
        rw [f30]; cbv
        replace hh := bind_some hh
        obtain ⟨⟨x32_Kind, x32_Sym, x32_N, x32_Kids⟩, h31, hh⟩ := hh
        have f33 := c_laws_toEx h31
        try rw [he_GEx] at f33
        try rw [he_GExO] at f33
        try rw [he_Int] at f33
        refine ⟨_, _, hF _ _ _ _ _ _ f33 (by cases hC; subst he_GEx he_GExO he_Int; simp) rfl, ?_⟩
        cbv
        replace hh := bind_some hh
        obtain ⟨x35, h34, hh⟩ := hh
        have f36 := c_laws_eqEx_L0_1 h34
        try rw [he_GEx] at f36
        try rw [he_GExO] at f36
        try rw [he_Int] at f36
        refine ⟨_, _, hF _ _ _ _ _ _ f36 (by cases hC; subst he_GEx he_GExO he_Int; simp) rfl, ?_⟩
        cbv
        replace hh := if_or hh
        rcases hh with ⟨b37, hh⟩ | ⟨b37, hh⟩
        · have f38 : x35 = true := by exact b37
          rw [f38]; cbv
          replace hh := bind_some hh
          obtain ⟨x40, h39, hh⟩ := hh
          have f41 := c_laws_toIntS h39
          try rw [he_GEx] at f41
          try rw [he_GExO] at f41
          try rw [he_Int] at f41
          refine ⟨_, _, hF _ _ _ _ _ _ f41 (by cases hC; subst he_GEx he_GExO he_Int; simp) rfl, ?_⟩
          cbv
          replace hh := bind_some hh
          obtain ⟨x43, h42, hh⟩ := hh
          have f44 := c_laws_eqIntS_L0_1 h42
          try rw [he_GEx] at f44
          try rw [he_GExO] at f44
          try rw [he_Int] at f44
          refine ⟨_, _, hF _ _ _ _ _ _ f44 (by cases hC; subst he_GEx he_GExO he_Int; simp) rfl, ?_⟩
          cbv
          replace hh := if_or hh
          rcases hh with ⟨b45, hh⟩ | ⟨b45, hh⟩
          · have f46 : x43 = true := by exact b45
            rw [f46]; cbv
            replace hh := bind_some hh
            obtain ⟨⟨x48_0, ⟨x48_1_Kind, x48_1_Sym, x48_1_N, x48_1_Kids⟩⟩, h47, hh⟩ := hh
            replace hh := req_some hh
            obtain ⟨h93, hh⟩ := hh
            try dsimp only at h93
            have f49 := c_laws_markEx h47
            try rw [he_GEx] at f49
            try rw [he_GExO] at f49
            try rw [he_Int] at f49
            refine ⟨_, _, hF _ _ _ _ _ _ f49 (by cases hC; subst he_GEx he_GExO he_Int; simp) rfl, ?_⟩
            cbv
            replace hh := bind_some hh
            obtain ⟨⟨x51_0, x51_1⟩, h50, hh⟩ := hh
            replace hh := req_some hh
            obtain ⟨h92, hh⟩ := hh
            try dsimp only at h92
            have f52 := c_laws_markIntS h50
            try rw [he_GEx] at f52
            try rw [he_GExO] at f52
            try rw [he_Int] at f52
            refine ⟨_, _, hF _ _ _ _ _ _ f52 (by cases hC; subst he_GEx he_GExO he_Int; simp) rfl, ?_⟩
            cbv
            replace hh := if_or hh
            rcases hh with ⟨b53, hh⟩ | ⟨b53, hh⟩
            · have f54 : (lt x51_0 0) = true := by cases hC; exact decide_eq_true b53
              rw [f54]; cbv
              subst hr hp
              cases hh
              cases hC; subst he_GEx he_GExO he_Int; first | (simp; done) | (simp <;> first | rfl | omega | grind)
            · have f54 : (lt x51_0 0) = false := by cases hC; exact decide_eq_false b53
              rw [f54]; cbv
              replace hh := bind_some hh
              obtain ⟨x56, h55, hh⟩ := hh
              have f57 := c_laws_eqEx_L0_1 h55
              try rw [he_GEx] at f57
              try rw [he_GExO] at f57
              try rw [he_Int] at f57
              refine ⟨_, _, hF _ _ _ _ _ _ f57 (by cases hC; subst he_GEx he_GExO he_Int; simp) rfl, ?_⟩
              cbv
              replace hh := if_or hh
              rcases hh with ⟨b58, hh⟩ | ⟨b58, hh⟩
              · have f59 : x56 = true := by exact b58
                rw [f59]; cbv
                replace hh := bind_some hh
                obtain ⟨⟨x61_0, ⟨x61_1_Kind, x61_1_Sym, x61_1_N, x61_1_Kids⟩⟩, h60, hh⟩ := hh
                replace hh := req_some hh
                obtain ⟨h91, hh⟩ := hh
                try dsimp only at h91
                have f62 := c_laws_markEx h60
                try rw [he_GEx] at f62
                try rw [he_GExO] at f62
                try rw [he_Int] at f62
                refine ⟨_, _, hF _ _ _ _ _ _ f62 (by cases hC; subst he_GEx he_GExO he_Int; simp) rfl, ?_⟩
                cbv
                replace hh := bind_some hh
                obtain ⟨x64, h63, hh⟩ := hh
                refine ⟨by cases hC; subst he_GEx he_GExO he_Int; first | (simp; done) | (simp; first | omega | (simp only [natc] at *; omega)), ?_⟩
                have f65 := c_laws_heldEx_L0 h63
                try rw [he_GEx] at f65
                try rw [he_GExO] at f65
                try rw [he_Int] at f65
                refine ⟨_, _, hF _ _ _ _ _ _ f65 (by cases hC; subst he_GEx he_GExO he_Int; simp) rfl, ?_⟩
                cbv
                replace hh := if_or hh
                rcases hh with ⟨b66, hh⟩ | ⟨b66, hh⟩
                · have f67 : (lt x64 0) = true := by cases hC; exact decide_eq_true b66
                  rw [f67]; cbv
                  subst hr hp
                  cases hh
                  cases hC; subst he_GEx he_GExO he_Int; first | (simp; done) | (simp <;> first | rfl | omega | grind)
                · have f67 : (lt x64 0) = false := by cases hC; exact decide_eq_false b66
                  rw [f67]; cbv
                  replace hh := if_or hh
                  rcases hh with ⟨b68, hh⟩ | ⟨b68, hh⟩
                  · have f69 : (eq x64 x61_0) = true := by cases hC; exact beq_iff_eq.2 b68
                    rw [f69]; cbv
                    replace hh := bind_some hh
                    obtain ⟨⟨x71_Kind, x71_Sym, x71_N, x71_Kids⟩, h70, hh⟩ := hh
                    have f72 := c_laws_toEx h70
                    try rw [he_GEx] at f72
                    try rw [he_GExO] at f72
                    try rw [he_Int] at f72
                    refine ⟨_, _, hF _ _ _ _ _ _ f72 (by cases hC; subst he_GEx he_GExO he_Int; simp) rfl, ?_⟩
                    cbv
                    replace hh := bind_some hh
                    obtain ⟨x74, h73, hh⟩ := hh
                    have f75 := c_laws_toIntS h73
                    try rw [he_GEx] at f75
                    try rw [he_GExO] at f75
                    try rw [he_Int] at f75
                    refine ⟨_, _, hF _ _ _ _ _ _ f75 (by cases hC; subst he_GEx he_GExO he_Int; simp) rfl, ?_⟩
                    cbv
                    replace hh := bind_some hh
                    obtain ⟨⟨x77_Kind, x77_Sym, x77_N, x77_Kids⟩, h76, hh⟩ := hh
                    have f78 := c_impl_TurnEx_L0_1 h76
                    try rw [he_GEx] at f78
                    try rw [he_GExO] at f78
                    try rw [he_Int] at f78
                    refine ⟨_, _, hF _ _ _ _ _ _ f78 (by cases hC; subst he_GEx he_GExO he_Int; simp) rfl, ?_⟩
                    cbv
                    replace hh := bind_some hh
                    obtain ⟨x80, h79, hh⟩ := hh
                    have f81 := c_laws_eqEx_L0_1 h79
                    try rw [he_GEx] at f81
                    try rw [he_GExO] at f81
                    try rw [he_Int] at f81
                    refine ⟨_, _, hF _ _ _ _ _ _ f81 (by cases hC; subst he_GEx he_GExO he_Int; simp) rfl, ?_⟩
                    cbv
                    replace hh := if_or hh
                    rcases hh with ⟨b82, hh⟩ | ⟨b82, hh⟩
                    · have f83 : x80 = true := by exact b82
                      rw [f83]; cbv
                      replace hh := bind_some hh
                      obtain ⟨x85, h84, hh⟩ := hh
                      refine ⟨by cases hC; subst he_GEx he_GExO he_Int; first | (simp; done) | (simp; first | omega | (simp only [natc] at *; omega)), ?_⟩
                      have f86 := c_laws_heldEx_L0 h84
                      try rw [he_GEx] at f86
                      try rw [he_GExO] at f86
                      try rw [he_Int] at f86
                      refine ⟨_, _, hF _ _ _ _ _ _ f86 (by cases hC; subst he_GEx he_GExO he_Int; simp) rfl, ?_⟩
                      cbv
                      replace hh := if_or hh
                      rcases hh with ⟨b87, hh⟩ | ⟨b87, hh⟩
                      · have f88 : (lt x85 0) = true := by cases hC; exact decide_eq_true b87
                        rw [f88]; cbv
                        subst hr hp
                        cases hh
                        cases hC; subst he_GEx he_GExO he_Int; first | (simp; done) | (simp <;> first | rfl | omega | grind)
                      · have f88 : (lt x85 0) = false := by cases hC; exact decide_eq_false b87
                        rw [f88]; cbv
                        replace hh := if_or hh
                        rcases hh with ⟨b89, hh⟩ | ⟨b89, hh⟩
                        · have f90 : (eq x85 x61_0) = true := by cases hC; exact beq_iff_eq.2 b89
                          rw [f90]; cbv
                          subst hr hp
                          cases hh
                          cases hC; subst he_GEx he_GExO he_Int; first | (simp; done) | (simp <;> first | rfl | omega | grind)
                        · have f90 : (eq x85 x61_0) = false := by cases hC; exact beq_false_of_ne b89
                          rw [f90]; cbv
                          subst hr hp
                          cases hh
                          cases hC; subst he_GEx he_GExO he_Int; first | (simp; done) | (simp <;> first | rfl | omega | grind)
                    · have f83 : x80 = false := by exact Bool.eq_false_iff.2 b82
                      rw [f83]; cbv
                      subst hr hp
                      cases hh
                      cases hC; subst he_GEx he_GExO he_Int; first | (simp; done) | (simp <;> first | rfl | omega | grind)
                  · have f69 : (eq x64 x61_0) = false := by cases hC; exact beq_false_of_ne b68
                    rw [f69]; cbv
                    subst hr hp
                    cases hh
                    cases hC; subst he_GEx he_GExO he_Int; first | (simp; done) | (simp <;> first | rfl | omega | grind)
              · have f59 : x56 = false := by exact Bool.eq_false_iff.2 b58
                rw [f59]; cbv
                subst hr hp
                cases hh
                cases hC; subst he_GEx he_GExO he_Int; first | (simp; done) | (simp <;> first | rfl | omega | grind)
          · have f46 : x43 = false := by exact Bool.eq_false_iff.2 b45
            rw [f46]; cbv
            subst hr hp
            cases hh
            cases hC; subst he_GEx he_GExO he_Int; first | (simp; done) | (simp <;> first | rfl | omega | grind)
        · have f38 : x35 = false := by exact Bool.eq_false_iff.2 b37
          rw [f38]; cbv
          subst hr hp
          cases hh
          cases hC; subst he_GEx he_GExO he_Int; first | (simp; done) | (simp <;> first | rfl | omega | grind)
      · have f30 : x27 = false := by exact Bool.eq_false_iff.2 b29
        rw [f30]; cbv
        subst hr hp
        cases hh
        cases hC; subst he_GEx he_GExO he_Int; first | (simp; done) | (simp <;> first | rfl | omega | grind)

end Go.Proofs.Ytgbgabkdbfeibaa
