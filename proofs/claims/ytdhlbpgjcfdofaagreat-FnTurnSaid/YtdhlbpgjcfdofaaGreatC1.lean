/- The functions of this program do what the plain ones do. -/
import Derived.Test.YtdhlbpgjcfdofaaGreatC0
namespace Go.Proofs.YtdhlbpgjcfdofaaGreat
open Go Go.Vm
set_option linter.unusedVariables false
set_option maxHeartbeats 4000000
variable {qGEx : List GEx → Vm.Rows} {qGEv : List GEv → Vm.Rows} {qInt : List Int → Vm.Rows} {qGOcc : List GOcc → Vm.Rows} {qGOccO : List GOcc → Vm.Rows} {qLGOcc : List (List GOcc) → Vm.Rows} {qLGOccO : List (List GOcc) → Vm.Rows} {qBool : List Bool → Vm.Rows} {qIu8 : List Int → Vm.Rows} {qGExO : List GEx → Vm.Rows} {qLInt : List (List Int) → Vm.Rows} (hQ : EQ qGEx qGEv qInt qGOcc qGOccO qLGOcc qLGOccO qBool qIu8 qGExO qLInt)
include hQ
theorem c_spec_l6Look {k : Nat} {p0 : Gl14Rd} {r : GEx × Int × (List GEv) × Gl14Rd} (hh : spec_l6Look.f k p0 = some r) : FunW P 64 [.obox [tA (qIu8 p0.b), iA p0.p]] [.obox [tA (qIu8 r.2.2.2.b), iA r.2.2.2.p]] (.tup [.agg [iA r.1.Kind, iA r.1.Sym, iA r.1.N, oA 4 (qGExO r.1.Kids)], iA r.2.1, oA 3 (qGEv r.2.2.1)]) := by
 obtain ⟨p0a, p0b⟩ := p0
 unfold spec_l6Look.f at hh
 refine go (ts := [(2, some 25), (3, none), (4, none)]) (rm := [.own, .own, .own]) (pm := [.own]) Tryz.func64 ?_
 intro Fn LW len cast toNat wrap add sub mul bin lt eq At set part app fz' rep nadd nmax ssize sext sget scat seq slt Wide Flat Ones Room r' post' hC hF hr hp
 cbv
 replace hh := bind_some hh
 obtain ⟨⟨⟨x2_0a, x2_0b, x2_0c, x2_0d⟩, ⟨x2_1a, x2_1b⟩⟩, h1, hh⟩ := hh
 try dsimp only at hh
 have fc := c_spec_l2Some hQ h1
 try dsimp only at fc
 refine go_call hF fc ?_
 cbv
 replace hh := bind_some hh
 obtain ⟨⟨x5_0, ⟨x5_1a, x5_1b⟩⟩, h4, hh⟩ := hh
 try dsimp only at hh
 have fc := c_spec_l4Draw hQ h4
 try dsimp only at fc
 refine go_call hF fc ?_
 cbv
 replace hh := bind_some hh
 obtain ⟨⟨x8_0, ⟨x8_1a, x8_1b⟩⟩, h7, hh⟩ := hh
 try dsimp only at hh
 have fc := c_spec_l14Rd_pick hQ h7
 try dsimp only at fc
 refine go_call hF fc ?_
 cbv
 refine bcs (fun f11 => ?_) (fun f11 => ?_)
 ·
  replace hh := ifT hh f11
  try rw [f11]
  cbv
  replace hh := bind_some hh
  obtain ⟨⟨⟨x13_0a, x13_0b, x13_0c, x13_0d⟩, ⟨x13_1a, x13_1b⟩⟩, h12, hh⟩ := hh
  try dsimp only at hh
  have fc := c_spec_l2Bent hQ h12
  try dsimp only at fc
  refine go_call hF fc ?_
  cbv
  replace hh := bind_some hh
  obtain ⟨⟨x16_0, ⟨x16_1a, x16_1b⟩⟩, h15, hh⟩ := hh
  try dsimp only at hh
  have fc := c_spec_l1Evs hQ h15
  try dsimp only at fc
  refine go_call hF fc ?_
  cbv
  exact Eb
 ·
  replace hh := ifF hh f11
  try rw [f11]
  cbv
  refine bcs (fun f19 => ?_) (fun f19 => ?_)
  ·
   replace hh := ifT hh f19
   try rw [f19]
   cbv
   replace hh := bind_some hh
   obtain ⟨⟨x21_0, ⟨x21_1a, x21_1b⟩⟩, h20, hh⟩ := hh
   try dsimp only at hh
   have fc := c_spec_l1Bent hQ h20
   try dsimp only at fc
   refine go_call hF fc ?_
   cbv
   exact Eb
  ·
   replace hh := ifF hh f19
   try rw [f19]
   cbv
   refine bcs (fun f24 => ?_) (fun f24 => ?_)
   ·
    replace hh := ifT hh f24
    try rw [f24]
    cbv
    replace hh := bind_some hh
    obtain ⟨⟨x26_0, ⟨x26_1a, x26_1b⟩⟩, h25, hh⟩ := hh
    try dsimp only at hh
    have fc := c_spec_l1Evs hQ h25
    try dsimp only at fc
    refine go_call hF fc ?_
    cbv
    exact Eb
   ·
    replace hh := ifF hh f24
    try rw [f24]
    cbv
    replace hh := bind_some hh
    obtain ⟨⟨x29_0, ⟨x29_1a, x29_1b⟩⟩, h28, hh⟩ := hh
    try dsimp only at hh
    have fc := c_spec_l1Evs hQ h28
    try dsimp only at fc
    refine go_call hF fc ?_
    cbv
    exact Eb

theorem c_spec_DrawMeanOf {k : Nat} {p0 : List Int} {r : GEx × Int × (List GEv)} (hh : spec_DrawMeanOf.f k p0 = some r) : FunW P 16 [tA (qIu8 p0)] [hA] (.tup [.agg [iA r.1.Kind, iA r.1.Sym, iA r.1.N, oA 4 (qGExO r.1.Kids)], iA r.2.1, oA 3 (qGEv r.2.2)]) := by
 unfold spec_DrawMeanOf.f at hh
 refine go (ts := [(2, some 25), (3, none), (4, none)]) (rm := [.own, .own, .own]) (pm := [.skip]) Tryz.func16 ?_
 intro Fn LW len cast toNat wrap add sub mul bin lt eq At set part app fz' rep nadd nmax ssize sext sget scat seq slt Wide Flat Ones Room r' post' hC hF hr hp
 cbv
 replace hh := bind_some hh
 obtain ⟨⟨x2a, x2b⟩, h1, hh⟩ := hh
 try dsimp only at hh
 refine go_call hF (c_spec_l14Open hQ h1) ?_
 cbv
 replace hh := bind_some hh
 obtain ⟨⟨⟨x5_0a, x5_0b, x5_0c, x5_0d⟩, x5_1, x5_2, ⟨x5_3a, x5_3b⟩⟩, h4, hh⟩ := hh
 try dsimp only at hh
 have fc := c_spec_l6Look hQ h4
 try dsimp only at fc
 refine go_call hF fc ?_
 cbv
 exact Eb

theorem c_scc81 : ∀ k : Nat, (∀ {p0 : GEx} {r : Int × Int}, impl_Ex_size.f k p0 = some r → FunW P 81 [.agg [iA p0.Kind, iA p0.Sym, iA p0.N, tA (qGEx p0.Kids)]] [hA] (.tup [iA r.1, iA r.2])) := by
  intro k
  induction k using Nat.strongRecOn with
  | _ k ih =>
  · intro p0 r hh
    cases k with
    | zero => unfold impl_Ex_size.f at hh; cases hh
    | succ k =>
    obtain ⟨p0a, p0b, p0c, p0d⟩ := p0
    unfold impl_Ex_size.f at hh
    refine go (ts := [(2, none), (3, none)]) (rm := [.own, .own]) (pm := [.skip]) Tryz.func81 ?_
    intro Fn LW len cast toNat wrap add sub mul bin lt eq At set part app fz' rep nadd nmax ssize sext sget scat seq slt Wide Flat Ones Room r' post' hC hF hr hp
    cbv
    replace hh := bind_some hh
    obtain ⟨o1, hl1, hq1⟩ := hh
    refine loop_go4 hC eok mixed (fun n (i : Int × Int × Int) => impl_Ex_size.l0 k (impl_Ex_size.f k) (⟨p0a, p0b, p0c, p0d⟩ : GEx) n i.1 i.2.1 i.2.2)
     (fun ⟨s11, s12, s13⟩ => (⟨[(4, iA s11), (5, iA s12), (11, tA (qGEx p0d)), (12, iA (cast (len (qGEx p0d)))), (13, iA s13)], []⟩ : St))
     (fun (⟨x24, x25⟩ : Int × Int) => (⟨[(4, iA x24), (5, iA x25)], []⟩ : St)) (fun x => x) (.exit 0)
     (i0 := (_, _, _)) hl1 (fun _ => rfl) ?_ ?_ ?_
    ·
     rintro ⟨t0, t1, t2⟩ e
     refine cov_of [] ?_
     cbv
     all_goals exact J3
    ·
     rintro ⟨x24, x25⟩ hx
     subst o1
     have hh := hq1
     cbv
     exact Eb
    ·
     rintro n ⟨s11, s12, s13⟩ N1 D1 hh hN1 hD1 hQ1
     dsimp only at hh
     unfold impl_Ex_size.l0 at hh
     cbv
     refine bcs (fun f27 => ?_) (fun f27 => ?_)
     ·
      replace hh := ifT hh f27
      try rw [f27]
      cbv
      replace hh := req_some hh
      obtain ⟨h28, hh⟩ := hh
      replace hh := bind_some hh
      obtain ⟨⟨e29a, e29b, e29c, e29d⟩, h30, hh⟩ := hh
      try dsimp only at hh
      refine ⟨[iA e29a, iA e29b, iA e29c, tA (qGEx e29d)], Nb h28, Gb h30, ?_⟩
      cbv
      replace hh := bind_some hh
      obtain ⟨⟨x32_0, x32_1⟩, h31, hh⟩ := hh
      try dsimp only at hh
      refine go_call hF ((ih k (Nat.lt_succ_self k)) h31) ?_
      cbv
      replace hh := if_or hh
      rcases hh with ⟨b34, hh⟩ | ⟨b34, hh⟩
      ·
       have f35 : (lt s12 (wrap .i64 (add x32_1 1))) = true := Tb b34
       have g := f35; cbv at g; try rw [f35]
       try rw [g]
       cbv
       refine hN1 (_, _, _) _ hh fun ⟨t0, t1, t2⟩ e => ?_
       refine cov_of [] ?_
       cbv
       all_goals exact J3
      ·
       have f35 : (lt s12 (wrap .i64 (add x32_1 1))) = false := Fb b34
       have g := f35; cbv at g; try rw [f35]
       try rw [g]
       cbv
       refine hN1 (_, _, _) _ hh fun ⟨t0, t1, t2⟩ e => ?_
       refine cov_of [] ?_
       cbv
       all_goals exact J3
     ·
      replace hh := ifF hh f27
      try rw [f27]
      cbv
      refine hD1 (_, _) _ hh fun ⟨t0, t1⟩ e => ?_
      refine cov_of [] ?_
      cbv
      all_goals exact J2
theorem c_impl_Ex_size {k : Nat} {p0 : GEx} {r : Int × Int} (hh : impl_Ex_size.f k p0 = some r) : FunW P 81 [.agg [iA p0.Kind, iA p0.Sym, iA p0.N, tA (qGEx p0.Kids)]] [hA] (.tup [iA r.1, iA r.2]) := (c_scc81 hQ k) hh


theorem c_impl_in {p0 : Int} {p1 : Int} {p2 : Int} {r : Bool} (hh : impl_in.f p0 p1 p2 = some r) : FunW P 82 [iA p0, iA p1, iA p2] [hA, hA, hA] (bA r) := by
 unfold impl_in.f at hh
 refine go (ts := [(6, none)]) (rm := [.own]) (pm := [.skip, .skip, .skip]) Tryz.func82 ?_
 intro Fn LW len cast toNat wrap add sub mul bin lt eq At set part app fz' rep nadd nmax ssize sext sget scat seq slt Wide Flat Ones Room r' post' hC hF hr hp
 cbv
 replace hh := if_or hh
 rcases hh with ⟨b1, hh⟩ | ⟨b1, hh⟩
 ·
  have f2 : (lt p0 p1) = true := Tb b1
  have g := f2; cbv at g; try rw [f2]
  try rw [g]
  cbv
  exact Eb
 ·
  have f2 : (lt p0 p1) = false := Fb b1
  have g := f2; cbv at g; try rw [f2]
  try rw [g]
  cbv
  exact Eb

theorem c_impl_isKind {p0 : Int} {r : Bool} (hh : impl_isKind.f p0 = some r) : FunW P 135 [iA p0] [hA] (bA r) := by
 unfold impl_isKind.f at hh
 refine go (ts := [(2, none)]) (rm := [.own]) (pm := [.skip]) Tryz.func135 ?_
 intro Fn LW len cast toNat wrap add sub mul bin lt eq At set part app fz' rep nadd nmax ssize sext sget scat seq slt Wide Flat Ones Room r' post' hC hF hr hp
 cbv
 replace hh := bind_some hh
 obtain ⟨x2, h1, hh⟩ := hh
 refine go_call hF (c_impl_in hQ h1) ?_
 cbv
 exact Eb

theorem c_impl_kids {p0 : Int} {r : Int} (hh : impl_kids.f p0 = some r) : FunW P 136 [iA p0] [hA] (iA r) := by
 unfold impl_kids.f at hh
 refine go (ts := [(2, none)]) (rm := [.own]) (pm := [.skip]) Tryz.func136 ?_
 intro Fn LW len cast toNat wrap add sub mul bin lt eq At set part app fz' rep nadd nmax ssize sext sget scat seq slt Wide Flat Ones Room r' post' hC hF hr hp
 cbv
 replace hh := req_some hh
 obtain ⟨h1, hh⟩ := hh
 replace hh := req_some hh
 obtain ⟨h2, hh⟩ := hh
 refine ⟨Nb h1, Mb h2, ?_⟩
 replace hh := bind_some hh
 obtain ⟨e3, h4, hh⟩ := hh
 refine ⟨[iA e3], Gb h4, ?_⟩
 cbv
 exact Eb

theorem c_impl_isSym {p0 : Int} {r : Bool} (hh : impl_isSym.f p0 = some r) : FunW P 71 [iA p0] [hA] (bA r) := by
 unfold impl_isSym.f at hh
 refine go (ts := [(2, none)]) (rm := [.own]) (pm := [.skip]) Tryz.func71 ?_
 intro Fn LW len cast toNat wrap add sub mul bin lt eq At set part app fz' rep nadd nmax ssize sext sget scat seq slt Wide Flat Ones Room r' post' hC hF hr hp
 cbv
 replace hh := bind_some hh
 obtain ⟨x2, h1, hh⟩ := hh
 refine go_call hF (c_impl_in hQ h1) ?_
 cbv
 exact Eb

theorem c_slices_IndexFunc_impl_Ex_formed_1 {k : Nat} {g1 : GEx → Option Bool} (hg1 : ∀ {y0 : GEx} {r : Bool}, g1 y0 = some r → FunW P 138 [.agg [iA y0.Kind, iA y0.Sym, iA y0.N, tA (qGEx y0.Kids)]] [hA] (bA r)) {p0 : List GEx} {r : Int} (hh : slices_IndexFunc.f g1 k p0 = some r) : FunW P 161 [tA (qGEx p0), .clo 138 []] [hA, hA] (iA r) := by
 unfold slices_IndexFunc.f at hh
 refine go (ts := [(4, none)]) (rm := [.own]) (pm := [.skip, .skip]) Tryz.func161 ?_
 intro Fn LW len cast toNat wrap add sub mul bin lt eq At set part app fz' rep nadd nmax ssize sext sget scat seq slt Wide Flat Ones Room r' post' hC hF hr hp
 cbv
 replace hh := bind_some hh
 obtain ⟨o1, hl1, hq1⟩ := hh
 refine loop_go4 hC eok mixed (slices_IndexFunc.l0 k g1 p0)
  (fun s11 => (⟨[(0, tA (qGEx p0)), (1, .clo 138 []), (7, iA (cast (len (qGEx p0)))), (8, iA s11)], []⟩ : St))
  (fun (_ : Unit) => (⟨[], []⟩ : St)) .ok (.exit 0)
  (i0 := _) hl1 (fun _ => rfl) ?_ ?_ ?_
 ·
  rintro t0 e
  refine cov_of [] ?_
  cbv
  all_goals exact J1
 ·
  rintro _ hx
  subst o1
  have hh := hq1
  cbv
  exact Eb
 ·
  rintro n s11 N1 D1 hh hN1 hD1 hQ1
  unfold slices_IndexFunc.l0 at hh
  cbv
  refine bcs (fun f23 => ?_) (fun f23 => ?_)
  ·
   replace hh := ifT hh f23
   try rw [f23]
   cbv
   replace hh := req_some hh
   obtain ⟨h24, hh⟩ := hh
   replace hh := bind_some hh
   obtain ⟨⟨e25a, e25b, e25c, e25d⟩, h26, hh⟩ := hh
   try dsimp only at hh
   refine ⟨[iA e25a, iA e25b, iA e25c, tA (qGEx e25d)], Nb h24, Gb h26, ?_⟩
   cbv
   replace hh := bind_some hh
   obtain ⟨x28, h27, hh⟩ := hh
   refine go_call hF (hg1 h27) ?_
   cbv
   refine bcs (fun f31 => ?_) (fun f31 => ?_)
   ·
    replace hh := ifT hh f31
    try rw [f31]
    cbv
    cases hh
    have hh : some _ = some _ := hq1
    refine hQ1 _ _ ?_
    cbv
    exact Eb
   ·
    replace hh := ifF hh f31
    try rw [f31]
    cbv
    refine hN1 _ _ hh fun t0 e => ?_
    refine cov_of [] ?_
    cbv
    all_goals exact J1
  ·
   replace hh := ifF hh f23
   try rw [f23]
   cbv
   refine hD1 () _ hh fun _ e => ?_
   refine cov_of [] ?_
   cbv
   all_goals exact J0

theorem c_slices_ContainsFunc_impl_Ex_formed_1 {k : Nat} {g1 : GEx → Option Bool} (hg1 : ∀ {y0 : GEx} {r : Bool}, g1 y0 = some r → FunW P 138 [.agg [iA y0.Kind, iA y0.Sym, iA y0.N, tA (qGEx y0.Kids)]] [hA] (bA r)) {p0 : List GEx} {r : Bool} (hh : slices_ContainsFunc.f g1 k p0 = some r) : FunW P 137 [tA (qGEx p0), .clo 138 []] [hA, hA] (bA r) := by
 unfold slices_ContainsFunc.f at hh
 refine go (ts := [(4, none)]) (rm := [.own]) (pm := [.skip, .skip]) Tryz.func137 ?_
 intro Fn LW len cast toNat wrap add sub mul bin lt eq At set part app fz' rep nadd nmax ssize sext sget scat seq slt Wide Flat Ones Room r' post' hC hF hr hp
 cbv
 replace hh := bind_some hh
 obtain ⟨x2, h1, hh⟩ := hh
 refine go_call hF (c_slices_IndexFunc_impl_Ex_formed_1 hQ (g1 := g1) hg1 h1) ?_
 cbv
 exact Eb

theorem c_scc95 : ∀ k : Nat, (∀ {p0 : GEx} {r : Bool}, impl_Ex_formed_1.f k p0 = some r → FunW P 138 [.agg [iA p0.Kind, iA p0.Sym, iA p0.N, tA (qGEx p0.Kids)]] [hA] (bA r)) ∧ (∀ {p0 : GEx} {r : Bool}, impl_Ex_formed.f k p0 = some r → FunW P 95 [.agg [iA p0.Kind, iA p0.Sym, iA p0.N, tA (qGEx p0.Kids)]] [hA] (bA r)) := by
  intro k
  induction k using Nat.strongRecOn with
  | _ k ih =>
  refine ⟨?_, ?_⟩
  · intro p0 r hh
    cases k with
    | zero => unfold impl_Ex_formed_1.f at hh; cases hh
    | succ k =>
    obtain ⟨p0a, p0b, p0c, p0d⟩ := p0
    unfold impl_Ex_formed_1.f at hh
    refine go (ts := [(2, none)]) (rm := [.own]) (pm := [.skip]) Tryz.func138 ?_
    intro Fn LW len cast toNat wrap add sub mul bin lt eq At set part app fz' rep nadd nmax ssize sext sget scat seq slt Wide Flat Ones Room r' post' hC hF hr hp
    cbv
    replace hh := bind_some hh
    obtain ⟨x2, h1, hh⟩ := hh
    refine go_call hF ((ih k (Nat.lt_succ_self k)).2 h1) ?_
    cbv
    exact Eb
  · intro p0 r hh
    cases k with
    | zero => unfold impl_Ex_formed.f at hh; cases hh
    | succ k =>
    obtain ⟨p0a, p0b, p0c, p0d⟩ := p0
    unfold impl_Ex_formed.f at hh
    refine go (ts := [(2, none)]) (rm := [.own]) (pm := [.skip]) Tryz.func95 ?_
    intro Fn LW len cast toNat wrap add sub mul bin lt eq At set part app fz' rep nadd nmax ssize sext sget scat seq slt Wide Flat Ones Room r' post' hC hF hr hp
    cbv
    replace hh := bind_some hh
    obtain ⟨x2, h1, hh⟩ := hh
    refine go_call hF (c_impl_isKind hQ h1) ?_
    cbv
    replace hh := if_or hh
    rcases hh with ⟨b4, hh⟩ | ⟨b4, hh⟩
    ·
     have f5 : x2 = true := Tb b4
     have g := f5; cbv at g; try rw [f5]
     try rw [g]
     cbv
     replace hh := bind_some hh
     obtain ⟨x7, h6, hh⟩ := hh
     refine go_call hF (c_impl_kids hQ h6) ?_
     cbv
     replace hh := if_or hh
     rcases hh with ⟨b9, hh⟩ | ⟨b9, hh⟩
     ·
      have f10 : (eq (cast (len (qGEx p0d))) x7) = true := Tb b9
      have g := f10; cbv at g; try rw [f10]
      try rw [g]
      cbv
      refine bcs (fun f12 => ?_) (fun f12 => ?_)
      ·
       replace hh := ifT hh f12
       try rw [f12]
       cbv
       replace hh := bind_some hh
       obtain ⟨x14, h13, hh⟩ := hh
       refine go_call hF (c_impl_isSym hQ h13) ?_
       cbv
       replace hh := if_or hh
       rcases hh with ⟨b16, hh⟩ | ⟨b16, hh⟩
       ·
        have f17 : x14 = true := Tb b16
        have g := f17; cbv at g; try rw [f17]
        try rw [g]
        cbv
        first | rw [f12] | (have g := f12; cbv at g; rw [g])
        cbv
        refine bcs (fun f19 => ?_) (fun f19 => ?_)
        ·
         replace hh := ifT hh f19
         try rw [f19]
         cbv
         replace hh := bind_some hh
         obtain ⟨x21, h20, hh⟩ := hh
         refine go_call hF (c_impl_in hQ h20) ?_
         cbv
         replace hh := if_or hh
         rcases hh with ⟨b23, hh⟩ | ⟨b23, hh⟩
         ·
          have f24 : x21 = true := Tb b23
          have g := f24; cbv at g; try rw [f24]
          try rw [g]
          cbv
          first | rw [f19] | (have g := f19; cbv at g; rw [g])
          cbv
          replace hh := bind_some hh
          obtain ⟨x26, h25, hh⟩ := hh
          refine go_call hF (c_slices_ContainsFunc_impl_Ex_formed_1 hQ (g1 := fun y0 => impl_Ex_formed_1.f k y0) (fun h => (ih k (Nat.lt_succ_self k)).1 h) h25) ?_
          cbv
          exact Eb
         ·
          have f24 : x21 = false := Fb b23
          have g := f24; cbv at g; try rw [f24]
          try rw [g]
          cbv
          exact Eb
        ·
         replace hh := ifF hh f19
         try rw [f19]
         cbv
         first | rw [f19] | (have g := f19; cbv at g; rw [g])
         cbv
         replace hh := if_or hh
         rcases hh with ⟨b28, hh⟩ | ⟨b28, hh⟩
         ·
          have f29 : (eq p0c 0) = true := Tb b28
          have g := f29; cbv at g; try rw [f29]
          try rw [g]
          cbv
          replace hh := bind_some hh
          obtain ⟨x31, h30, hh⟩ := hh
          refine go_call hF (c_slices_ContainsFunc_impl_Ex_formed_1 hQ (g1 := fun y0 => impl_Ex_formed_1.f k y0) (fun h => (ih k (Nat.lt_succ_self k)).1 h) h30) ?_
          cbv
          exact Eb
         ·
          have f29 : (eq p0c 0) = false := Fb b28
          have g := f29; cbv at g; try rw [f29]
          try rw [g]
          cbv
          exact Eb
       ·
        have f17 : x14 = false := Fb b16
        have g := f17; cbv at g; try rw [f17]
        try rw [g]
        cbv
        exact Eb
      ·
       replace hh := ifF hh f12
       try rw [f12]
       cbv
       first | rw [f12] | (have g := f12; cbv at g; rw [g])
       cbv
       replace hh := if_or hh
       rcases hh with ⟨b33, hh⟩ | ⟨b33, hh⟩
       ·
        have f34 : (eq p0b 0) = true := Tb b33
        have g := f34; cbv at g; try rw [f34]
        try rw [g]
        cbv
        refine bcs (fun f36 => ?_) (fun f36 => ?_)
        ·
         replace hh := ifT hh f36
         try rw [f36]
         cbv
         replace hh := bind_some hh
         obtain ⟨x38, h37, hh⟩ := hh
         refine go_call hF (c_impl_in hQ h37) ?_
         cbv
         replace hh := if_or hh
         rcases hh with ⟨b40, hh⟩ | ⟨b40, hh⟩
         ·
          have f41 : x38 = true := Tb b40
          have g := f41; cbv at g; try rw [f41]
          try rw [g]
          cbv
          first | rw [f36] | (have g := f36; cbv at g; rw [g])
          cbv
          replace hh := bind_some hh
          obtain ⟨x43, h42, hh⟩ := hh
          refine go_call hF (c_slices_ContainsFunc_impl_Ex_formed_1 hQ (g1 := fun y0 => impl_Ex_formed_1.f k y0) (fun h => (ih k (Nat.lt_succ_self k)).1 h) h42) ?_
          cbv
          exact Eb
         ·
          have f41 : x38 = false := Fb b40
          have g := f41; cbv at g; try rw [f41]
          try rw [g]
          cbv
          exact Eb
        ·
         replace hh := ifF hh f36
         try rw [f36]
         cbv
         first | rw [f36] | (have g := f36; cbv at g; rw [g])
         cbv
         replace hh := if_or hh
         rcases hh with ⟨b45, hh⟩ | ⟨b45, hh⟩
         ·
          have f46 : (eq p0c 0) = true := Tb b45
          have g := f46; cbv at g; try rw [f46]
          try rw [g]
          cbv
          replace hh := bind_some hh
          obtain ⟨x48, h47, hh⟩ := hh
          refine go_call hF (c_slices_ContainsFunc_impl_Ex_formed_1 hQ (g1 := fun y0 => impl_Ex_formed_1.f k y0) (fun h => (ih k (Nat.lt_succ_self k)).1 h) h47) ?_
          cbv
          exact Eb
         ·
          have f46 : (eq p0c 0) = false := Fb b45
          have g := f46; cbv at g; try rw [f46]
          try rw [g]
          cbv
          exact Eb
       ·
        have f34 : (eq p0b 0) = false := Fb b33
        have g := f34; cbv at g; try rw [f34]
        try rw [g]
        cbv
        exact Eb
     ·
      have f10 : (eq (cast (len (qGEx p0d))) x7) = false := Fb b9
      have g := f10; cbv at g; try rw [f10]
      try rw [g]
      cbv
      exact Eb
    ·
     have f5 : x2 = false := Fb b4
     have g := f5; cbv at g; try rw [f5]
     try rw [g]
     cbv
     exact Eb
theorem c_impl_Ex_formed_1 {k : Nat} {p0 : GEx} {r : Bool} (hh : impl_Ex_formed_1.f k p0 = some r) : FunW P 138 [.agg [iA p0.Kind, iA p0.Sym, iA p0.N, tA (qGEx p0.Kids)]] [hA] (bA r) := (c_scc95 hQ k).1 hh
theorem c_impl_Ex_formed {k : Nat} {p0 : GEx} {r : Bool} (hh : impl_Ex_formed.f k p0 = some r) : FunW P 95 [.agg [iA p0.Kind, iA p0.Sym, iA p0.N, tA (qGEx p0.Kids)]] [hA] (bA r) := (c_scc95 hQ k).2 hh



theorem c_impl_ExOk {k : Nat} {p0 : GEx} {r : Bool} (hh : impl_ExOk.f k p0 = some r) : FunW P 42 [.agg [iA p0.Kind, iA p0.Sym, iA p0.N, tA (qGEx p0.Kids)]] [hA] (bA r) := by
 obtain ⟨p0a, p0b, p0c, p0d⟩ := p0
 unfold impl_ExOk.f at hh
 refine go (ts := [(2, none)]) (rm := [.own]) (pm := [.skip]) Tryz.func42 ?_
 intro Fn LW len cast toNat wrap add sub mul bin lt eq At set part app fz' rep nadd nmax ssize sext sget scat seq slt Wide Flat Ones Room r' post' hC hF hr hp
 cbv
 replace hh := bind_some hh
 obtain ⟨⟨x2_0, x2_1⟩, h1, hh⟩ := hh
 try dsimp only at hh
 refine go_call hF (c_impl_Ex_size hQ h1) ?_
 cbv
 replace hh := if_or hh
 rcases hh with ⟨b4, hh⟩ | ⟨b4, hh⟩
 ·
  have f5 : (lt 12 x2_0) = true := Tb b4
  have g := f5; cbv at g; try rw [f5]
  try rw [g]
  cbv
  exact Eb
 ·
  have f5 : (lt 12 x2_0) = false := Fb b4
  have g := f5; cbv at g; try rw [f5]
  try rw [g]
  cbv
  replace hh := if_or hh
  rcases hh with ⟨b6, hh⟩ | ⟨b6, hh⟩
  ·
   have f7 : (lt 5 x2_1) = true := Tb b6
   have g := f7; cbv at g; try rw [f7]
   try rw [g]
   cbv
   exact Eb
  ·
   have f7 : (lt 5 x2_1) = false := Fb b6
   have g := f7; cbv at g; try rw [f7]
   try rw [g]
   cbv
   replace hh := bind_some hh
   obtain ⟨x9, h8, hh⟩ := hh
   refine go_call hF (c_impl_Ex_formed hQ h8) ?_
   cbv
   exact Eb

theorem c_slices_Index {k : Nat} {p0 : List Int} {p1 : Int} {r : Int} (hh : slices_Index.f k p0 p1 = some r) : FunW P 117 [tA (qInt p0), iA p1] [hA, hA] (iA r) := by
 unfold slices_Index.f at hh
 refine go (ts := [(4, none)]) (rm := [.own]) (pm := [.skip, .skip]) Tryz.func117 ?_
 intro Fn LW len cast toNat wrap add sub mul bin lt eq At set part app fz' rep nadd nmax ssize sext sget scat seq slt Wide Flat Ones Room r' post' hC hF hr hp
 cbv
 replace hh := bind_some hh
 obtain ⟨o1, hl1, hq1⟩ := hh
 refine loop_go4 hC eok mixed (slices_Index.l0 k p0 p1)
  (fun s8 => (⟨[(0, tA (qInt p0)), (1, iA p1), (7, iA (cast (len (qInt p0)))), (8, iA s8)], []⟩ : St))
  (fun (_ : Unit) => (⟨[], []⟩ : St)) .ok (.exit 0)
  (i0 := _) hl1 (fun _ => rfl) ?_ ?_ ?_
 ·
  rintro t0 e
  refine cov_of [] ?_
  cbv
  all_goals exact J1
 ·
  rintro _ hx
  subst o1
  have hh := hq1
  cbv
  exact Eb
 ·
  rintro n s8 N1 D1 hh hN1 hD1 hQ1
  unfold slices_Index.l0 at hh
  cbv
  refine bcs (fun f17 => ?_) (fun f17 => ?_)
  ·
   replace hh := ifT hh f17
   try rw [f17]
   cbv
   replace hh := req_some hh
   obtain ⟨h18, hh⟩ := hh
   replace hh := bind_some hh
   obtain ⟨e19, h20, hh⟩ := hh
   refine ⟨[iA e19], Nb h18, Gb h20, ?_⟩
   cbv
   refine bcs (fun f22 => ?_) (fun f22 => ?_)
   ·
    replace hh := ifT hh f22
    try rw [f22]
    cbv
    cases hh
    have hh : some _ = some _ := hq1
    refine hQ1 _ _ ?_
    cbv
    exact Eb
   ·
    replace hh := ifF hh f22
    try rw [f22]
    cbv
    refine hN1 _ _ hh fun t0 e => ?_
    refine cov_of [] ?_
    cbv
    all_goals exact J1
  ·
   replace hh := ifF hh f17
   try rw [f17]
   cbv
   refine hD1 () _ hh fun _ e => ?_
   refine cov_of [] ?_
   cbv
   all_goals exact J0

theorem c_slices_Contains {k : Nat} {p0 : List Int} {p1 : Int} {r : Bool} (hh : slices_Contains.f k p0 p1 = some r) : FunW P 72 [tA (qInt p0), iA p1] [hA, hA] (bA r) := by
 unfold slices_Contains.f at hh
 refine go (ts := [(4, none)]) (rm := [.own]) (pm := [.skip, .skip]) Tryz.func72 ?_
 intro Fn LW len cast toNat wrap add sub mul bin lt eq At set part app fz' rep nadd nmax ssize sext sget scat seq slt Wide Flat Ones Room r' post' hC hF hr hp
 cbv
 replace hh := bind_some hh
 obtain ⟨x2, h1, hh⟩ := hh
 refine go_call hF (c_slices_Index hQ h1) ?_
 cbv
 exact Eb

theorem c_impl_TurnBy {k : Nat} {p0 : List Int} {r : Bool} (hh : impl_TurnBy.f k p0 = some r) : FunW P 23 [tA (qInt p0)] [hA] (bA r) := by
 unfold impl_TurnBy.f at hh
 refine go (ts := [(2, none)]) (rm := [.own]) (pm := [.skip]) Tryz.func23 ?_
 intro Fn LW len cast toNat wrap add sub mul bin lt eq At set part app fz' rep nadd nmax ssize sext sget scat seq slt Wide Flat Ones Room r' post' hC hF hr hp
 cbv
 replace hh := bind_some hh
 obtain ⟨o1, hl1, hq1⟩ := hh
 refine loop_go4 hC eok mixed (impl_TurnBy.l0 k p0)
  (fun s19 => (⟨[(0, tA (qInt p0)), (5, tA (qInt p0)), (6, iA (cast (len (qInt p0)))), (7, iA s19)], []⟩ : St))
  (fun (_ : Unit) => (⟨[(0, tA (qInt p0))], []⟩ : St)) .ok (.exit 0)
  (i0 := _) hl1 (fun _ => rfl) ?_ ?_ ?_
 ·
  rintro t0 e
  refine cov_of [] ?_
  cbv
  all_goals exact J1
 ·
  rintro _ hx
  subst o1
  have hh := hq1
  cbv
  exact Eb
 ·
  rintro n s19 N1 D1 hh hN1 hD1 hQ1
  unfold impl_TurnBy.l0 at hh
  cbv
  refine bcs (fun f39 => ?_) (fun f39 => ?_)
  ·
   replace hh := ifT hh f39
   try rw [f39]
   cbv
   replace hh := req_some hh
   obtain ⟨h40, hh⟩ := hh
   replace hh := bind_some hh
   obtain ⟨e41, h42, hh⟩ := hh
   refine ⟨[iA e41], Nb h40, Gb h42, ?_⟩
   cbv
   replace hh := bind_some hh
   obtain ⟨x44, h43, hh⟩ := hh
   refine go_call hF (c_impl_isSym hQ h43) ?_
   cbv
   replace hh := if_or hh
   rcases hh with ⟨b46, hh⟩ | ⟨b46, hh⟩
   ·
    have f47 : x44 = true := Tb b46
    have g := f47; cbv at g; try rw [f47]
    try rw [g]
    cbv
    replace hh := req_some hh
    obtain ⟨h48, hh⟩ := hh
    replace hh := req_some hh
    obtain ⟨h49, hh⟩ := hh
    replace hh := req_some hh
    obtain ⟨h50, hh⟩ := hh
    refine ⟨⟨Nb h48, Nb h49, Nb h50, Ab⟩, ?_⟩
    replace hh := bind_some hh
    obtain ⟨x52, h51, hh⟩ := hh
    refine go_call hF (c_slices_Contains hQ h51) ?_
    cbv
    refine bcs (fun f55 => ?_) (fun f55 => ?_)
    ·
     replace hh := ifT hh f55
     try rw [f55]
     cbv
     cases hh
     have hh : some _ = some _ := hq1
     refine hQ1 _ _ ?_
     cbv
     exact Eb
    ·
     replace hh := ifF hh f55
     try rw [f55]
     cbv
     refine hN1 _ _ hh fun t0 e => ?_
     refine cov_of [] ?_
     cbv
     all_goals exact J1
   ·
    have f47 : x44 = false := Fb b46
    have g := f47; cbv at g; try rw [f47]
    try rw [g]
    cbv
    cases hh
    have hh : some _ = some _ := hq1
    refine hQ1 _ _ ?_
    cbv
    exact Eb
  ·
   replace hh := ifF hh f39
   try rw [f39]
   cbv
   refine hD1 () _ hh fun _ e => ?_
   refine cov_of [] ?_
   cbv
   all_goals exact J0

theorem c_scc65 : ∀ k : Nat, (∀ {p0 : GEx} {p1 : List Int} {r : GEx}, impl_Ex_turn.f k p0 p1 = some r → FunW P 65 [.agg [iA p0.Kind, iA p0.Sym, iA p0.N, tA (qGEx p0.Kids)], tA (qInt p1)] [hA, hA] (.agg [iA r.Kind, iA r.Sym, iA r.N, oA 4 (qGExO r.Kids)])) := by
  intro k
  induction k using Nat.strongRecOn with
  | _ k ih =>
  · intro p0 p1 r hh
    cases k with
    | zero => unfold impl_Ex_turn.f at hh; cases hh
    | succ k =>
    obtain ⟨p0a, p0b, p0c, p0d⟩ := p0
    unfold impl_Ex_turn.f at hh
    refine go (ts := [(4, some 25)]) (rm := [.own]) (pm := [.skip, .skip]) Tryz.func65 ?_
    intro Fn LW len cast toNat wrap add sub mul bin lt eq At set part app fz' rep nadd nmax ssize sext sget scat seq slt Wide Flat Ones Room r' post' hC hF hr hp
    cbv
    refine bcs (fun f2 => ?_) (fun f2 => ?_)
    ·
     replace hh := ifT hh f2
     try rw [f2]
     cbv
     replace hh := req_some hh
     obtain ⟨h3, hh⟩ := hh
     try dsimp only at h3
     replace hh := bind_some hh
     obtain ⟨e4, h5, hh⟩ := hh
     refine ⟨[iA e4], Nb h3, Gb h5, ?_⟩
     cbv
     refine ⟨4, ?_⟩
     cbv
     exact Eb
    ·
     replace hh := ifF hh f2
     try rw [f2]
     cbv
     replace hh := bind_some hh
     obtain ⟨o1, hl1, hq1⟩ := hh
     refine loop_go4 hC eok mixed (fun n (i : (List GEx) × Int) => impl_Ex_turn.l0 k (impl_Ex_turn.f k) (⟨p0a, p0b, p0c, p0d⟩ : GEx) p1 n i.1 i.2)
      (fun ⟨s15, s16⟩ => (⟨[(1, tA (qInt p1)), (2, .mptr (2, 0) 1 0 0), (4, .mptr (4, 0) 1 0 0), (5, .ref (5, 50) 1 0 (len (qGExO s15))), (18, tA (qGEx p0d)), (19, iA (cast (len (qGEx p0d)))), (20, iA s16)], [((2, 0), .box 1 [iA p0a, iA p0b, iA p0c, tA (qGEx p0d)]), ((4, 0), .box 1 [iA 0, iA 0, iA 0, .lit (.slice none 0 0)]), ((5, 50), .arr 1 4 (qGExO s15))]⟩ : St))
      (fun (x26 : List GEx) => (⟨[(2, .mptr (2, 0) 1 0 0), (4, .mptr (4, 0) 1 0 0), (5, .ref (5, 50) 1 0 (len (qGExO x26)))], [((2, 0), .box 1 [iA p0a, iA p0b, iA p0c, tA (qGEx p0d)]), ((4, 0), .box 1 [iA 0, iA 0, iA 0, .lit (.slice none 0 0)]), ((5, 50), .arr 1 4 (qGExO x26))]⟩ : St)) (fun x => x) (.exit 0)
      (i0 := (_, _)) hl1 (fun _ => rfl) ?_ ?_ ?_
     ·
      rintro ⟨t0, t1⟩ e
      refine cov_of [((2, 0), (2, 0)), ((4, 0), (4, 0))] ?_
      cbv
      all_goals exact J2
     ·
      rintro x26 hx
      subst o1
      have hh := hq1
      cbv
      exact Eb
     ·
      rintro n ⟨s15, s16⟩ N1 D1 hh hN1 hD1 hQ1
      dsimp only at hh
      unfold impl_Ex_turn.l0 at hh
      cbv
      refine bcs (fun f28 => ?_) (fun f28 => ?_)
      ·
       replace hh := ifT hh f28
       try rw [f28]
       cbv
       replace hh := req_some hh
       obtain ⟨h29, hh⟩ := hh
       replace hh := bind_some hh
       obtain ⟨⟨e30a, e30b, e30c, e30d⟩, h31, hh⟩ := hh
       try dsimp only at hh
       refine ⟨[iA e30a, iA e30b, iA e30c, tA (qGEx e30d)], Nb h29, Gb h31, ?_⟩
       cbv
       replace hh := bind_some hh
       obtain ⟨⟨x33a, x33b, x33c, x33d⟩, h32, hh⟩ := hh
       try dsimp only at hh
       have fc := (ih k (Nat.lt_succ_self k)) h32
       try dsimp only at fc
       refine go_call hF fc ?_
       cbv
       replace hh := req_some hh
       obtain ⟨h35, hh⟩ := hh
       refine ⟨⟨Ob, Ab⟩, ?_⟩
       refine ⟨⟨Ob, Wb h35⟩, ?_⟩
       refine hN1 (_, _) _ hh fun ⟨t0, t1⟩ e => ?_
       refine cov_of [((2, 0), (2, 0)), ((4, 0), (4, 0)), ((5, 50), (29, 0))] ?_
       cbv
       all_goals exact J2
      ·
       replace hh := ifF hh f28
       try rw [f28]
       cbv
       refine hD1 _ _ hh fun t0 e => ?_
       refine cov_of [((2, 0), (2, 0)), ((4, 0), (4, 0)), ((5, 50), (5, 50))] ?_
       cbv
       all_goals exact J1
theorem c_impl_Ex_turn {k : Nat} {p0 : GEx} {p1 : List Int} {r : GEx} (hh : impl_Ex_turn.f k p0 p1 = some r) : FunW P 65 [.agg [iA p0.Kind, iA p0.Sym, iA p0.N, tA (qGEx p0.Kids)], tA (qInt p1)] [hA, hA] (.agg [iA r.Kind, iA r.Sym, iA r.N, oA 4 (qGExO r.Kids)]) := (c_scc65 hQ k) hh


theorem c_impl_TurnEx {k : Nat} {p0 : GEx} {p1 : List Int} {r : GEx} (hh : impl_TurnEx.f k p0 p1 = some r) : FunW P 17 [.agg [iA p0.Kind, iA p0.Sym, iA p0.N, tA (qGEx p0.Kids)], tA (qInt p1)] [hA, hA] (.agg [iA r.Kind, iA r.Sym, iA r.N, oA 4 (qGExO r.Kids)]) := by
 obtain ⟨p0a, p0b, p0c, p0d⟩ := p0
 unfold impl_TurnEx.f at hh
 refine go (ts := [(4, some 25)]) (rm := [.own]) (pm := [.skip, .skip]) Tryz.func17 ?_
 intro Fn LW len cast toNat wrap add sub mul bin lt eq At set part app fz' rep nadd nmax ssize sext sget scat seq slt Wide Flat Ones Room r' post' hC hF hr hp
 cbv
 replace hh := bind_some hh
 obtain ⟨x2, h1, hh⟩ := hh
 refine go_call hF (c_impl_ExOk hQ h1) ?_
 cbv
 replace hh := if_or hh
 rcases hh with ⟨b4, hh⟩ | ⟨b4, hh⟩
 ·
  have f5 : x2 = true := Tb b4
  have g := f5; cbv at g; try rw [f5]
  try rw [g]
  cbv
  replace hh := bind_some hh
  obtain ⟨x7, h6, hh⟩ := hh
  refine go_call hF (c_impl_TurnBy hQ h6) ?_
  cbv
  replace hh := if_or hh
  rcases hh with ⟨b9, hh⟩ | ⟨b9, hh⟩
  ·
   have f10 : x7 = true := Tb b9
   have g := f10; cbv at g; try rw [f10]
   try rw [g]
   cbv
   replace hh := bind_some hh
   obtain ⟨⟨x12a, x12b, x12c, x12d⟩, h11, hh⟩ := hh
   try dsimp only at hh
   have fc := c_impl_Ex_turn hQ h11
   try dsimp only at fc
   refine go_call hF fc ?_
   cbv
   exact Eb
  ·
   have f10 : x7 = false := Fb b9
   have g := f10; cbv at g; try rw [f10]
   try rw [g]
   cbv
   refine ⟨4, ?_⟩
   cbv
   exact Eb
 ·
  have f5 : x2 = false := Fb b4
  have g := f5; cbv at g; try rw [f5]
  try rw [g]
  cbv
  refine ⟨4, ?_⟩
  cbv
  exact Eb
theorem c_impl_TurnEx_L0 {k : Nat} {p0 : GEx} {p1 : List Int} {r : GEx} (hh : impl_TurnEx.f k p0 p1 = some r) : FunW P 17 [.agg [iA p0.Kind, iA p0.Sym, iA p0.N, oA 4 (qGExO p0.Kids)], tA (qInt p1)] [.agg [iA p0.Kind, iA p0.Sym, iA p0.N, oA 4 (qGExO p0.Kids)], hA] (.agg [iA r.Kind, iA r.Sym, iA r.N, oA 4 (qGExO r.Kids)]) := by
  cases hQ; exact (c_impl_TurnEx .mk hh).lend (by simp [Vm.ownd, owndL, -r_GExO_map, r_GExO_ownd]) (.lend (by simp) (.same rfl .nil))

theorem c_impl_EvOk {p0 : GEv} {r : Bool} (hh : impl_EvOk.f p0 = some r) : FunW P 116 [.agg [iA p0.Sym, iA p0.At, iA p0.Val]] [hA] (bA r) := by
 obtain ⟨p0a, p0b, p0c⟩ := p0
 unfold impl_EvOk.f at hh
 refine go (ts := [(2, none)]) (rm := [.own]) (pm := [.skip]) Tryz.func116 ?_
 intro Fn LW len cast toNat wrap add sub mul bin lt eq At set part app fz' rep nadd nmax ssize sext sget scat seq slt Wide Flat Ones Room r' post' hC hF hr hp
 cbv
 replace hh := bind_some hh
 obtain ⟨x2, h1, hh⟩ := hh
 refine go_call hF (c_impl_isSym hQ h1) ?_
 cbv
 refine bcs (fun f5 => ?_) (fun f5 => ?_)
 ·
  replace hh := ifT hh f5
  try rw [f5]
  cbv
  replace hh := bind_some hh
  obtain ⟨x7, h6, hh⟩ := hh
  refine go_call hF (c_impl_in hQ h6) ?_
  cbv
  refine bcs (fun f10 => ?_) (fun f10 => ?_)
  ·
   replace hh := ifT hh f10
   try rw [f10]
   cbv
   replace hh := bind_some hh
   obtain ⟨x12, h11, hh⟩ := hh
   refine go_call hF (c_impl_in hQ h11) ?_
   cbv
   exact Eb
  ·
   replace hh := ifF hh f10
   try rw [f10]
   cbv
   exact Eb
 ·
  replace hh := ifF hh f5
  try rw [f5]
  cbv
  exact Eb

theorem c_impl_EvsOk {k : Nat} {p0 : List GEv} {r : Bool} (hh : impl_EvsOk.f k p0 = some r) : FunW P 66 [tA (qGEv p0)] [hA] (bA r) := by
 unfold impl_EvsOk.f at hh
 refine go (ts := [(2, none)]) (rm := [.own]) (pm := [.skip]) Tryz.func66 ?_
 intro Fn LW len cast toNat wrap add sub mul bin lt eq At set part app fz' rep nadd nmax ssize sext sget scat seq slt Wide Flat Ones Room r' post' hC hF hr hp
 cbv
 replace hh := bind_some hh
 obtain ⟨o1, hl1, hq1⟩ := hh
 refine loop_go4 hC eok mixed (impl_EvsOk.l0 k p0)
  (fun s18 => (⟨[(0, tA (qGEv p0)), (5, tA (qGEv p0)), (6, iA (cast (len (qGEv p0)))), (7, iA s18)], []⟩ : St))
  (fun (_ : Unit) => (⟨[(0, tA (qGEv p0))], []⟩ : St)) .ok (.exit 0)
  (i0 := _) hl1 (fun _ => rfl) ?_ ?_ ?_
 ·
  rintro t0 e
  refine cov_of [] ?_
  cbv
  all_goals exact J1
 ·
  rintro _ hx
  subst o1
  have hh := hq1
  cbv
  exact Eb
 ·
  rintro n s18 N1 D1 hh hN1 hD1 hQ1
  unfold impl_EvsOk.l0 at hh
  cbv
  refine bcs (fun f37 => ?_) (fun f37 => ?_)
  ·
   replace hh := ifT hh f37
   try rw [f37]
   cbv
   replace hh := req_some hh
   obtain ⟨h38, hh⟩ := hh
   replace hh := bind_some hh
   obtain ⟨⟨e39a, e39b, e39c⟩, h40, hh⟩ := hh
   try dsimp only at hh
   refine ⟨[iA e39a, iA e39b, iA e39c], Nb h38, Gb h40, ?_⟩
   cbv
   replace hh := bind_some hh
   obtain ⟨x42, h41, hh⟩ := hh
   refine go_call hF (c_impl_EvOk hQ h41) ?_
   cbv
   replace hh := if_or hh
   rcases hh with ⟨b44, hh⟩ | ⟨b44, hh⟩
   ·
    have f45 : x42 = true := Tb b44
    have g := f45; cbv at g; try rw [f45]
    try rw [g]
    cbv
    refine bcs (fun f47 => ?_) (fun f47 => ?_)
    ·
     replace hh := ifT hh f47
     try rw [f47]
     cbv
     replace hh := req_some hh
     obtain ⟨h48, hh⟩ := hh
     replace hh := bind_some hh
     obtain ⟨⟨e49a, e49b, e49c⟩, h50, hh⟩ := hh
     try dsimp only at hh
     refine ⟨[iA e49a, iA e49b, iA e49c], Nb h48, Gb h50, ?_⟩
     cbv
     replace hh := if_or hh
     rcases hh with ⟨b51, hh⟩ | ⟨b51, hh⟩
     ·
      have f52 : (lt e49b e39b) = true := Tb b51
      have g := f52; cbv at g; try rw [f52]
      try rw [g]
      cbv
      refine hN1 _ _ hh fun t0 e => ?_
      refine cov_of [] ?_
      cbv
      all_goals exact J1
     ·
      have f52 : (lt e49b e39b) = false := Fb b51
      have g := f52; cbv at g; try rw [f52]
      try rw [g]
      cbv
      cases hh
      have hh : some _ = some _ := hq1
      refine hQ1 _ _ ?_
      cbv
      exact Eb
    ·
     replace hh := ifF hh f47
     try rw [f47]
     cbv
     refine hN1 _ _ hh fun t0 e => ?_
     refine cov_of [] ?_
     cbv
     all_goals exact J1
   ·
    have f45 : x42 = false := Fb b44
    have g := f45; cbv at g; try rw [f45]
    try rw [g]
    cbv
    cases hh
    have hh : some _ = some _ := hq1
    refine hQ1 _ _ ?_
    cbv
    exact Eb
  ·
   replace hh := ifF hh f37
   try rw [f37]
   cbv
   refine hD1 () _ hh fun _ e => ?_
   refine cov_of [] ?_
   cbv
   all_goals exact J0

theorem c_impl_cloneEvs {p0 : List GEv} {r : List GEv} (hh : impl_cloneEvs.f p0 = some r) : FunW P 67 [tA (qGEv p0)] [hA] (oA 3 (qGEv r)) := by
 unfold impl_cloneEvs.f at hh
 refine go (ts := [(2, none)]) (rm := [.own]) (pm := [.skip]) Tryz.func67 ?_
 intro Fn LW len cast toNat wrap add sub mul bin lt eq At set part app fz' rep nadd nmax ssize sext sget scat seq slt Wide Flat Ones Room r' post' hC hF hr hp
 cbv
 replace hh := req_some hh
 obtain ⟨h1, hh⟩ := hh
 refine ⟨⟨Ab, Ab⟩, ?_⟩
 refine ⟨Wb h1, ?_⟩
 exact Eb

theorem c_impl_TurnEvs {k : Nat} {p0 : List GEv} {p1 : List Int} {r : List GEv} (hh : impl_TurnEvs.f k p0 p1 = some r) : FunW P 18 [tA (qGEv p0), tA (qInt p1)] [hA, hA] (oA 3 (qGEv r)) := by
 unfold impl_TurnEvs.f at hh
 refine go (ts := [(4, none)]) (rm := [.own]) (pm := [.skip, .skip]) Tryz.func18 ?_
 intro Fn LW len cast toNat wrap add sub mul bin lt eq At set part app fz' rep nadd nmax ssize sext sget scat seq slt Wide Flat Ones Room r' post' hC hF hr hp
 cbv
 replace hh := bind_some hh
 obtain ⟨x2, h1, hh⟩ := hh
 refine go_call hF (c_impl_EvsOk hQ h1) ?_
 cbv
 replace hh := if_or hh
 rcases hh with ⟨b4, hh⟩ | ⟨b4, hh⟩
 ·
  have f5 : x2 = true := Tb b4
  have g := f5; cbv at g; try rw [f5]
  try rw [g]
  cbv
  replace hh := bind_some hh
  obtain ⟨x7, h6, hh⟩ := hh
  refine go_call hF (c_impl_TurnBy hQ h6) ?_
  cbv
  replace hh := if_or hh
  rcases hh with ⟨b9, hh⟩ | ⟨b9, hh⟩
  ·
   have f10 : x7 = true := Tb b9
   have g := f10; cbv at g; try rw [f10]
   try rw [g]
   cbv
   replace hh := bind_some hh
   obtain ⟨x12, h11, hh⟩ := hh
   refine go_call hF (c_impl_cloneEvs hQ h11) ?_
   cbv
   replace hh := bind_some hh
   obtain ⟨o1, hl1, hq1⟩ := hh
   refine loop_go4 hC eok mixed (fun n (i : (List GEv) × Int) => impl_TurnEvs.l0 k p1 x12 n i.1 i.2)
    (fun ⟨s25, s26⟩ => (⟨[(1, tA (qInt p1)), (5, .ref (17, 0) 1 0 (len (qGEv s25))), (18, .ref (17, 0) 1 0 (len (qGEv s25))), (19, iA (cast (len (qGEv x12)))), (20, iA s26)], [((17, 0), .arr 1 3 (qGEv s25))]⟩ : St))
    (fun (x38 : List GEv) => (⟨[(5, .ref (17, 0) 1 0 (len (qGEv x38)))], [((17, 0), .arr 1 3 (qGEv x38))]⟩ : St)) (fun x => x) (.exit 0)
    (i0 := (_, _)) hl1 (fun _ => rfl) ?_ ?_ ?_
   ·
    rintro ⟨t0, t1⟩ e
    refine cov_of [((17, 0), (17, 0))] ?_
    cbv
    all_goals exact J2
   ·
    rintro x38 hx
    subst o1
    have hh := hq1
    cbv
    exact Eb
   ·
    rintro n ⟨s25, s26⟩ N1 D1 hh hN1 hD1 hQ1
    dsimp only at hh
    unfold impl_TurnEvs.l0 at hh
    cbv
    refine bcs (fun f40 => ?_) (fun f40 => ?_)
    ·
     replace hh := ifT hh f40
     try rw [f40]
     cbv
     replace hh := req_some hh
     obtain ⟨h41, hh⟩ := hh
     replace hh := req_some hh
     obtain ⟨h42, hh⟩ := hh
     refine ⟨Nb h41, Mb h42, ?_⟩
     replace hh := bind_some hh
     obtain ⟨⟨e43a, e43b, e43c⟩, h44, hh⟩ := hh
     try dsimp only at hh
     refine ⟨[iA e43a, iA e43b, iA e43c], Gb h44, ?_⟩
     cbv
     replace hh := req_some hh
     obtain ⟨h45, hh⟩ := hh
     try dsimp only at h45
     replace hh := bind_some hh
     obtain ⟨e46, h47, hh⟩ := hh
     refine ⟨[iA e46], Nb h45, Gb h47, ?_⟩
     cbv
     replace hh := req_some hh
     obtain ⟨h48, hh⟩ := hh
     replace hh := req_some hh
     obtain ⟨h49, hh⟩ := hh
     refine ⟨Nb h48, Mb h49, ?_⟩
     refine ⟨[iA e43a, iA e43b, iA e43c], Gb h44, ?_⟩
     cbv
     refine hN1 (_, _) _ hh fun ⟨t0, t1⟩ e => ?_
     refine cov_of [((17, 0), (17, 0))] ?_
     cbv
     all_goals exact J2
    ·
     replace hh := ifF hh f40
     try rw [f40]
     cbv
     refine hD1 _ _ hh fun t0 e => ?_
     refine cov_of [((17, 0), (17, 0))] ?_
     cbv
     all_goals exact J1
  ·
   have f10 : x7 = false := Fb b9
   have g := f10; cbv at g; try rw [f10]
   try rw [g]
   cbv
   refine ⟨3, ?_⟩
   cbv
   exact Eb
 ·
  have f5 : x2 = false := Fb b4
  have g := f5; cbv at g; try rw [f5]
  try rw [g]
  cbv
  refine ⟨3, ?_⟩
  cbv
  exact Eb
theorem c_impl_TurnEvs_L0 {k : Nat} {p0 : List GEv} {p1 : List Int} {r : List GEv} (hh : impl_TurnEvs.f k p0 p1 = some r) : FunW P 18 [oA 3 (qGEv p0), tA (qInt p1)] [oA 3 (qGEv p0), hA] (oA 3 (qGEv r)) := by
  cases hQ; exact (c_impl_TurnEvs .mk hh).lend (r_GEv_ownd _) (.lend (congrArg A.tree (r_GEv_fz _).symm) (.same rfl .nil))

theorem c_spec_TurnBy {k : Nat} {p0 : List Int} {r : Bool} (hh : spec_TurnBy.f k p0 = some r) : FunW P 24 [tA (qInt p0)] [hA] (bA r) := by
 unfold spec_TurnBy.f at hh
 refine go (ts := [(2, none)]) (rm := [.own]) (pm := [.skip]) Tryz.func24 ?_
 intro Fn LW len cast toNat wrap add sub mul bin lt eq At set part app fz' rep nadd nmax ssize sext sget scat seq slt Wide Flat Ones Room r' post' hC hF hr hp
 cbv
 replace hh := if_or hh
 rcases hh with ⟨b1, hh⟩ | ⟨b1, hh⟩
 ·
  have f2 : (eq (cast (len (qInt p0))) 5) = true := Tb b1
  have g := f2; cbv at g; try rw [f2]
  try rw [g]
  cbv
  replace hh := bind_some hh
  obtain ⟨o1, hl1, hq1⟩ := hh
  refine loop_go4 hC eok mixed (spec_TurnBy.l2 k p0)
   (fun s46 => (⟨[(0, tA (qInt p0)), (3, iA s46)], []⟩ : St))
   (fun (_ : Unit) => (⟨[], []⟩ : St)) .ok (.exit 0)
   (i0 := _) hl1 (fun _ => rfl) ?_ ?_ ?_
  ·
   rintro t0 e
   refine cov_of [] ?_
   cbv
   all_goals exact J1
  ·
   rintro _ hx
   subst o1
   have hh := hq1
   cbv
   exact Eb
  ·
   rintro n s46 N1 D1 hh hN1 hD1 hQ1
   unfold spec_TurnBy.l2 at hh
   cbv
   refine bcs (fun f91 => ?_) (fun f91 => ?_)
   ·
    replace hh := ifT hh f91
    try rw [f91]
    cbv
    replace hh := req_some hh
    obtain ⟨h92, hh⟩ := hh
    replace hh := bind_some hh
    obtain ⟨e93, h94, hh⟩ := hh
    refine ⟨[iA e93], Nb h92, Gb h94, ?_⟩
    cbv
    refine bcs (fun f96 => ?_) (fun f96 => ?_)
    ·
     replace hh := ifT hh f96
     try rw [f96]
     cbv
     cases hh
     have hh : some _ = some _ := hq1
     refine hQ1 _ _ ?_
     cbv
     exact Eb
    ·
     replace hh := ifF hh f96
     try rw [f96]
     cbv
     replace hh := req_some hh
     obtain ⟨h97, hh⟩ := hh
     replace hh := bind_some hh
     obtain ⟨e98, h99, hh⟩ := hh
     refine ⟨[iA e98], Nb h97, Gb h99, ?_⟩
     cbv
     replace hh := if_or hh
     rcases hh with ⟨b100, hh⟩ | ⟨b100, hh⟩
     ·
      have f101 : (lt e98 5) = true := Tb b100
      have g := f101; cbv at g; try rw [f101]
      try rw [g]
      cbv
      replace hh := bind_some hh
      obtain ⟨o2, hl2, hq2⟩ := hh
      refine loop_go4 hC eok mixed (spec_TurnBy.l3 k p0 s46)
       (fun s112 => (⟨[(0, tA (qInt p0)), (3, iA s46), (4, iA s112)], []⟩ : St))
       (fun (_ : Unit) => (⟨[(0, tA (qInt p0)), (3, iA s46)], []⟩ : St)) .ok (.exit 2)
       (i0 := _) hl2 (fun _ => rfl) ?_ ?_ ?_
      ·
       rintro t0 e
       refine cov_of [] ?_
       cbv
       all_goals exact J1
      ·
       rintro _ hx
       subst o2
       have hh := hq2
       cbv
       refine hN1 _ _ hh fun t0 e => ?_
       refine cov_of [] ?_
       cbv
       all_goals exact J1
      ·
       rintro n s112 N2 D2 hh hN2 hD2 hQ2
       unfold spec_TurnBy.l3 at hh
       cbv
       refine bcs (fun f124 => ?_) (fun f124 => ?_)
       ·
        replace hh := ifT hh f124
        try rw [f124]
        cbv
        replace hh := req_some hh
        obtain ⟨h125, hh⟩ := hh
        replace hh := bind_some hh
        obtain ⟨e126, h127, hh⟩ := hh
        refine ⟨[iA e126], Nb h125, Gb h127, ?_⟩
        cbv
        replace hh := req_some hh
        obtain ⟨h128, hh⟩ := hh
        replace hh := bind_some hh
        obtain ⟨e129, h130, hh⟩ := hh
        refine ⟨[iA e129], Nb h128, Gb h130, ?_⟩
        cbv
        refine bcs (fun f132 => ?_) (fun f132 => ?_)
        ·
         replace hh := ifT hh f132
         try rw [f132]
         cbv
         cases hh
         have hh : some _ = some _ := hq2
         cases hh
         have hh : some _ = some _ := hq1
         refine hQ2 _ _ ?_
         refine hQ1 _ _ ?_
         cbv
         exact Eb
        ·
         replace hh := ifF hh f132
         try rw [f132]
         cbv
         refine hN2 _ _ hh fun t0 e => ?_
         refine cov_of [] ?_
         cbv
         all_goals exact J1
       ·
        replace hh := ifF hh f124
        try rw [f124]
        cbv
        refine hD2 () _ hh fun _ e => ?_
        refine cov_of [] ?_
        cbv
        all_goals exact J0
     ·
      have f101 : (lt e98 5) = false := Fb b100
      have g := f101; cbv at g; try rw [f101]
      try rw [g]
      cbv
      cases hh
      have hh : some _ = some _ := hq1
      refine hQ1 _ _ ?_
      cbv
      exact Eb
   ·
    replace hh := ifF hh f91
    try rw [f91]
    cbv
    refine hD1 () _ hh fun _ e => ?_
    refine cov_of [] ?_
    cbv
    all_goals exact J0
 ·
  have f2 : (eq (cast (len (qInt p0))) 5) = false := Fb b1
  have g := f2; cbv at g; try rw [f2]
  try rw [g]
  cbv
  exact Eb

theorem c_scc69 : ∀ k : Nat, (∀ {p0 : GEx} {p1 : List Int} {r : GEx}, spec_l12Ex.f k p0 p1 = some r → FunW P 69 [.agg [iA p0.Kind, iA p0.Sym, iA p0.N, tA (qGEx p0.Kids)], tA (qInt p1)] [hA, hA] (.agg [iA r.Kind, iA r.Sym, iA r.N, oA 4 (qGExO r.Kids)])) := by
  intro k
  induction k using Nat.strongRecOn with
  | _ k ih =>
  · intro p0 p1 r hh
    cases k with
    | zero => unfold spec_l12Ex.f at hh; cases hh
    | succ k =>
    obtain ⟨p0a, p0b, p0c, p0d⟩ := p0
    unfold spec_l12Ex.f at hh
    refine go (ts := [(4, some 25)]) (rm := [.own]) (pm := [.skip, .skip]) Tryz.func69 ?_
    intro Fn LW len cast toNat wrap add sub mul bin lt eq At set part app fz' rep nadd nmax ssize sext sget scat seq slt Wide Flat Ones Room r' post' hC hF hr hp
    cbv
    refine bcs (fun f2 => ?_) (fun f2 => ?_)
    ·
     replace hh := ifT hh f2
     try rw [f2]
     cbv
     replace hh := req_some hh
     obtain ⟨h3, hh⟩ := hh
     try dsimp only at h3
     replace hh := bind_some hh
     obtain ⟨e4, h5, hh⟩ := hh
     refine ⟨[iA e4], Nb h3, Gb h5, ?_⟩
     cbv
     replace hh := bind_some hh
     obtain ⟨o1, hl1, hq1⟩ := hh
     refine loop_go4 hC eok mixed (fun n (i : (List GEx) × Int) => spec_l12Ex.l0 k (spec_l12Ex.f k) (⟨p0a, p0b, p0c, p0d⟩ : GEx) p1 n i.1 i.2)
      (fun ⟨s15, s16⟩ => (⟨[(1, tA (qInt p1)), (2, .mptr (2, 0) 1 0 0), (4, .mptr (4, 0) 1 0 0), (5, .mptr (5, 0) 1 0 0), (6, iA s16)], [((2, 0), .box 1 [iA p0a, iA p0b, iA p0c, tA (qGEx p0d)]), ((4, 0), .box 1 [iA 0, iA 0, iA 0, .lit (.slice none 0 0)]), ((5, 0), .box 1 [iA p0a, iA e4, iA p0c, .ref (5, 53) 1 0 (len (qGExO s15))]), ((5, 53), .arr 1 4 (qGExO s15))]⟩ : St))
      (fun (x26 : List GEx) => (⟨[(4, .mptr (4, 0) 1 0 0), (5, .mptr (5, 0) 1 0 0)], [((4, 0), .box 1 [iA 0, iA 0, iA 0, .lit (.slice none 0 0)]), ((5, 0), .box 1 [iA p0a, iA e4, iA p0c, .ref (5, 53) 1 0 (len (qGExO x26))]), ((5, 53), .arr 1 4 (qGExO x26))]⟩ : St)) (fun x => x) (.exit 0)
      (i0 := (_, _)) hl1 (fun _ => rfl) ?_ ?_ ?_
     ·
      rintro ⟨t0, t1⟩ e
      refine cov_of [((2, 0), (2, 0)), ((4, 0), (4, 0)), ((5, 0), (5, 0))] ?_
      cbv
      all_goals exact J2
     ·
      rintro x26 hx
      subst o1
      have hh := hq1
      cbv
      exact Eb
     ·
      rintro n ⟨s15, s16⟩ N1 D1 hh hN1 hD1 hQ1
      dsimp only at hh
      unfold spec_l12Ex.l0 at hh
      cbv
      refine bcs (fun f28 => ?_) (fun f28 => ?_)
      ·
       replace hh := ifT hh f28
       try rw [f28]
       cbv
       replace hh := req_some hh
       obtain ⟨h29, hh⟩ := hh
       replace hh := bind_some hh
       obtain ⟨⟨e30a, e30b, e30c, e30d⟩, h31, hh⟩ := hh
       try dsimp only at hh
       refine ⟨[iA e30a, iA e30b, iA e30c, tA (qGEx e30d)], Nb h29, Gb h31, ?_⟩
       cbv
       replace hh := bind_some hh
       obtain ⟨⟨x33a, x33b, x33c, x33d⟩, h32, hh⟩ := hh
       try dsimp only at hh
       have fc := (ih k (Nat.lt_succ_self k)) h32
       try dsimp only at fc
       refine go_call hF fc ?_
       cbv
       replace hh := req_some hh
       obtain ⟨h35, hh⟩ := hh
       refine ⟨⟨Ob, Ab⟩, ?_⟩
       refine ⟨⟨Ob, Wb h35⟩, ?_⟩
       refine hN1 (_, _) _ hh fun ⟨t0, t1⟩ e => ?_
       refine cov_of [((2, 0), (2, 0)), ((4, 0), (4, 0)), ((5, 0), (5, 0)), ((5, 53), (40, 0))] ?_
       cbv
       all_goals exact J2
      ·
       replace hh := ifF hh f28
       try rw [f28]
       cbv
       refine hD1 _ _ hh fun t0 e => ?_
       refine cov_of [((4, 0), (4, 0)), ((5, 0), (5, 0)), ((5, 53), (5, 53))] ?_
       cbv
       all_goals exact J1
    ·
     replace hh := ifF hh f2
     try rw [f2]
     cbv
     replace hh := bind_some hh
     obtain ⟨o1, hl1, hq1⟩ := hh
     refine loop_go4 hC eok mixed (fun n (i : (List GEx) × Int) => spec_l12Ex.l1 k (spec_l12Ex.f k) (⟨p0a, p0b, p0c, p0d⟩ : GEx) p1 n i.1 i.2)
      (fun ⟨s45, s46⟩ => (⟨[(1, tA (qInt p1)), (2, .mptr (2, 0) 1 0 0), (4, .mptr (4, 0) 1 0 0), (5, .mptr (5, 0) 1 0 0), (6, iA s46)], [((2, 0), .box 1 [iA p0a, iA p0b, iA p0c, tA (qGEx p0d)]), ((4, 0), .box 1 [iA 0, iA 0, iA 0, .lit (.slice none 0 0)]), ((5, 0), .box 1 [iA p0a, iA p0b, iA p0c, .ref (5, 53) 1 0 (len (qGExO s45))]), ((5, 53), .arr 1 4 (qGExO s45))]⟩ : St))
      (fun (x56 : List GEx) => (⟨[(4, .mptr (4, 0) 1 0 0), (5, .mptr (5, 0) 1 0 0)], [((4, 0), .box 1 [iA 0, iA 0, iA 0, .lit (.slice none 0 0)]), ((5, 0), .box 1 [iA p0a, iA p0b, iA p0c, .ref (5, 53) 1 0 (len (qGExO x56))]), ((5, 53), .arr 1 4 (qGExO x56))]⟩ : St)) (fun x => x) (.exit 0)
      (i0 := (_, _)) hl1 (fun _ => rfl) ?_ ?_ ?_
     ·
      rintro ⟨t0, t1⟩ e
      refine cov_of [((2, 0), (2, 0)), ((4, 0), (4, 0)), ((5, 0), (5, 0))] ?_
      cbv
      all_goals exact J2
     ·
      rintro x56 hx
      subst o1
      have hh := hq1
      cbv
      exact Eb
     ·
      rintro n ⟨s45, s46⟩ N1 D1 hh hN1 hD1 hQ1
      dsimp only at hh
      unfold spec_l12Ex.l1 at hh
      cbv
      refine bcs (fun f58 => ?_) (fun f58 => ?_)
      ·
       replace hh := ifT hh f58
       try rw [f58]
       cbv
       replace hh := req_some hh
       obtain ⟨h59, hh⟩ := hh
       replace hh := bind_some hh
       obtain ⟨⟨e60a, e60b, e60c, e60d⟩, h61, hh⟩ := hh
       try dsimp only at hh
       refine ⟨[iA e60a, iA e60b, iA e60c, tA (qGEx e60d)], Nb h59, Gb h61, ?_⟩
       cbv
       replace hh := bind_some hh
       obtain ⟨⟨x63a, x63b, x63c, x63d⟩, h62, hh⟩ := hh
       try dsimp only at hh
       have fc := (ih k (Nat.lt_succ_self k)) h62
       try dsimp only at fc
       refine go_call hF fc ?_
       cbv
       replace hh := req_some hh
       obtain ⟨h65, hh⟩ := hh
       refine ⟨⟨Ob, Ab⟩, ?_⟩
       refine ⟨⟨Ob, Wb h65⟩, ?_⟩
       refine hN1 (_, _) _ hh fun ⟨t0, t1⟩ e => ?_
       refine cov_of [((2, 0), (2, 0)), ((4, 0), (4, 0)), ((5, 0), (5, 0)), ((5, 53), (40, 0))] ?_
       cbv
       all_goals exact J2
      ·
       replace hh := ifF hh f58
       try rw [f58]
       cbv
       refine hD1 _ _ hh fun t0 e => ?_
       refine cov_of [((4, 0), (4, 0)), ((5, 0), (5, 0)), ((5, 53), (5, 53))] ?_
       cbv
       all_goals exact J1
theorem c_spec_l12Ex {k : Nat} {p0 : GEx} {p1 : List Int} {r : GEx} (hh : spec_l12Ex.f k p0 p1 = some r) : FunW P 69 [.agg [iA p0.Kind, iA p0.Sym, iA p0.N, tA (qGEx p0.Kids)], tA (qInt p1)] [hA, hA] (.agg [iA r.Kind, iA r.Sym, iA r.N, oA 4 (qGExO r.Kids)]) := (c_scc69 hQ k) hh


theorem c_spec_TurnEx {k : Nat} {p0 : GEx} {p1 : List Int} {r : GEx} (hh : spec_TurnEx.f k p0 p1 = some r) : FunW P 20 [.agg [iA p0.Kind, iA p0.Sym, iA p0.N, tA (qGEx p0.Kids)], tA (qInt p1)] [hA, hA] (.agg [iA r.Kind, iA r.Sym, iA r.N, oA 4 (qGExO r.Kids)]) := by
 obtain ⟨p0a, p0b, p0c, p0d⟩ := p0
 unfold spec_TurnEx.f at hh
 refine go (ts := [(4, some 25)]) (rm := [.own]) (pm := [.skip, .skip]) Tryz.func20 ?_
 intro Fn LW len cast toNat wrap add sub mul bin lt eq At set part app fz' rep nadd nmax ssize sext sget scat seq slt Wide Flat Ones Room r' post' hC hF hr hp
 cbv
 replace hh := bind_some hh
 obtain ⟨x2, h1, hh⟩ := hh
 refine go_call hF (c_spec_ExOk hQ h1) ?_
 cbv
 replace hh := if_or hh
 rcases hh with ⟨b4, hh⟩ | ⟨b4, hh⟩
 ·
  have f5 : x2 = true := Tb b4
  have g := f5; cbv at g; try rw [f5]
  try rw [g]
  cbv
  replace hh := bind_some hh
  obtain ⟨x7, h6, hh⟩ := hh
  refine go_call hF (c_spec_TurnBy hQ h6) ?_
  cbv
  replace hh := if_or hh
  rcases hh with ⟨b9, hh⟩ | ⟨b9, hh⟩
  ·
   have f10 : x7 = true := Tb b9
   have g := f10; cbv at g; try rw [f10]
   try rw [g]
   cbv
   replace hh := bind_some hh
   obtain ⟨⟨x12a, x12b, x12c, x12d⟩, h11, hh⟩ := hh
   try dsimp only at hh
   have fc := c_spec_l12Ex hQ h11
   try dsimp only at fc
   refine go_call hF fc ?_
   cbv
   exact Eb
  ·
   have f10 : x7 = false := Fb b9
   have g := f10; cbv at g; try rw [f10]
   try rw [g]
   cbv
   refine ⟨4, ?_⟩
   cbv
   exact Eb
 ·
  have f5 : x2 = false := Fb b4
  have g := f5; cbv at g; try rw [f5]
  try rw [g]
  cbv
  refine ⟨4, ?_⟩
  cbv
  exact Eb
theorem c_spec_TurnEx_L0 {k : Nat} {p0 : GEx} {p1 : List Int} {r : GEx} (hh : spec_TurnEx.f k p0 p1 = some r) : FunW P 20 [.agg [iA p0.Kind, iA p0.Sym, iA p0.N, oA 4 (qGExO p0.Kids)], tA (qInt p1)] [.agg [iA p0.Kind, iA p0.Sym, iA p0.N, oA 4 (qGExO p0.Kids)], hA] (.agg [iA r.Kind, iA r.Sym, iA r.N, oA 4 (qGExO r.Kids)]) := by
  cases hQ; exact (c_spec_TurnEx .mk hh).lend (by simp [Vm.ownd, owndL, -r_GExO_map, r_GExO_ownd]) (.lend (by simp) (.same rfl .nil))

theorem c_slices_EqualFunc_2_impl_ExSame {k : Nat} {g2 : GEx → GEx → Option Bool} (hg2 : ∀ {y0 : GEx} {y1 : GEx} {r : Bool}, g2 y0 y1 = some r → FunW P 19 [.agg [iA y0.Kind, iA y0.Sym, iA y0.N, tA (qGEx y0.Kids)], .agg [iA y1.Kind, iA y1.Sym, iA y1.N, tA (qGEx y1.Kids)]] [hA, hA] (bA r)) {p0 : List GEx} {p1 : List GEx} {r : Bool} (hh : slices_EqualFunc_2.f g2 k p0 p1 = some r) : FunW P 68 [tA (qGEx p0), tA (qGEx p1), .clo 19 []] [hA, hA, hA] (bA r) := by
 unfold slices_EqualFunc_2.f at hh
 refine go (ts := [(6, none)]) (rm := [.own]) (pm := [.skip, .skip, .skip]) Tryz.func68 ?_
 intro Fn LW len cast toNat wrap add sub mul bin lt eq At set part app fz' rep nadd nmax ssize sext sget scat seq slt Wide Flat Ones Room r' post' hC hF hr hp
 cbv
 replace hh := if_or hh
 rcases hh with ⟨b1, hh⟩ | ⟨b1, hh⟩
 ·
  have f2 : (eq (cast (len (qGEx p0))) (cast (len (qGEx p1)))) = true := Tb b1
  have g := f2; cbv at g; try rw [f2]
  try rw [g]
  cbv
  replace hh := bind_some hh
  obtain ⟨o1, hl1, hq1⟩ := hh
  refine loop_go4 hC eok mixed (slices_EqualFunc_2.l0 k g2 p0 p1)
   (fun s16 => (⟨[(1, tA (qGEx p1)), (2, .clo 19 []), (15, tA (qGEx p0)), (16, iA (cast (len (qGEx p0)))), (17, iA s16)], []⟩ : St))
   (fun (_ : Unit) => (⟨[], []⟩ : St)) .ok (.exit 0)
   (i0 := _) hl1 (fun _ => rfl) ?_ ?_ ?_
  ·
   rintro t0 e
   refine cov_of [] ?_
   cbv
   all_goals exact J1
  ·
   rintro _ hx
   subst o1
   have hh := hq1
   cbv
   exact Eb
  ·
   rintro n s16 N1 D1 hh hN1 hD1 hQ1
   unfold slices_EqualFunc_2.l0 at hh
   cbv
   refine bcs (fun f31 => ?_) (fun f31 => ?_)
   ·
    replace hh := ifT hh f31
    try rw [f31]
    cbv
    replace hh := req_some hh
    obtain ⟨h32, hh⟩ := hh
    replace hh := bind_some hh
    obtain ⟨⟨e33a, e33b, e33c, e33d⟩, h34, hh⟩ := hh
    try dsimp only at hh
    refine ⟨[iA e33a, iA e33b, iA e33c, tA (qGEx e33d)], Nb h32, Gb h34, ?_⟩
    cbv
    replace hh := req_some hh
    obtain ⟨h35, hh⟩ := hh
    replace hh := bind_some hh
    obtain ⟨⟨e36a, e36b, e36c, e36d⟩, h37, hh⟩ := hh
    try dsimp only at hh
    refine ⟨[iA e36a, iA e36b, iA e36c, tA (qGEx e36d)], Nb h35, Gb h37, ?_⟩
    cbv
    replace hh := bind_some hh
    obtain ⟨x39, h38, hh⟩ := hh
    refine go_call hF (hg2 h38) ?_
    cbv
    replace hh := if_or hh
    rcases hh with ⟨b41, hh⟩ | ⟨b41, hh⟩
    ·
     have f42 : x39 = true := Tb b41
     have g := f42; cbv at g; try rw [f42]
     try rw [g]
     cbv
     refine hN1 _ _ hh fun t0 e => ?_
     refine cov_of [] ?_
     cbv
     all_goals exact J1
    ·
     have f42 : x39 = false := Fb b41
     have g := f42; cbv at g; try rw [f42]
     try rw [g]
     cbv
     cases hh
     have hh : some _ = some _ := hq1
     refine hQ1 _ _ ?_
     cbv
     exact Eb
   ·
    replace hh := ifF hh f31
    try rw [f31]
    cbv
    refine hD1 () _ hh fun _ e => ?_
    refine cov_of [] ?_
    cbv
    all_goals exact J0
 ·
  have f2 : (eq (cast (len (qGEx p0))) (cast (len (qGEx p1)))) = false := Fb b1
  have g := f2; cbv at g; try rw [f2]
  try rw [g]
  cbv
  exact Eb

theorem c_scc19 : ∀ k : Nat, (∀ {p0 : GEx} {p1 : GEx} {r : Bool}, impl_ExSame.f k p0 p1 = some r → FunW P 19 [.agg [iA p0.Kind, iA p0.Sym, iA p0.N, tA (qGEx p0.Kids)], .agg [iA p1.Kind, iA p1.Sym, iA p1.N, tA (qGEx p1.Kids)]] [hA, hA] (bA r)) := by
  intro k
  induction k using Nat.strongRecOn with
  | _ k ih =>
  · intro p0 p1 r hh
    cases k with
    | zero => unfold impl_ExSame.f at hh; cases hh
    | succ k =>
    obtain ⟨p0a, p0b, p0c, p0d⟩ := p0
    obtain ⟨p1a, p1b, p1c, p1d⟩ := p1
    unfold impl_ExSame.f at hh
    refine go (ts := [(4, none)]) (rm := [.own]) (pm := [.skip, .skip]) Tryz.func19 ?_
    intro Fn LW len cast toNat wrap add sub mul bin lt eq At set part app fz' rep nadd nmax ssize sext sget scat seq slt Wide Flat Ones Room r' post' hC hF hr hp
    cbv
    refine bcs (fun f2 => ?_) (fun f2 => ?_)
    ·
     replace hh := ifT hh f2
     try rw [f2]
     cbv
     refine bcs (fun f4 => ?_) (fun f4 => ?_)
     ·
      replace hh := ifT hh f4
      try rw [f4]
      cbv
      refine bcs (fun f6 => ?_) (fun f6 => ?_)
      ·
       replace hh := ifT hh f6
       try rw [f6]
       cbv
       replace hh := bind_some hh
       obtain ⟨x8, h7, hh⟩ := hh
       refine go_call hF (c_slices_EqualFunc_2_impl_ExSame hQ (g2 := fun y0 y1 => impl_ExSame.f k y0 y1) (fun h => (ih k (Nat.lt_succ_self k)) h) h7) ?_
       cbv
       exact Eb
      ·
       replace hh := ifF hh f6
       try rw [f6]
       cbv
       exact Eb
     ·
      replace hh := ifF hh f4
      try rw [f4]
      cbv
      exact Eb
    ·
     replace hh := ifF hh f2
     try rw [f2]
     cbv
     exact Eb
theorem c_impl_ExSame {k : Nat} {p0 : GEx} {p1 : GEx} {r : Bool} (hh : impl_ExSame.f k p0 p1 = some r) : FunW P 19 [.agg [iA p0.Kind, iA p0.Sym, iA p0.N, tA (qGEx p0.Kids)], .agg [iA p1.Kind, iA p1.Sym, iA p1.N, tA (qGEx p1.Kids)]] [hA, hA] (bA r) := (c_scc19 hQ k) hh

theorem c_impl_ExSame_L0_1 {k : Nat} {p0 : GEx} {p1 : GEx} {r : Bool} (hh : impl_ExSame.f k p0 p1 = some r) : FunW P 19 [.agg [iA p0.Kind, iA p0.Sym, iA p0.N, oA 4 (qGExO p0.Kids)], .agg [iA p1.Kind, iA p1.Sym, iA p1.N, oA 4 (qGExO p1.Kids)]] [.agg [iA p0.Kind, iA p0.Sym, iA p0.N, oA 4 (qGExO p0.Kids)], .agg [iA p1.Kind, iA p1.Sym, iA p1.N, oA 4 (qGExO p1.Kids)]] (bA r) := by
  cases hQ; exact (c_impl_ExSame .mk hh).lend (rfl) (.lend (by simp) (.lend (by simp) .nil))

theorem c_spec_TurnEvs {k : Nat} {p0 : List GEv} {p1 : List Int} {r : List GEv} (hh : spec_TurnEvs.f k p0 p1 = some r) : FunW P 22 [tA (qGEv p0), tA (qInt p1)] [hA, hA] (oA 3 (qGEv r)) := by
 unfold spec_TurnEvs.f at hh
 refine go (ts := [(4, none)]) (rm := [.own]) (pm := [.skip, .skip]) Tryz.func22 ?_
 intro Fn LW len cast toNat wrap add sub mul bin lt eq At set part app fz' rep nadd nmax ssize sext sget scat seq slt Wide Flat Ones Room r' post' hC hF hr hp
 cbv
 replace hh := bind_some hh
 obtain ⟨x2, h1, hh⟩ := hh
 refine go_call hF (c_spec_EvsOk hQ h1) ?_
 cbv
 replace hh := if_or hh
 rcases hh with ⟨b4, hh⟩ | ⟨b4, hh⟩
 ·
  have f5 : x2 = true := Tb b4
  have g := f5; cbv at g; try rw [f5]
  try rw [g]
  cbv
  replace hh := bind_some hh
  obtain ⟨x7, h6, hh⟩ := hh
  refine go_call hF (c_spec_TurnBy hQ h6) ?_
  cbv
  replace hh := if_or hh
  rcases hh with ⟨b9, hh⟩ | ⟨b9, hh⟩
  ·
   have f10 : x7 = true := Tb b9
   have g := f10; cbv at g; try rw [f10]
   try rw [g]
   cbv
   replace hh := bind_some hh
   obtain ⟨o1, hl1, hq1⟩ := hh
   refine loop_go4 hC eok mixed (fun n (i : (List GEv) × Int) => spec_TurnEvs.l0 k p0 p1 n i.1 i.2)
    (fun ⟨s20, s21⟩ => (⟨[(0, tA (qGEv p0)), (1, tA (qInt p1)), (5, .ref (8, 0) 1 0 (len (qGEv s20))), (6, iA s21)], [((8, 0), .arr 1 3 (qGEv s20))]⟩ : St))
    (fun (x31 : List GEv) => (⟨[(5, .ref (8, 0) 1 0 (len (qGEv x31)))], [((8, 0), .arr 1 3 (qGEv x31))]⟩ : St)) (fun x => x) (.exit 0)
    (i0 := (_, _)) hl1 (fun _ => rfl) ?_ ?_ ?_
   ·
    rintro ⟨t0, t1⟩ e
    refine cov_of [((8, 0), (8, 0))] ?_
    cbv
    all_goals exact J2
   ·
    rintro x31 hx
    subst o1
    have hh := hq1
    cbv
    exact Eb
   ·
    rintro n ⟨s20, s21⟩ N1 D1 hh hN1 hD1 hQ1
    dsimp only at hh
    unfold spec_TurnEvs.l0 at hh
    cbv
    refine bcs (fun f33 => ?_) (fun f33 => ?_)
    ·
     replace hh := ifT hh f33
     try rw [f33]
     cbv
     replace hh := req_some hh
     obtain ⟨h34, hh⟩ := hh
     replace hh := bind_some hh
     obtain ⟨⟨e35a, e35b, e35c⟩, h36, hh⟩ := hh
     try dsimp only at hh
     refine ⟨[iA e35a, iA e35b, iA e35c], Nb h34, Gb h36, ?_⟩
     cbv
     replace hh := req_some hh
     obtain ⟨h37, hh⟩ := hh
     try dsimp only at h37
     replace hh := bind_some hh
     obtain ⟨e38, h39, hh⟩ := hh
     refine ⟨[iA e38], Nb h37, Gb h39, ?_⟩
     cbv
     replace hh := req_some hh
     obtain ⟨h40, hh⟩ := hh
     refine ⟨⟨Ob, Ab⟩, ?_⟩
     refine ⟨⟨Ob, Wb h40⟩, ?_⟩
     refine hN1 (_, _) _ hh fun ⟨t0, t1⟩ e => ?_
     refine cov_of [((8, 0), (37, 0))] ?_
     cbv
     all_goals exact J2
    ·
     replace hh := ifF hh f33
     try rw [f33]
     cbv
     refine hD1 _ _ hh fun t0 e => ?_
     refine cov_of [((8, 0), (8, 0))] ?_
     cbv
     all_goals exact J1
  ·
   have f10 : x7 = false := Fb b9
   have g := f10; cbv at g; try rw [f10]
   try rw [g]
   cbv
   exact Eb
 ·
  have f5 : x2 = false := Fb b4
  have g := f5; cbv at g; try rw [f5]
  try rw [g]
  cbv
  exact Eb
theorem c_spec_TurnEvs_L0 {k : Nat} {p0 : List GEv} {p1 : List Int} {r : List GEv} (hh : spec_TurnEvs.f k p0 p1 = some r) : FunW P 22 [oA 3 (qGEv p0), tA (qInt p1)] [oA 3 (qGEv p0), hA] (oA 3 (qGEv r)) := by
  cases hQ; exact (c_spec_TurnEvs .mk hh).lend (r_GEv_ownd _) (.lend (congrArg A.tree (r_GEv_fz _).symm) (.same rfl .nil))

theorem c_slices_Equal {k : Nat} {p0 : List GEv} {p1 : List GEv} {r : Bool} (hh : slices_Equal.f k p0 p1 = some r) : FunW P 70 [tA (qGEv p0), tA (qGEv p1)] [hA, hA] (bA r) := by
 unfold slices_Equal.f at hh
 refine go (ts := [(4, none)]) (rm := [.own]) (pm := [.skip, .skip]) Tryz.func70 ?_
 intro Fn LW len cast toNat wrap add sub mul bin lt eq At set part app fz' rep nadd nmax ssize sext sget scat seq slt Wide Flat Ones Room r' post' hC hF hr hp
 cbv
 replace hh := if_or hh
 rcases hh with ⟨b1, hh⟩ | ⟨b1, hh⟩
 ·
  have f2 : (eq (cast (len (qGEv p0))) (cast (len (qGEv p1)))) = true := Tb b1
  have g := f2; cbv at g; try rw [f2]
  try rw [g]
  cbv
  replace hh := bind_some hh
  obtain ⟨o1, hl1, hq1⟩ := hh
  refine loop_go4 hC eok mixed (slices_Equal.l0 k p0 p1)
   (fun s17 => (⟨[(0, tA (qGEv p0)), (1, tA (qGEv p1)), (12, iA (cast (len (qGEv p0)))), (13, iA s17)], []⟩ : St))
   (fun (_ : Unit) => (⟨[], []⟩ : St)) .ok (.exit 0)
   (i0 := _) hl1 (fun _ => rfl) ?_ ?_ ?_
  ·
   rintro t0 e
   refine cov_of [] ?_
   cbv
   all_goals exact J1
  ·
   rintro _ hx
   subst o1
   have hh := hq1
   cbv
   exact Eb
  ·
   rintro n s17 N1 D1 hh hN1 hD1 hQ1
   unfold slices_Equal.l0 at hh
   cbv
   refine bcs (fun f33 => ?_) (fun f33 => ?_)
   ·
    replace hh := ifT hh f33
    try rw [f33]
    cbv
    replace hh := req_some hh
    obtain ⟨h34, hh⟩ := hh
    replace hh := bind_some hh
    obtain ⟨⟨e35a, e35b, e35c⟩, h36, hh⟩ := hh
    try dsimp only at hh
    refine ⟨[iA e35a, iA e35b, iA e35c], Nb h34, Gb h36, ?_⟩
    cbv
    replace hh := req_some hh
    obtain ⟨h37, hh⟩ := hh
    replace hh := bind_some hh
    obtain ⟨⟨e38a, e38b, e38c⟩, h39, hh⟩ := hh
    try dsimp only at hh
    refine ⟨[iA e38a, iA e38b, iA e38c], Nb h37, Gb h39, ?_⟩
    cbv
    replace hh := if_or hh
    rcases hh with ⟨b40, hh⟩ | ⟨b40, hh⟩
    ·
     have f41 : (eq e35a e38a) = true := Tb b40
     have g := f41; cbv at g; try rw [f41]
     try rw [g]
     cbv
     replace hh := if_or hh
     rcases hh with ⟨b42, hh⟩ | ⟨b42, hh⟩
     ·
      have f43 : (eq e35b e38b) = true := Tb b42
      have g := f43; cbv at g; try rw [f43]
      try rw [g]
      cbv
      replace hh := if_or hh
      rcases hh with ⟨b44, hh⟩ | ⟨b44, hh⟩
      ·
       have f45 : (eq e35c e38c) = true := Tb b44
       have g := f45; cbv at g; try rw [f45]
       try rw [g]
       cbv
       refine hN1 _ _ hh fun t0 e => ?_
       refine cov_of [] ?_
       cbv
       all_goals exact J1
      ·
       have f45 : (eq e35c e38c) = false := Fb b44
       have g := f45; cbv at g; try rw [f45]
       try rw [g]
       cbv
       cases hh
       have hh : some _ = some _ := hq1
       refine hQ1 _ _ ?_
       cbv
       exact Eb
     ·
      have f43 : (eq e35b e38b) = false := Fb b42
      have g := f43; cbv at g; try rw [f43]
      try rw [g]
      cbv
      cases hh
      have hh : some _ = some _ := hq1
      refine hQ1 _ _ ?_
      cbv
      exact Eb
    ·
     have f41 : (eq e35a e38a) = false := Fb b40
     have g := f41; cbv at g; try rw [f41]
     try rw [g]
     cbv
     cases hh
     have hh : some _ = some _ := hq1
     refine hQ1 _ _ ?_
     cbv
     exact Eb
   ·
    replace hh := ifF hh f33
    try rw [f33]
    cbv
    refine hD1 () _ hh fun _ e => ?_
    refine cov_of [] ?_
    cbv
    all_goals exact J0
 ·
  have f2 : (eq (cast (len (qGEv p0))) (cast (len (qGEv p1)))) = false := Fb b1
  have g := f2; cbv at g; try rw [f2]
  try rw [g]
  cbv
  exact Eb

theorem c_impl_EvsSame {k : Nat} {p0 : List GEv} {p1 : List GEv} {r : Bool} (hh : impl_EvsSame.f k p0 p1 = some r) : FunW P 21 [tA (qGEv p0), tA (qGEv p1)] [hA, hA] (bA r) := by
 unfold impl_EvsSame.f at hh
 refine go (ts := [(4, none)]) (rm := [.own]) (pm := [.skip, .skip]) Tryz.func21 ?_
 intro Fn LW len cast toNat wrap add sub mul bin lt eq At set part app fz' rep nadd nmax ssize sext sget scat seq slt Wide Flat Ones Room r' post' hC hF hr hp
 cbv
 replace hh := bind_some hh
 obtain ⟨x2, h1, hh⟩ := hh
 refine go_call hF (c_slices_Equal hQ h1) ?_
 cbv
 exact Eb
theorem c_impl_EvsSame_L0_1 {k : Nat} {p0 : List GEv} {p1 : List GEv} {r : Bool} (hh : impl_EvsSame.f k p0 p1 = some r) : FunW P 21 [oA 3 (qGEv p0), oA 3 (qGEv p1)] [oA 3 (qGEv p0), oA 3 (qGEv p1)] (bA r) := by
  cases hQ; exact (c_impl_EvsSame .mk hh).lend (rfl) (.lend (congrArg A.tree (r_GEv_fz _).symm) (.lend (congrArg A.tree (r_GEv_fz _).symm) .nil))

theorem c_impl_isMode {p0 : Int} {r : Bool} (hh : impl_isMode.f p0 = some r) : FunW P 76 [iA p0] [hA] (bA r) := by
 unfold impl_isMode.f at hh
 refine go (ts := [(2, none)]) (rm := [.own]) (pm := [.skip]) Tryz.func76 ?_
 intro Fn LW len cast toNat wrap add sub mul bin lt eq At set part app fz' rep nadd nmax ssize sext sget scat seq slt Wide Flat Ones Room r' post' hC hF hr hp
 cbv
 replace hh := bind_some hh
 obtain ⟨x2, h1, hh⟩ := hh
 refine go_call hF (c_impl_in hQ h1) ?_
 cbv
 exact Eb

theorem c_impl_OccOk {k : Nat} {p0 : GOcc} {r : Bool} (hh : impl_OccOk.f k p0 = some r) : FunW P 97 [.agg [iA p0.From, iA p0.To, tA (qInt p0.Ids)]] [hA] (bA r) := by
 obtain ⟨p0a, p0b, p0c⟩ := p0
 unfold impl_OccOk.f at hh
 refine go (ts := [(2, none)]) (rm := [.own]) (pm := [.skip]) Tryz.func97 ?_
 intro Fn LW len cast toNat wrap add sub mul bin lt eq At set part app fz' rep nadd nmax ssize sext sget scat seq slt Wide Flat Ones Room r' post' hC hF hr hp
 cbv
 replace hh := bind_some hh
 obtain ⟨o1, hl1, hq1⟩ := hh
 refine loop_go4 hC eok mixed (fun n (i : Int × Int) => impl_OccOk.l0 k (⟨p0a, p0b, p0c⟩ : GOcc) n i.1 i.2)
  (fun ⟨s11, s12⟩ => (⟨[(1, .mptr (1, 0) 1 0 0), (3, iA s11), (7, tA (qInt p0c)), (8, iA (cast (len (qInt p0c)))), (9, iA s12)], [((1, 0), .box 1 [iA p0a, iA p0b, tA (qInt p0c)])]⟩ : St))
  (fun (_ : Unit) => (⟨[(1, .mptr (1, 0) 1 0 0)], [((1, 0), .box 1 [iA p0a, iA p0b, tA (qInt p0c)])]⟩ : St)) .ok (.exit 0)
  (i0 := (_, _)) hl1 (fun _ => rfl) ?_ ?_ ?_
 ·
  rintro ⟨t0, t1⟩ e
  refine cov_of [((1, 0), (1, 0))] ?_
  cbv
  all_goals exact J2
 ·
  rintro _ hx
  subst o1
  have hh := hq1
  cbv
  replace hh := if_or hh
  rcases hh with ⟨b33, hh⟩ | ⟨b33, hh⟩
  ·
   have f34 : (lt p0a 1) = true := Tb b33
   have g := f34; cbv at g; try rw [f34]
   try rw [g]
   cbv
   exact Eb
  ·
   have f34 : (lt p0a 1) = false := Fb b33
   have g := f34; cbv at g; try rw [f34]
   try rw [g]
   cbv
   replace hh := bind_some hh
   obtain ⟨x36, h35, hh⟩ := hh
   refine go_call hF (c_impl_in hQ h35) ?_
   cbv
   refine bcs (fun f39 => ?_) (fun f39 => ?_)
   ·
    replace hh := ifT hh f39
    try rw [f39]
    cbv
    exact Eb
   ·
    replace hh := ifF hh f39
    try rw [f39]
    cbv
    exact Eb
 ·
  rintro n ⟨s11, s12⟩ N1 D1 hh hN1 hD1 hQ1
  dsimp only at hh
  unfold impl_OccOk.l0 at hh
  cbv
  refine bcs (fun f24 => ?_) (fun f24 => ?_)
  ·
   replace hh := ifT hh f24
   try rw [f24]
   cbv
   replace hh := req_some hh
   obtain ⟨h25, hh⟩ := hh
   replace hh := bind_some hh
   obtain ⟨e26, h27, hh⟩ := hh
   refine ⟨[iA e26], Nb h25, Gb h27, ?_⟩
   cbv
   replace hh := bind_some hh
   obtain ⟨x29, h28, hh⟩ := hh
   refine go_call hF (c_impl_in hQ h28) ?_
   cbv
   replace hh := if_or hh
   rcases hh with ⟨b31, hh⟩ | ⟨b31, hh⟩
   ·
    have f32 : x29 = true := Tb b31
    have g := f32; cbv at g; try rw [f32]
    try rw [g]
    cbv
    refine hN1 (_, _) _ hh fun ⟨t0, t1⟩ e => ?_
    refine cov_of [((1, 0), (1, 0))] ?_
    cbv
    all_goals exact J2
   ·
    have f32 : x29 = false := Fb b31
    have g := f32; cbv at g; try rw [f32]
    try rw [g]
    cbv
    cases hh
    have hh : some _ = some _ := hq1
    refine hQ1 _ _ ?_
    cbv
    exact Eb
  ·
   replace hh := ifF hh f24
   try rw [f24]
   cbv
   refine hD1 () _ hh fun _ e => ?_
   refine cov_of [((1, 0), (1, 0))] ?_
   cbv
   all_goals exact J0

theorem c_impl_OccLess {k : Nat} {p0 : GOcc} {p1 : GOcc} {r : Bool} (hh : impl_OccLess.f k p0 p1 = some r) : FunW P 125 [.agg [iA p0.From, iA p0.To, tA (qInt p0.Ids)], .agg [iA p1.From, iA p1.To, tA (qInt p1.Ids)]] [hA, hA] (bA r) := by
 obtain ⟨p0a, p0b, p0c⟩ := p0
 obtain ⟨p1a, p1b, p1c⟩ := p1
 unfold impl_OccLess.f at hh
 refine go (ts := [(4, none)]) (rm := [.own]) (pm := [.skip, .skip]) Tryz.func125 ?_
 intro Fn LW len cast toNat wrap add sub mul bin lt eq At set part app fz' rep nadd nmax ssize sext sget scat seq slt Wide Flat Ones Room r' post' hC hF hr hp
 cbv
 replace hh := bind_some hh
 obtain ⟨x2, h1, hh⟩ := hh
 refine go_call hF (c_impl_compare hQ h1) ?_
 cbv
 exact Eb

theorem c_impl_OccsOk {k : Nat} {p0 : List GOcc} {r : Bool} (hh : impl_OccsOk.f k p0 = some r) : FunW P 84 [tA (qGOcc p0)] [hA] (bA r) := by
 unfold impl_OccsOk.f at hh
 refine go (ts := [(2, none)]) (rm := [.own]) (pm := [.skip]) Tryz.func84 ?_
 intro Fn LW len cast toNat wrap add sub mul bin lt eq At set part app fz' rep nadd nmax ssize sext sget scat seq slt Wide Flat Ones Room r' post' hC hF hr hp
 cbv
 replace hh := bind_some hh
 obtain ⟨o1, hl1, hq1⟩ := hh
 refine loop_go4 hC eok mixed (impl_OccsOk.l0 k p0)
  (fun s21 => (⟨[(0, tA (qGOcc p0)), (5, tA (qGOcc p0)), (6, iA (cast (len (qGOcc p0)))), (7, iA s21)], []⟩ : St))
  (fun (_ : Unit) => (⟨[(0, tA (qGOcc p0))], []⟩ : St)) .ok (.exit 0)
  (i0 := _) hl1 (fun _ => rfl) ?_ ?_ ?_
 ·
  rintro t0 e
  refine cov_of [] ?_
  cbv
  all_goals exact J1
 ·
  rintro _ hx
  subst o1
  have hh := hq1
  cbv
  exact Eb
 ·
  rintro n s21 N1 D1 hh hN1 hD1 hQ1
  unfold impl_OccsOk.l0 at hh
  cbv
  refine bcs (fun f43 => ?_) (fun f43 => ?_)
  ·
   replace hh := ifT hh f43
   try rw [f43]
   cbv
   replace hh := req_some hh
   obtain ⟨h44, hh⟩ := hh
   replace hh := bind_some hh
   obtain ⟨⟨e45a, e45b, e45c⟩, h46, hh⟩ := hh
   try dsimp only at hh
   refine ⟨[iA e45a, iA e45b, tA (qInt e45c)], Nb h44, Gb h46, ?_⟩
   cbv
   replace hh := bind_some hh
   obtain ⟨x48, h47, hh⟩ := hh
   refine go_call hF (c_impl_OccOk hQ h47) ?_
   cbv
   replace hh := if_or hh
   rcases hh with ⟨b50, hh⟩ | ⟨b50, hh⟩
   ·
    have f51 : x48 = true := Tb b50
    have g := f51; cbv at g; try rw [f51]
    try rw [g]
    cbv
    refine bcs (fun f53 => ?_) (fun f53 => ?_)
    ·
     replace hh := ifT hh f53
     try rw [f53]
     cbv
     replace hh := req_some hh
     obtain ⟨h54, hh⟩ := hh
     replace hh := bind_some hh
     obtain ⟨⟨e55a, e55b, e55c⟩, h56, hh⟩ := hh
     try dsimp only at hh
     refine ⟨[iA e55a, iA e55b, tA (qInt e55c)], Nb h54, Gb h56, ?_⟩
     cbv
     replace hh := bind_some hh
     obtain ⟨x58, h57, hh⟩ := hh
     refine go_call hF (c_impl_OccLess hQ h57) ?_
     cbv
     replace hh := if_or hh
     rcases hh with ⟨b60, hh⟩ | ⟨b60, hh⟩
     ·
      have f61 : x58 = true := Tb b60
      have g := f61; cbv at g; try rw [f61]
      try rw [g]
      cbv
      refine hN1 _ _ hh fun t0 e => ?_
      refine cov_of [] ?_
      cbv
      all_goals exact J1
     ·
      have f61 : x58 = false := Fb b60
      have g := f61; cbv at g; try rw [f61]
      try rw [g]
      cbv
      cases hh
      have hh : some _ = some _ := hq1
      refine hQ1 _ _ ?_
      cbv
      exact Eb
    ·
     replace hh := ifF hh f53
     try rw [f53]
     cbv
     refine hN1 _ _ hh fun t0 e => ?_
     refine cov_of [] ?_
     cbv
     all_goals exact J1
   ·
    have f51 : x48 = false := Fb b50
    have g := f51; cbv at g; try rw [f51]
    try rw [g]
    cbv
    cases hh
    have hh : some _ = some _ := hq1
    refine hQ1 _ _ ?_
    cbv
    exact Eb
  ·
   replace hh := ifF hh f43
   try rw [f43]
   cbv
   refine hD1 () _ hh fun _ e => ?_
   refine cov_of [] ?_
   cbv
   all_goals exact J0

theorem c_slices_BinarySearchFunc_impl_compare {k : Nat} {g2 : GOcc → GOcc → Option Int} (hg2 : ∀ {y0 : GOcc} {y1 : GOcc} {r : Int}, g2 y0 y1 = some r → FunW P 80 [.agg [iA y0.From, iA y0.To, tA (qInt y0.Ids)], .agg [iA y1.From, iA y1.To, tA (qInt y1.Ids)]] [hA, hA] (iA r)) {p0 : List GOcc} {p1 : GOcc} {r : Int × Bool} (hh : slices_BinarySearchFunc.f g2 k p0 p1 = some r) : FunW P 139 [tA (qGOcc p0), .agg [iA p1.From, iA p1.To, tA (qInt p1.Ids)], .clo 80 []] [hA, hA, hA] (.tup [iA r.1, bA r.2]) := by
 obtain ⟨p1a, p1b, p1c⟩ := p1
 unfold slices_BinarySearchFunc.f at hh
 refine go (ts := [(6, none), (7, none)]) (rm := [.own, .own]) (pm := [.skip, .skip, .skip]) Tryz.func139 ?_
 intro Fn LW len cast toNat wrap add sub mul bin lt eq At set part app fz' rep nadd nmax ssize sext sget scat seq slt Wide Flat Ones Room r' post' hC hF hr hp
 cbv
 replace hh := bind_some hh
 obtain ⟨o1, hl1, hq1⟩ := hh
 refine loop_go4 hC eok mixed (fun n (i : Int × Int) => slices_BinarySearchFunc.l0 k g2 p0 (⟨p1a, p1b, p1c⟩ : GOcc) n i.1 i.2)
  (fun ⟨s12, s13⟩ => (⟨[(0, tA (qGOcc p0)), (2, .clo 80 []), (4, .mptr (4, 0) 1 0 0), (8, iA (cast (len (qGOcc p0)))), (9, iA s12), (10, iA s13)], [((4, 0), .box 1 [iA p1a, iA p1b, tA (qInt p1c)])]⟩ : St))
  (fun (x25 : Int) => (⟨[(0, tA (qGOcc p0)), (2, .clo 80 []), (4, .mptr (4, 0) 1 0 0), (8, iA (cast (len (qGOcc p0)))), (9, iA x25)], [((4, 0), .box 1 [iA p1a, iA p1b, tA (qInt p1c)])]⟩ : St)) (fun x => x) (.exit 0)
  (i0 := (_, _)) hl1 (fun _ => rfl) ?_ ?_ ?_
 ·
  rintro ⟨t0, t1⟩ e
  refine cov_of [((4, 0), (4, 0))] ?_
  cbv
  all_goals exact J2
 ·
  rintro x25 hx
  subst o1
  have hh := hq1
  cbv
  refine bcs (fun f38 => ?_) (fun f38 => ?_)
  ·
   replace hh := ifT hh f38
   try rw [f38]
   cbv
   replace hh := req_some hh
   obtain ⟨h39, hh⟩ := hh
   replace hh := bind_some hh
   obtain ⟨⟨e40a, e40b, e40c⟩, h41, hh⟩ := hh
   try dsimp only at hh
   refine ⟨[iA e40a, iA e40b, tA (qInt e40c)], Nb h39, Gb h41, ?_⟩
   cbv
   replace hh := bind_some hh
   obtain ⟨x43, h42, hh⟩ := hh
   refine go_call hF (hg2 h42) ?_
   cbv
   exact Eb
  ·
   replace hh := ifF hh f38
   try rw [f38]
   cbv
   exact Eb
 ·
  rintro n ⟨s12, s13⟩ N1 D1 hh hN1 hD1 hQ1
  dsimp only at hh
  unfold slices_BinarySearchFunc.l0 at hh
  cbv
  refine bcs (fun f27 => ?_) (fun f27 => ?_)
  ·
   replace hh := ifT hh f27
   try rw [f27]
   cbv
   replace hh := req_some hh
   obtain ⟨h28, hh⟩ := hh
   refine ⟨Nb h28, ?_⟩
   replace hh := req_some hh
   obtain ⟨h29, hh⟩ := hh
   replace hh := bind_some hh
   obtain ⟨⟨e30a, e30b, e30c⟩, h31, hh⟩ := hh
   try dsimp only at hh
   refine ⟨[iA e30a, iA e30b, tA (qInt e30c)], Nb h29, Gb h31, ?_⟩
   cbv
   replace hh := bind_some hh
   obtain ⟨x33, h32, hh⟩ := hh
   refine go_call hF (hg2 h32) ?_
   cbv
   refine bcs (fun f36 => ?_) (fun f36 => ?_)
   ·
    replace hh := ifT hh f36
    try rw [f36]
    cbv
    refine hN1 (_, _) _ hh fun ⟨t0, t1⟩ e => ?_
    refine cov_of [((4, 0), (4, 0))] ?_
    cbv
    all_goals exact J2
   ·
    replace hh := ifF hh f36
    try rw [f36]
    cbv
    refine hN1 (_, _) _ hh fun ⟨t0, t1⟩ e => ?_
    refine cov_of [((4, 0), (4, 0))] ?_
    cbv
    all_goals exact J2
  ·
   replace hh := ifF hh f27
   try rw [f27]
   cbv
   refine hD1 _ _ hh fun t0 e => ?_
   refine cov_of [((4, 0), (4, 0))] ?_
   cbv
   all_goals exact J1

theorem c_slices_Clone {p0 : List GOcc} {r : List GOcc} (hh : slices_Clone.f p0 = some r) : FunW P 141 [tA (qGOcc p0)] [hA] (oA 3 (qGOcc r)) := by
 unfold slices_Clone.f at hh
 refine go (ts := [(2, none)]) (rm := [.own]) (pm := [.skip]) Tryz.func141 ?_
 intro Fn LW len cast toNat wrap add sub mul bin lt eq At set part app fz' rep nadd nmax ssize sext sget scat seq slt Wide Flat Ones Room r' post' hC hF hr hp
 cbv
 replace hh := req_some hh
 obtain ⟨h1, hh⟩ := hh
 intro b hb
 cases b
 · cbv
   refine ⟨⟨Ab, Ab⟩, ?_⟩
   refine ⟨⟨Ob, Wb h1⟩, ?_⟩
   exact Eb
 · have e : p0 = [] := by cases hC; cases hQ; simpa using hb rfl
   cbv
   refine ⟨3, ?_⟩
   cbv
   subst e
   exact Eb


theorem c_slices_Insert {p0 : List GOcc} {p1 : Int} {p2 : List GOcc} {r : List GOcc} (hh : slices_Insert.f p0 p1 p2 = some r) : FunW P 140 [oA 3 (qGOcc p0), iA p1, oA 3 (qGOcc p2)] [hA, hA, hA] (oA 3 (qGOcc r)) := by
  cases hQ
  exact x_slices_Insert hh


theorem c_impl_put {k : Nat} {p0 : List GOcc} {p1 : GOcc} {r : List GOcc} (hh : impl_put.f k p0 p1 = some r) : FunW P 98 [tA (qGOcc p0), .agg [iA p1.From, iA p1.To, tA (qInt p1.Ids)]] [hA, hA] (tA (qGOcc r)) := by
 obtain ⟨p1a, p1b, p1c⟩ := p1
 unfold impl_put.f at hh
 refine go (ts := [(4, none)]) (rm := [.val]) (pm := [.skip, .skip]) Tryz.func98 ?_
 intro Fn LW len cast toNat wrap add sub mul bin lt eq At set part app fz' rep nadd nmax ssize sext sget scat seq slt Wide Flat Ones Room r' post' hC hF hr hp
 cbv
 replace hh := bind_some hh
 obtain ⟨⟨x2_0, x2_1⟩, h1, hh⟩ := hh
 try dsimp only at hh
 refine go_call hF (c_slices_BinarySearchFunc_impl_compare hQ (g2 := fun y0 y1 => impl_compare.f k y0 y1) (fun h => c_impl_compare hQ h) h1) ?_
 cbv
 refine bcs (fun f5 => ?_) (fun f5 => ?_)
 ·
  replace hh := ifT hh f5
  try rw [f5]
  cbv
  exact Eb
 ·
  replace hh := ifF hh f5
  try rw [f5]
  cbv
  replace hh := bind_some hh
  obtain ⟨x7, h6, hh⟩ := hh
  refine go_call hF (c_slices_Clone hQ h6) ?_
  cbv
  replace hh := bind_some hh
  obtain ⟨x10, h9, hh⟩ := hh
  refine ⟨Ob, ?_⟩
  refine go_call hF (c_slices_Insert hQ h9) ?_
  cbv
  exact Eb

end Go.Proofs.YtdhlbpgjcfdofaaGreat
