/- The functions of this program do what the plain ones do. -/
import Derived.Test.YtggoffcbifibnaaN
import Derived.Test.YtggoffcbifibnaaVE
namespace Go.Proofs.Ytggoffcbifibnaa
open Go Go.Vm
set_option linter.unusedVariables false
set_option maxHeartbeats 4000000
noncomputable abbrev P : Program := Try.prog
variable {qIu8 : List Int → Vm.Rows} {qGEv : List GEv → Vm.Rows} {qInt : List Int → Vm.Rows} {qGOcc : List GOcc → Vm.Rows} {qGOccO : List GOcc → Vm.Rows} (hQ : EQ qIu8 qGEv qInt qGOcc qGOccO)
include hQ
theorem c_spec_l14Open {p0 : List Int} {r : Gl14Rd} (hh : spec_l14Open.f p0 = some r) : FunW P 12 [tA (qIu8 p0)] [hA] (.obox [tA (qIu8 r.b), iA r.p]) := by
 unfold spec_l14Open.f at hh
 refine go (ts := [(2, none)]) (rm := [.own]) (pm := [.skip]) Try.func12 ?_
 intro Fn LW len cast toNat wrap add sub mul bin lt eq At set part app fz' rep nadd nmax ssize sext sget scat seq slt Wide Flat Ones Room r' post' hC hF hr hp
 cbv
 refine bcs (fun f2 => ?_) (fun f2 => ?_)
 ·
  replace hh := ifT hh f2
  try rw [f2]
  cbv
  obtain ⟨h3, hh⟩ := req_some hh
  obtain ⟨h4, hh⟩ := req_some hh
  obtain ⟨h5, hh⟩ := req_some hh
  refine ⟨⟨Nb h3, Nb h4, Nb h5, Ab⟩, ?_⟩
  exact Eb
 ·
  replace hh := ifF hh f2
  try rw [f2]
  cbv
  exact Eb

theorem c_spec_l14Rd_pick {p0 : Gl14Rd} {p1 : Int} {r : Int × Gl14Rd} (hh : spec_l14Rd_pick.f p0 p1 = some r) : FunW P 31 [.obox [tA (qIu8 p0.b), iA p0.p], iA p1] [.obox [tA (qIu8 r.2.b), iA r.2.p], hA] (iA r.1) := by
 obtain ⟨p0a, p0b⟩ := p0
 unfold spec_l14Rd_pick.f at hh
 refine go (ts := [(4, none)]) (rm := [.own]) (pm := [.own, .skip]) Try.func31 ?_
 intro Fn LW len cast toNat wrap add sub mul bin lt eq At set part app fz' rep nadd nmax ssize sext sget scat seq slt Wide Flat Ones Room r' post' hC hF hr hp
 cbv
 refine bcs (fun f2 => ?_) (fun f2 => ?_)
 ·
  replace hh := ifT hh f2
  try rw [f2]
  cbv
  exact Eb
 ·
  replace hh := ifF hh f2
  try rw [f2]
  cbv
  refine bcs (fun f4 => ?_) (fun f4 => ?_)
  ·
   replace hh := ifT hh f4
   try rw [f4]
   cbv
   exact Eb
  ·
   replace hh := ifF hh f4
   try rw [f4]
   cbv
   refine bcs (fun f6 => ?_) (fun f6 => ?_)
   ·
    replace hh := ifT hh f6
    try rw [f6]
    cbv
    obtain ⟨h7, hh⟩ := req_some hh
    try dsimp only at h7
    obtain ⟨e8, h9, hh⟩ := bind_some hh
    refine ⟨[.lit (.int .u8 e8)], Nb h7, Gb h9, ?_⟩
    cbv
    obtain ⟨h10, hh⟩ := req_some hh
    refine ⟨Wb h10, ?_⟩
    exact Eb
   ·
    replace hh := ifF hh f6
    try rw [f6]
    cbv
    obtain ⟨h11, hh⟩ := req_some hh
    try dsimp only at h11
    refine ⟨Wb h11, ?_⟩
    obtain ⟨h12, hh⟩ := req_some hh
    try dsimp only at h12
    obtain ⟨e13, h14, hh⟩ := bind_some hh
    refine ⟨[.lit (.int .u8 e13)], Nb h12, Gb h14, ?_⟩
    cbv
    obtain ⟨h15, hh⟩ := req_some hh
    try dsimp only at h15
    refine ⟨Wb h15, ?_⟩
    obtain ⟨h16, hh⟩ := req_some hh
    try dsimp only at h16
    obtain ⟨e17, h18, hh⟩ := bind_some hh
    refine ⟨[.lit (.int .u8 e17)], Nb h16, Gb h18, ?_⟩
    cbv
    obtain ⟨h19, hh⟩ := req_some hh
    try dsimp only at h19
    refine ⟨Wb h19, ?_⟩
    obtain ⟨h21, hh⟩ := req_some hh
    refine ⟨Wb h21, ?_⟩
    exact Eb

theorem c_spec_l14Rd_num {p0 : Gl14Rd} {p1 : List Int} {r : Int × Gl14Rd} (hh : spec_l14Rd_num.f p0 p1 = some r) : FunW P 14 [.obox [tA (qIu8 p0.b), iA p0.p], tA (qInt p1)] [.obox [tA (qIu8 r.2.b), iA r.2.p], hA] (iA r.1) := by
 obtain ⟨p0a, p0b⟩ := p0
 unfold spec_l14Rd_num.f at hh
 refine go (ts := [(4, none)]) (rm := [.own]) (pm := [.own, .skip]) Try.func14 ?_
 intro Fn LW len cast toNat wrap add sub mul bin lt eq At set part app fz' rep nadd nmax ssize sext sget scat seq slt Wide Flat Ones Room r' post' hC hF hr hp
 cbv
 obtain ⟨⟨x2_0, ⟨x2_1a, x2_1b⟩⟩, h1, hh⟩ := bind_some hh
 try dsimp only at hh
 have fc := c_spec_l14Rd_pick hQ h1
 try dsimp only at fc
 refine go_call hF fc ?_
 cbv
 obtain ⟨h4, hh⟩ := req_some hh
 try dsimp only at h4
 obtain ⟨e5, h6, hh⟩ := bind_some hh
 refine ⟨[iA e5], Nb h4, Gb h6, ?_⟩
 cbv
 exact Eb

theorem c_spec_l1Evs {k : Nat} {p0 : Gl14Rd} {p1 : Int} {r : (List GEv) × Gl14Rd} (hh : spec_l1Evs.f k p0 p1 = some r) : FunW P 30 [.obox [tA (qIu8 p0.b), iA p0.p], iA p1] [.obox [tA (qIu8 r.2.b), iA r.2.p], hA] (oA 3 (qGEv r.1)) := by
 obtain ⟨p0a, p0b⟩ := p0
 unfold spec_l1Evs.f at hh
 refine go (ts := [(4, none)]) (rm := [.own]) (pm := [.own, .skip]) Try.func30 ?_
 intro Fn LW len cast toNat wrap add sub mul bin lt eq At set part app fz' rep nadd nmax ssize sext sget scat seq slt Wide Flat Ones Room r' post' hC hF hr hp
 cbv
 obtain ⟨⟨x2_0, ⟨x2_1a, x2_1b⟩⟩, h1, hh⟩ := bind_some hh
 try dsimp only at hh
 have fc := c_spec_l14Rd_pick hQ h1
 try dsimp only at fc
 refine go_call hF fc ?_
 cbv
 obtain ⟨o1, hl1, hq1⟩ := bind_some hh
 refine loop_go4 hC eok mixed (fun n (i : (List Int) × Int × (List GEv) × Int × Int) => spec_l1Evs.l0 k n i.1 i.2.1 i.2.2.1 i.2.2.2.1 i.2.2.2.2)
  (fun ⟨s16, s17, s18, s19, s20⟩ => (⟨[(0, .mptr (0, 0) 1 0 0), (5, .ref (8, 0) 1 0 (len (qGEv s18))), (6, iA s19), (7, iA s20), (1000000, .mptr (0, 0) 1 0 0)], [((0, 0), .box 1 [tA (qIu8 s16), iA s17]), ((8, 0), .arr 1 3 (qGEv s18))]⟩ : St))
  (fun (⟨x33, x34, x35⟩ : (List GEv) × (List Int) × Int) => (⟨[(5, .ref (8, 0) 1 0 (len (qGEv x33))), (1000000, .mptr (0, 0) 1 0 0)], [((0, 0), .box 1 [tA (qIu8 x34), iA x35]), ((8, 0), .arr 1 3 (qGEv x33))]⟩ : St)) (fun x => x) (.exit 0)
  (i0 := (_, _, _, _, _)) hl1 (fun _ => rfl) ?_ ?_ ?_
 ·
  rintro ⟨t0, t1, t2, t3, t4⟩ e
  refine cov_of [((0, 0), (0, 0)), ((8, 0), (8, 0))] ?_
  cbv
  all_goals exact J5
 ·
  rintro ⟨x33, x34, x35⟩ hx
  subst o1
  have hh := hq1
  cbv
  exact Eb
 ·
  rintro n ⟨s16, s17, s18, s19, s20⟩ N1 D1 hh hN1 hD1 hQ1
  dsimp only at hh
  unfold spec_l1Evs.l0 at hh
  cbv
  refine bcs (fun f37 => ?_) (fun f37 => ?_)
  ·
   replace hh := ifT hh f37
   try rw [f37]
   cbv
   obtain ⟨⟨x39_0, ⟨x39_1a, x39_1b⟩⟩, h38, hh⟩ := bind_some hh
   try dsimp only at hh
   refine ⟨Ob, ?_⟩
   have fc := c_spec_l14Rd_num hQ h38
   try dsimp only at fc
   refine go_call hF fc ?_
   cbv
   obtain ⟨⟨x42_0, ⟨x42_1a, x42_1b⟩⟩, h41, hh⟩ := bind_some hh
   try dsimp only at hh
   refine ⟨Ob, ?_⟩
   have fc := c_spec_l14Rd_num hQ h41
   try dsimp only at fc
   refine go_call hF fc ?_
   cbv
   obtain ⟨⟨x45_0, ⟨x45_1a, x45_1b⟩⟩, h44, hh⟩ := bind_some hh
   try dsimp only at hh
   refine ⟨Ob, ?_⟩
   have fc := c_spec_l14Rd_num hQ h44
   try dsimp only at fc
   refine go_call hF fc ?_
   cbv
   obtain ⟨h47, hh⟩ := req_some hh
   refine ⟨⟨Ob, Ab⟩, ?_⟩
   refine ⟨⟨Ob, Wb h47⟩, ?_⟩
   refine hN1 (_, _, _, _, _) _ hh fun ⟨t0, t1, t2, t3, t4⟩ e => ?_
   refine cov_of [((0, 0), (0, 0)), ((8, 0), (32, 0))] ?_
   cbv
   all_goals exact J5
  ·
   replace hh := ifF hh f37
   try rw [f37]
   cbv
   refine hD1 (_, _, _) _ hh fun ⟨t0, t1, t2⟩ e => ?_
   refine cov_of [((0, 0), (0, 0)), ((8, 0), (8, 0))] ?_
   cbv
   all_goals exact J3

theorem c_spec_l1Bent {k : Nat} {p0 : Gl14Rd} {r : (List GEv) × Gl14Rd} (hh : spec_l1Bent.f k p0 = some r) : FunW P 13 [.obox [tA (qIu8 p0.b), iA p0.p]] [.obox [tA (qIu8 r.2.b), iA r.2.p]] (oA 3 (qGEv r.1)) := by
 obtain ⟨p0a, p0b⟩ := p0
 unfold spec_l1Bent.f at hh
 refine go (ts := [(2, none)]) (rm := [.own]) (pm := [.own]) Try.func13 ?_
 intro Fn LW len cast toNat wrap add sub mul bin lt eq At set part app fz' rep nadd nmax ssize sext sget scat seq slt Wide Flat Ones Room r' post' hC hF hr hp
 cbv
 obtain ⟨⟨x2_0, ⟨x2_1a, x2_1b⟩⟩, h1, hh⟩ := bind_some hh
 try dsimp only at hh
 have fc := c_spec_l1Evs hQ h1
 try dsimp only at fc
 refine go_call hF fc ?_
 cbv
 refine bcs (fun f5 => ?_) (fun f5 => ?_)
 ·
  replace hh := ifT hh f5
  try rw [f5]
  cbv
  exact Eb
 ·
  replace hh := ifF hh f5
  try rw [f5]
  cbv
  obtain ⟨⟨x7_0, ⟨x7_1a, x7_1b⟩⟩, h6, hh⟩ := bind_some hh
  try dsimp only at hh
  have fc := c_spec_l14Rd_pick hQ h6
  try dsimp only at fc
  refine go_call hF fc ?_
  cbv
  obtain ⟨⟨x10_0, ⟨x10_1a, x10_1b⟩⟩, h9, hh⟩ := bind_some hh
  try dsimp only at hh
  have fc := c_spec_l14Rd_pick hQ h9
  try dsimp only at fc
  refine go_call hF fc ?_
  cbv
  refine bcs (fun f13 => ?_) (fun f13 => ?_)
  ·
   replace hh := ifT hh f13
   try rw [f13]
   cbv
   obtain ⟨⟨x15_0, ⟨x15_1a, x15_1b⟩⟩, h14, hh⟩ := bind_some hh
   try dsimp only at hh
   refine ⟨Ob, ?_⟩
   have fc := c_spec_l14Rd_num hQ h14
   try dsimp only at fc
   refine go_call hF fc ?_
   cbv
   obtain ⟨h17, hh⟩ := req_some hh
   try dsimp only at h17
   obtain ⟨h18, hh⟩ := req_some hh
   try dsimp only at h18
   refine ⟨Nb h17, Mb h18, ?_⟩
   obtain ⟨⟨e19a, e19b, e19c⟩, h20, hh⟩ := bind_some hh
   try dsimp only at hh
   refine ⟨[iA e19a, iA e19b, iA e19c], Gb h20, ?_⟩
   cbv
   exact Eb
  ·
   replace hh := ifF hh f13
   try rw [f13]
   cbv
   refine bcs (fun f22 => ?_) (fun f22 => ?_)
   ·
    replace hh := ifT hh f22
    try rw [f22]
    cbv
    obtain ⟨h23, hh⟩ := req_some hh
    obtain ⟨h24, hh⟩ := req_some hh
    try dsimp only at h24
    refine ⟨Nb h23, Mb h24, ?_⟩
    obtain ⟨⟨e25a, e25b, e25c⟩, h26, hh⟩ := bind_some hh
    try dsimp only at hh
    refine ⟨[iA e25a, iA e25b, iA e25c], Gb h26, ?_⟩
    cbv
    obtain ⟨⟨x28_0, ⟨x28_1a, x28_1b⟩⟩, h27, hh⟩ := bind_some hh
    try dsimp only at hh
    refine ⟨Ob, ?_⟩
    have fc := c_spec_l14Rd_num hQ h27
    try dsimp only at fc
    refine go_call hF fc ?_
    cbv
    obtain ⟨h30, hh⟩ := req_some hh
    try dsimp only at h30
    obtain ⟨h31, hh⟩ := req_some hh
    try dsimp only at h31
    refine ⟨Nb h30, Mb h31, ?_⟩
    obtain ⟨⟨e32a, e32b, e32c⟩, h33, hh⟩ := bind_some hh
    try dsimp only at hh
    refine ⟨[iA e32a, iA e32b, iA e32c], Gb h33, ?_⟩
    cbv
    exact Eb
   ·
    replace hh := ifF hh f22
    try rw [f22]
    cbv
    refine bcs (fun f35 => ?_) (fun f35 => ?_)
    ·
     replace hh := ifT hh f35
     try rw [f35]
     cbv
     obtain ⟨⟨x37_0, ⟨x37_1a, x37_1b⟩⟩, h36, hh⟩ := bind_some hh
     try dsimp only at hh
     refine ⟨Ob, ?_⟩
     have fc := c_spec_l14Rd_num hQ h36
     try dsimp only at fc
     refine go_call hF fc ?_
     cbv
     obtain ⟨h39, hh⟩ := req_some hh
     try dsimp only at h39
     obtain ⟨h40, hh⟩ := req_some hh
     try dsimp only at h40
     refine ⟨Nb h39, Mb h40, ?_⟩
     obtain ⟨⟨e41a, e41b, e41c⟩, h42, hh⟩ := bind_some hh
     try dsimp only at hh
     refine ⟨[iA e41a, iA e41b, iA e41c], Gb h42, ?_⟩
     cbv
     exact Eb
    ·
     replace hh := ifF hh f35
     try rw [f35]
     cbv
     refine bcs (fun f44 => ?_) (fun f44 => ?_)
     ·
      replace hh := ifT hh f44
      try rw [f44]
      cbv
      obtain ⟨o1, hl1, hq1⟩ := bind_some hh
      refine loop_go4 hC eok mixed (spec_l1Bent.l0 k)
       (fun s52 => (⟨[(3, .ref (6, 0) 1 0 (len (qGEv s52))), (1000000, .mptr (0, 0) 1 0 0)], [((0, 0), .box 1 [tA (qIu8 x10_1a), iA x10_1b]), ((6, 0), .arr 1 3 (qGEv s52))]⟩ : St))
       (fun (x60 : List GEv) => (⟨[(3, .ref (6, 0) 1 0 (len (qGEv x60))), (1000000, .mptr (0, 0) 1 0 0)], [((0, 0), .box 1 [tA (qIu8 x10_1a), iA x10_1b]), ((6, 0), .arr 1 3 (qGEv x60))]⟩ : St)) (fun x => x) (.exit 1)
       (i0 := _) hl1 (fun _ => rfl) ?_ ?_ ?_
      ·
       rintro t0 e
       refine cov_of [((0, 0), (0, 0)), ((6, 0), (6, 0))] ?_
       cbv
       all_goals exact J1
      ·
       rintro x60 hx
       subst o1
       have hh := hq1
       cbv
       exact Eb
      ·
       rintro n s52 N1 D1 hh hN1 hD1 hQ1
       unfold spec_l1Bent.l0 at hh
       cbv
       rcases if_or hh with ⟨b61, hh⟩ | ⟨b61, hh⟩
       ·
        have f62 : (lt 24 (cast (len (qGEv s52)))) = true := Tb b61
        have g := f62; cbv at g; try rw [f62]
        try rw [g]
        cbv
        refine hD1 _ _ hh fun t0 e => ?_
        refine cov_of [((0, 0), (0, 0)), ((6, 0), (6, 0))] ?_
        cbv
        all_goals exact J1
       ·
        have f62 : (lt 24 (cast (len (qGEv s52)))) = false := Fb b61
        have g := f62; cbv at g; try rw [f62]
        try rw [g]
        cbv
        obtain ⟨h63, hh⟩ := req_some hh
        obtain ⟨h64, hh⟩ := req_some hh
        refine ⟨Nb h63, Mb h64, ?_⟩
        obtain ⟨⟨e65a, e65b, e65c⟩, h66, hh⟩ := bind_some hh
        try dsimp only at hh
        refine ⟨[iA e65a, iA e65b, iA e65c], Gb h66, ?_⟩
        cbv
        obtain ⟨h67, hh⟩ := req_some hh
        refine ⟨⟨Ob, Ab⟩, ?_⟩
        refine ⟨⟨Ob, Wb h67⟩, ?_⟩
        refine hN1 _ _ hh fun t0 e => ?_
        refine cov_of [((0, 0), (0, 0)), ((6, 0), (64, 0))] ?_
        cbv
        all_goals exact J1
     ·
      replace hh := ifF hh f44
      try rw [f44]
      cbv
      exact Eb

theorem c_spec_DrawTurnLate {k : Nat} {p0 : List Int} {r : (List GEv) × Int} (hh : spec_DrawTurnLate.f k p0 = some r) : FunW P 4 [tA (qIu8 p0)] [hA] (.tup [oA 3 (qGEv r.1), iA r.2]) := by
 unfold spec_DrawTurnLate.f at hh
 refine go (ts := [(2, none), (3, none)]) (rm := [.own, .own]) (pm := [.skip]) Try.func4 ?_
 intro Fn LW len cast toNat wrap add sub mul bin lt eq At set part app fz' rep nadd nmax ssize sext sget scat seq slt Wide Flat Ones Room r' post' hC hF hr hp
 cbv
 obtain ⟨⟨x2a, x2b⟩, h1, hh⟩ := bind_some hh
 try dsimp only at hh
 refine go_call hF (c_spec_l14Open hQ h1) ?_
 cbv
 obtain ⟨⟨x5_0, ⟨x5_1a, x5_1b⟩⟩, h4, hh⟩ := bind_some hh
 try dsimp only at hh
 have fc := c_spec_l1Bent hQ h4
 try dsimp only at fc
 refine go_call hF fc ?_
 cbv
 obtain ⟨⟨x8_0, ⟨x8_1a, x8_1b⟩⟩, h7, hh⟩ := bind_some hh
 try dsimp only at hh
 refine ⟨Ob, ?_⟩
 have fc := c_spec_l14Rd_num hQ h7
 try dsimp only at fc
 refine go_call hF fc ?_
 cbv
 exact Eb

theorem c_impl_in {p0 : Int} {p1 : Int} {p2 : Int} {r : Bool} (hh : impl_in.f p0 p1 p2 = some r) : FunW P 16 [iA p0, iA p1, iA p2] [hA, hA, hA] (bA r) := by
 unfold impl_in.f at hh
 refine go (ts := [(6, none)]) (rm := [.own]) (pm := [.skip, .skip, .skip]) Try.func16 ?_
 intro Fn LW len cast toNat wrap add sub mul bin lt eq At set part app fz' rep nadd nmax ssize sext sget scat seq slt Wide Flat Ones Room r' post' hC hF hr hp
 cbv
 rcases if_or hh with ⟨b1, hh⟩ | ⟨b1, hh⟩
 ·
  have f2 : (lt p0 p1) = true := Tb b1
  have g := f2; cbv at g; try rw [f2]
  try rw [g]
  cbv
  exact Eb
 ·
  have f2 : (lt p0 p1) = false := Fb b1
  have g := f2; cbv at g; try rw [f2]
  try rw [g]
  cbv
  exact Eb

theorem c_impl_isSym {p0 : Int} {r : Bool} (hh : impl_isSym.f p0 = some r) : FunW P 43 [iA p0] [hA] (bA r) := by
 unfold impl_isSym.f at hh
 refine go (ts := [(2, none)]) (rm := [.own]) (pm := [.skip]) Try.func43 ?_
 intro Fn LW len cast toNat wrap add sub mul bin lt eq At set part app fz' rep nadd nmax ssize sext sget scat seq slt Wide Flat Ones Room r' post' hC hF hr hp
 cbv
 obtain ⟨x2, h1, hh⟩ := bind_some hh
 refine go_call hF (c_impl_in hQ h1) ?_
 cbv
 exact Eb

theorem c_impl_EvOk {p0 : GEv} {r : Bool} (hh : impl_EvOk.f p0 = some r) : FunW P 32 [.agg [iA p0.Sym, iA p0.At, iA p0.Val]] [hA] (bA r) := by
 obtain ⟨p0a, p0b, p0c⟩ := p0
 unfold impl_EvOk.f at hh
 refine go (ts := [(2, none)]) (rm := [.own]) (pm := [.skip]) Try.func32 ?_
 intro Fn LW len cast toNat wrap add sub mul bin lt eq At set part app fz' rep nadd nmax ssize sext sget scat seq slt Wide Flat Ones Room r' post' hC hF hr hp
 cbv
 obtain ⟨x2, h1, hh⟩ := bind_some hh
 refine go_call hF (c_impl_isSym hQ h1) ?_
 cbv
 refine bcs (fun f5 => ?_) (fun f5 => ?_)
 ·
  replace hh := ifT hh f5
  try rw [f5]
  cbv
  obtain ⟨x7, h6, hh⟩ := bind_some hh
  refine go_call hF (c_impl_in hQ h6) ?_
  cbv
  refine bcs (fun f10 => ?_) (fun f10 => ?_)
  ·
   replace hh := ifT hh f10
   try rw [f10]
   cbv
   obtain ⟨x12, h11, hh⟩ := bind_some hh
   refine go_call hF (c_impl_in hQ h11) ?_
   cbv
   exact Eb
  ·
   replace hh := ifF hh f10
   try rw [f10]
   cbv
   exact Eb
 ·
  replace hh := ifF hh f5
  try rw [f5]
  cbv
  exact Eb

theorem c_impl_EvsOk {k : Nat} {p0 : List GEv} {r : Bool} (hh : impl_EvsOk.f k p0 = some r) : FunW P 15 [tA (qGEv p0)] [hA] (bA r) := by
 unfold impl_EvsOk.f at hh
 refine go (ts := [(2, none)]) (rm := [.own]) (pm := [.skip]) Try.func15 ?_
 intro Fn LW len cast toNat wrap add sub mul bin lt eq At set part app fz' rep nadd nmax ssize sext sget scat seq slt Wide Flat Ones Room r' post' hC hF hr hp
 cbv
 obtain ⟨o1, hl1, hq1⟩ := bind_some hh
 refine loop_go4 hC eok mixed (impl_EvsOk.l0 k p0)
  (fun s18 => (⟨[(0, tA (qGEv p0)), (5, tA (qGEv p0)), (6, iA (cast (len (qGEv p0)))), (7, iA s18)], []⟩ : St))
  (fun (_ : Unit) => (⟨[(0, tA (qGEv p0))], []⟩ : St)) .ok (.exit 0)
  (i0 := _) hl1 (fun _ => rfl) ?_ ?_ ?_
 ·
  rintro t0 e
  refine cov_of [] ?_
  cbv
  all_goals exact J1
 ·
  rintro _ hx
  subst o1
  have hh := hq1
  cbv
  exact Eb
 ·
  rintro n s18 N1 D1 hh hN1 hD1 hQ1
  unfold impl_EvsOk.l0 at hh
  cbv
  refine bcs (fun f37 => ?_) (fun f37 => ?_)
  ·
   replace hh := ifT hh f37
   try rw [f37]
   cbv
   obtain ⟨h38, hh⟩ := req_some hh
   obtain ⟨⟨e39a, e39b, e39c⟩, h40, hh⟩ := bind_some hh
   try dsimp only at hh
   refine ⟨[iA e39a, iA e39b, iA e39c], Nb h38, Gb h40, ?_⟩
   cbv
   obtain ⟨x42, h41, hh⟩ := bind_some hh
   refine go_call hF (c_impl_EvOk hQ h41) ?_
   cbv
   rcases if_or hh with ⟨b44, hh⟩ | ⟨b44, hh⟩
   ·
    have f45 : x42 = true := Tb b44
    have g := f45; cbv at g; try rw [f45]
    try rw [g]
    cbv
    refine bcs (fun f47 => ?_) (fun f47 => ?_)
    ·
     replace hh := ifT hh f47
     try rw [f47]
     cbv
     obtain ⟨h48, hh⟩ := req_some hh
     obtain ⟨⟨e49a, e49b, e49c⟩, h50, hh⟩ := bind_some hh
     try dsimp only at hh
     refine ⟨[iA e49a, iA e49b, iA e49c], Nb h48, Gb h50, ?_⟩
     cbv
     rcases if_or hh with ⟨b51, hh⟩ | ⟨b51, hh⟩
     ·
      have f52 : (lt e49b e39b) = true := Tb b51
      have g := f52; cbv at g; try rw [f52]
      try rw [g]
      cbv
      refine hN1 _ _ hh fun t0 e => ?_
      refine cov_of [] ?_
      cbv
      all_goals exact J1
     ·
      have f52 : (lt e49b e39b) = false := Fb b51
      have g := f52; cbv at g; try rw [f52]
      try rw [g]
      cbv
      cases hh
      have hh : some _ = some _ := hq1
      refine hQ1 _ _ ?_
      cbv
      exact Eb
    ·
     replace hh := ifF hh f47
     try rw [f47]
     cbv
     refine hN1 _ _ hh fun t0 e => ?_
     refine cov_of [] ?_
     cbv
     all_goals exact J1
   ·
    have f45 : x42 = false := Fb b44
    have g := f45; cbv at g; try rw [f45]
    try rw [g]
    cbv
    cases hh
    have hh : some _ = some _ := hq1
    refine hQ1 _ _ ?_
    cbv
    exact Eb
  ·
   replace hh := ifF hh f37
   try rw [f37]
   cbv
   refine hD1 () _ hh fun _ e => ?_
   refine cov_of [] ?_
   cbv
   all_goals exact J0

theorem c_impl_now {p0 : List GEv} {r : Int} (hh : impl_now.f p0 = some r) : FunW P 17 [tA (qGEv p0)] [hA] (iA r) := by
 unfold impl_now.f at hh
 refine go (ts := [(2, none)]) (rm := [.own]) (pm := [.skip]) Try.func17 ?_
 intro Fn LW len cast toNat wrap add sub mul bin lt eq At set part app fz' rep nadd nmax ssize sext sget scat seq slt Wide Flat Ones Room r' post' hC hF hr hp
 cbv
 refine bcs (fun f2 => ?_) (fun f2 => ?_)
 ·
  replace hh := ifT hh f2
  try rw [f2]
  cbv
  exact Eb
 ·
  replace hh := ifF hh f2
  try rw [f2]
  cbv
  obtain ⟨h3, hh⟩ := req_some hh
  obtain ⟨⟨e4a, e4b, e4c⟩, h5, hh⟩ := bind_some hh
  try dsimp only at hh
  refine ⟨[iA e4a, iA e4b, iA e4c], Nb h3, Gb h5, ?_⟩
  cbv
  exact Eb

theorem c_impl_cloneEvs {p0 : List GEv} {r : List GEv} (hh : impl_cloneEvs.f p0 = some r) : FunW P 18 [tA (qGEv p0)] [hA] (oA 3 (qGEv r)) := by
 unfold impl_cloneEvs.f at hh
 refine go (ts := [(2, none)]) (rm := [.own]) (pm := [.skip]) Try.func18 ?_
 intro Fn LW len cast toNat wrap add sub mul bin lt eq At set part app fz' rep nadd nmax ssize sext sget scat seq slt Wide Flat Ones Room r' post' hC hF hr hp
 cbv
 obtain ⟨h1, hh⟩ := req_some hh
 refine ⟨⟨Ab, Ab⟩, ?_⟩
 refine ⟨Wb h1, ?_⟩
 exact Eb

theorem c_impl_TurnLate {k : Nat} {p0 : List GEv} {p1 : Int} {r : List GEv} (hh : impl_TurnLate.f k p0 p1 = some r) : FunW P 5 [tA (qGEv p0), iA p1] [hA, hA] (oA 3 (qGEv r)) := by
 unfold impl_TurnLate.f at hh
 refine go (ts := [(4, none)]) (rm := [.own]) (pm := [.skip, .skip]) Try.func5 ?_
 intro Fn LW len cast toNat wrap add sub mul bin lt eq At set part app fz' rep nadd nmax ssize sext sget scat seq slt Wide Flat Ones Room r' post' hC hF hr hp
 cbv
 obtain ⟨x2, h1, hh⟩ := bind_some hh
 refine go_call hF (c_impl_EvsOk hQ h1) ?_
 cbv
 rcases if_or hh with ⟨b4, hh⟩ | ⟨b4, hh⟩
 ·
  have f5 : x2 = true := Tb b4
  have g := f5; cbv at g; try rw [f5]
  try rw [g]
  cbv
  obtain ⟨x7, h6, hh⟩ := bind_some hh
  refine go_call hF (c_impl_in hQ h6) ?_
  cbv
  rcases if_or hh with ⟨b9, hh⟩ | ⟨b9, hh⟩
  ·
   have f10 : x7 = true := Tb b9
   have g := f10; cbv at g; try rw [f10]
   try rw [g]
   cbv
   obtain ⟨x12, h11, hh⟩ := bind_some hh
   refine go_call hF (c_impl_now hQ h11) ?_
   cbv
   refine bcs (fun f15 => ?_) (fun f15 => ?_)
   ·
    replace hh := ifT hh f15
    try rw [f15]
    cbv
    refine ⟨3, ?_⟩
    cbv
    exact Eb
   ·
    replace hh := ifF hh f15
    try rw [f15]
    cbv
    obtain ⟨x17, h16, hh⟩ := bind_some hh
    refine go_call hF (c_impl_cloneEvs hQ h16) ?_
    cbv
    obtain ⟨o1, hl1, hq1⟩ := bind_some hh
    refine loop_go4 hC eok mixed (fun n (i : (List GEv) × Int) => impl_TurnLate.l0 k p1 x17 n i.1 i.2)
     (fun ⟨s27, s28⟩ => (⟨[(1, iA p1), (5, .ref (23, 0) 1 0 (len (qGEv s27))), (25, iA (cast (len (qGEv x17)))), (26, iA s28)], [((23, 0), .arr 1 3 (qGEv s27))]⟩ : St))
     (fun (x37 : List GEv) => (⟨[(5, .ref (23, 0) 1 0 (len (qGEv x37)))], [((23, 0), .arr 1 3 (qGEv x37))]⟩ : St)) (fun x => x) (.exit 0)
     (i0 := (_, _)) hl1 (fun _ => rfl) ?_ ?_ ?_
    ·
     rintro ⟨t0, t1⟩ e
     refine cov_of [((23, 0), (23, 0))] ?_
     cbv
     all_goals exact J2
    ·
     rintro x37 hx
     subst o1
     have hh := hq1
     cbv
     exact Eb
    ·
     rintro n ⟨s27, s28⟩ N1 D1 hh hN1 hD1 hQ1
     dsimp only at hh
     unfold impl_TurnLate.l0 at hh
     cbv
     refine bcs (fun f39 => ?_) (fun f39 => ?_)
     ·
      replace hh := ifT hh f39
      try rw [f39]
      cbv
      obtain ⟨h40, hh⟩ := req_some hh
      obtain ⟨h41, hh⟩ := req_some hh
      refine ⟨Nb h40, Mb h41, ?_⟩
      obtain ⟨⟨e42a, e42b, e42c⟩, h43, hh⟩ := bind_some hh
      try dsimp only at hh
      refine ⟨[iA e42a, iA e42b, iA e42c], Gb h43, ?_⟩
      cbv
      obtain ⟨h44, hh⟩ := req_some hh
      obtain ⟨h45, hh⟩ := req_some hh
      refine ⟨Nb h44, Mb h45, ?_⟩
      refine ⟨[iA e42a, iA e42b, iA e42c], Gb h43, ?_⟩
      cbv
      refine hN1 (_, _) _ hh fun ⟨t0, t1⟩ e => ?_
      refine cov_of [((23, 0), (23, 0))] ?_
      cbv
      all_goals exact J2
     ·
      replace hh := ifF hh f39
      try rw [f39]
      cbv
      refine hD1 _ _ hh fun t0 e => ?_
      refine cov_of [((23, 0), (23, 0))] ?_
      cbv
      all_goals exact J1
  ·
   have f10 : x7 = false := Fb b9
   have g := f10; cbv at g; try rw [f10]
   try rw [g]
   cbv
   refine ⟨3, ?_⟩
   cbv
   exact Eb
 ·
  have f5 : x2 = false := Fb b4
  have g := f5; cbv at g; try rw [f5]
  try rw [g]
  cbv
  refine ⟨3, ?_⟩
  cbv
  exact Eb
theorem c_impl_TurnLate_L0 {k : Nat} {p0 : List GEv} {p1 : Int} {r : List GEv} (hh : impl_TurnLate.f k p0 p1 = some r) : FunW P 5 [oA 3 (qGEv p0), iA p1] [oA 3 (qGEv p0), hA] (oA 3 (qGEv r)) := by
  cases hQ; exact (c_impl_TurnLate .mk hh).lend (r_GEv_ownd _) (.lend (congrArg A.tree (r_GEv_fz _).symm) (.same rfl .nil))

theorem c_spec_l3Any {k : Nat} {p0 : Gl14Rd} {r : GOcc × Gl14Rd} (hh : spec_l3Any.f k p0 = some r) : FunW P 45 [.obox [tA (qIu8 p0.b), iA p0.p]] [.obox [tA (qIu8 r.2.b), iA r.2.p]] (.agg [iA r.1.From, iA r.1.To, oA 1 (qInt r.1.Ids)]) := by
 obtain ⟨p0a, p0b⟩ := p0
 unfold spec_l3Any.f at hh
 refine go (ts := [(2, some 37)]) (rm := [.own]) (pm := [.own]) Try.func45 ?_
 intro Fn LW len cast toNat wrap add sub mul bin lt eq At set part app fz' rep nadd nmax ssize sext sget scat seq slt Wide Flat Ones Room r' post' hC hF hr hp
 cbv
 obtain ⟨⟨x2_0, ⟨x2_1a, x2_1b⟩⟩, h1, hh⟩ := bind_some hh
 try dsimp only at hh
 have fc := c_spec_l14Rd_pick hQ h1
 try dsimp only at fc
 refine go_call hF fc ?_
 cbv
 obtain ⟨⟨x5_0, ⟨x5_1a, x5_1b⟩⟩, h4, hh⟩ := bind_some hh
 try dsimp only at hh
 refine ⟨Ob, ?_⟩
 have fc := c_spec_l14Rd_num hQ h4
 try dsimp only at fc
 refine go_call hF fc ?_
 cbv
 obtain ⟨⟨x8_0, ⟨x8_1a, x8_1b⟩⟩, h7, hh⟩ := bind_some hh
 try dsimp only at hh
 have fc := c_spec_l14Rd_pick hQ h7
 try dsimp only at fc
 refine go_call hF fc ?_
 cbv
 obtain ⟨⟨x11_0, ⟨x11_1a, x11_1b⟩⟩, h10, hh⟩ := bind_some hh
 try dsimp only at hh
 have fc := c_spec_l14Rd_pick hQ h10
 try dsimp only at fc
 refine go_call hF fc ?_
 cbv
 obtain ⟨o1, hl1, hq1⟩ := bind_some hh
 refine loop_go4 hC eok mixed (fun n (i : (List Int) × Int × (List Int) × Int × Int) => spec_l3Any.l0 k n i.1 i.2.1 i.2.2.1 i.2.2.2.1 i.2.2.2.2)
  (fun ⟨s19, s20, s21, s22, s23⟩ => (⟨[(0, .mptr (0, 0) 1 0 0), (2, .mptr (2, 0) 1 0 0), (4, .mptr (4, 0) 1 0 0), (5, iA s22), (6, iA s23), (1000000, .mptr (0, 0) 1 0 0)], [((0, 0), .box 1 [tA (qIu8 s19), iA s20]), ((2, 0), .box 1 [iA 0, iA 0, .lit (.slice none 0 0)]), ((4, 0), .box 1 [iA (wrap .i64 (add 1 x2_0)), iA (wrap .i64 (add (wrap .i64 (add 1 x2_0)) x5_0)), .ref (4, 52) 1 0 (len (qInt s21))]), ((4, 52), .arr 1 1 (qInt s21))]⟩ : St))
  (fun (⟨x30, x31, x32⟩ : (List Int) × (List Int) × Int) => (⟨[(2, .mptr (2, 0) 1 0 0), (4, .mptr (4, 0) 1 0 0), (1000000, .mptr (0, 0) 1 0 0)], [((0, 0), .box 1 [tA (qIu8 x31), iA x32]), ((2, 0), .box 1 [iA 0, iA 0, .lit (.slice none 0 0)]), ((4, 0), .box 1 [iA (wrap .i64 (add 1 x2_0)), iA (wrap .i64 (add (wrap .i64 (add 1 x2_0)) x5_0)), .ref (4, 52) 1 0 (len (qInt x30))]), ((4, 52), .arr 1 1 (qInt x30))]⟩ : St)) (fun x => x) (.exit 0)
  (i0 := (_, _, _, _, _)) hl1 (fun _ => rfl) ?_ ?_ ?_
 ·
  rintro ⟨t0, t1, t2, t3, t4⟩ e
  refine cov_of [((0, 0), (0, 0)), ((2, 0), (2, 0)), ((4, 0), (4, 0))] ?_
  cbv
  all_goals exact J5
 ·
  rintro ⟨x30, x31, x32⟩ hx
  subst o1
  have hh := hq1
  cbv
  exact Eb
 ·
  rintro n ⟨s19, s20, s21, s22, s23⟩ N1 D1 hh hN1 hD1 hQ1
  dsimp only at hh
  unfold spec_l3Any.l0 at hh
  cbv
  refine bcs (fun f34 => ?_) (fun f34 => ?_)
  ·
   replace hh := ifT hh f34
   try rw [f34]
   cbv
   obtain ⟨h35, hh⟩ := req_some hh
   refine ⟨⟨Ob, Ab⟩, ?_⟩
   refine ⟨⟨Ob, Wb h35⟩, ?_⟩
   obtain ⟨⟨x37_0, ⟨x37_1a, x37_1b⟩⟩, h36, hh⟩ := bind_some hh
   try dsimp only at hh
   have fc := c_spec_l14Rd_pick hQ h36
   try dsimp only at fc
   refine go_call hF fc ?_
   cbv
   refine hN1 (_, _, _, _, _) _ hh fun ⟨t0, t1, t2, t3, t4⟩ e => ?_
   refine cov_of [((0, 0), (0, 0)), ((2, 0), (2, 0)), ((4, 0), (4, 0)), ((4, 52), (30, 0))] ?_
   cbv
   all_goals exact J5
  ·
   replace hh := ifF hh f34
   try rw [f34]
   cbv
   refine hD1 (_, _, _) _ hh fun ⟨t0, t1, t2⟩ e => ?_
   refine cov_of [((0, 0), (0, 0)), ((2, 0), (2, 0)), ((4, 0), (4, 0)), ((4, 52), (4, 52))] ?_
   cbv
   all_goals exact J3

theorem c_spec_l3Ids {k : Nat} {p0 : List Int} {p1 : List Int} {r : Int} (hh : spec_l3Ids.f k p0 p1 = some r) : FunW P 47 [tA (qInt p0), tA (qInt p1)] [hA, hA] (iA r) := by
 unfold spec_l3Ids.f at hh
 refine go (ts := [(4, none)]) (rm := [.own]) (pm := [.skip, .skip]) Try.func47 ?_
 intro Fn LW len cast toNat wrap add sub mul bin lt eq At set part app fz' rep nadd nmax ssize sext sget scat seq slt Wide Flat Ones Room r' post' hC hF hr hp
 cbv
 obtain ⟨o1, hl1, hq1⟩ := bind_some hh
 refine loop_go4 hC eok mixed (spec_l3Ids.l0 k p0 p1)
  (fun s21 => (⟨[(0, tA (qInt p0)), (1, tA (qInt p1)), (5, iA s21)], []⟩ : St))
  (fun (_ : Unit) => (⟨[(0, tA (qInt p0)), (1, tA (qInt p1))], []⟩ : St)) .ok (.exit 0)
  (i0 := _) hl1 (fun _ => rfl) ?_ ?_ ?_
 ·
  rintro t0 e
  refine cov_of [] ?_
  cbv
  all_goals exact J1
 ·
  rintro _ hx
  subst o1
  have hh := hq1
  cbv
  refine bcs (fun f63 => ?_) (fun f63 => ?_)
  ·
   replace hh := ifT hh f63
   try rw [f63]
   cbv
   exact Eb
  ·
   replace hh := ifF hh f63
   try rw [f63]
   cbv
   refine bcs (fun f65 => ?_) (fun f65 => ?_)
   ·
    replace hh := ifT hh f65
    try rw [f65]
    cbv
    exact Eb
   ·
    replace hh := ifF hh f65
    try rw [f65]
    cbv
    exact Eb
 ·
  rintro n s21 N1 D1 hh hN1 hD1 hQ1
  unfold spec_l3Ids.l0 at hh
  cbv
  refine bcs (fun f43 => ?_) (fun f43 => ?_)
  ·
   replace hh := ifT hh f43
   try rw [f43]
   cbv
   refine bcs (fun f45 => ?_) (fun f45 => ?_)
   ·
    replace hh := ifT hh f45
    try rw [f45]
    cbv
    obtain ⟨h46, hh⟩ := req_some hh
    obtain ⟨e47, h48, hh⟩ := bind_some hh
    refine ⟨[iA e47], Nb h46, Gb h48, ?_⟩
    cbv
    obtain ⟨h49, hh⟩ := req_some hh
    obtain ⟨e50, h51, hh⟩ := bind_some hh
    refine ⟨[iA e50], Nb h49, Gb h51, ?_⟩
    cbv
    refine bcs (fun f53 => ?_) (fun f53 => ?_)
    ·
     replace hh := ifT hh f53
     try rw [f53]
     cbv
     cases hh
     have hh : some _ = some _ := hq1
     refine hQ1 _ _ ?_
     cbv
     exact Eb
    ·
     replace hh := ifF hh f53
     try rw [f53]
     cbv
     obtain ⟨h54, hh⟩ := req_some hh
     obtain ⟨e55, h56, hh⟩ := bind_some hh
     refine ⟨[iA e55], Nb h54, Gb h56, ?_⟩
     cbv
     obtain ⟨h57, hh⟩ := req_some hh
     obtain ⟨e58, h59, hh⟩ := bind_some hh
     refine ⟨[iA e58], Nb h57, Gb h59, ?_⟩
     cbv
     refine bcs (fun f61 => ?_) (fun f61 => ?_)
     ·
      replace hh := ifT hh f61
      try rw [f61]
      cbv
      cases hh
      have hh : some _ = some _ := hq1
      refine hQ1 _ _ ?_
      cbv
      exact Eb
     ·
      replace hh := ifF hh f61
      try rw [f61]
      cbv
      refine hN1 _ _ hh fun t0 e => ?_
      refine cov_of [] ?_
      cbv
      all_goals exact J1
   ·
    replace hh := ifF hh f45
    try rw [f45]
    cbv
    refine hD1 () _ hh fun _ e => ?_
    refine cov_of [] ?_
    cbv
    all_goals exact J0
  ·
   replace hh := ifF hh f43
   try rw [f43]
   cbv
   refine hD1 () _ hh fun _ e => ?_
   refine cov_of [] ?_
   cbv
   all_goals exact J0

theorem c_spec_OccLess {k : Nat} {p0 : GOcc} {p1 : GOcc} {r : Bool} (hh : spec_OccLess.f k p0 p1 = some r) : FunW P 42 [.agg [iA p0.From, iA p0.To, tA (qInt p0.Ids)], .agg [iA p1.From, iA p1.To, tA (qInt p1.Ids)]] [hA, hA] (bA r) := by
 obtain ⟨p0a, p0b, p0c⟩ := p0
 obtain ⟨p1a, p1b, p1c⟩ := p1
 unfold spec_OccLess.f at hh
 refine go (ts := [(4, none)]) (rm := [.own]) (pm := [.skip, .skip]) Try.func42 ?_
 intro Fn LW len cast toNat wrap add sub mul bin lt eq At set part app fz' rep nadd nmax ssize sext sget scat seq slt Wide Flat Ones Room r' post' hC hF hr hp
 cbv
 rcases if_or hh with ⟨b1, hh⟩ | ⟨b1, hh⟩
 ·
  have f2 : (eq p0b p1b) = true := Tb b1
  have g := f2; cbv at g; try rw [f2]
  try rw [g]
  cbv
  rcases if_or hh with ⟨b3, hh⟩ | ⟨b3, hh⟩
  ·
   have f4 : (eq p0a p1a) = true := Tb b3
   have g := f4; cbv at g; try rw [f4]
   try rw [g]
   cbv
   obtain ⟨x6, h5, hh⟩ := bind_some hh
   refine go_call hF (c_spec_l3Ids hQ h5) ?_
   cbv
   exact Eb
  ·
   have f4 : (eq p0a p1a) = false := Fb b3
   have g := f4; cbv at g; try rw [f4]
   try rw [g]
   cbv
   exact Eb
 ·
  have f2 : (eq p0b p1b) = false := Fb b1
  have g := f2; cbv at g; try rw [f2]
  try rw [g]
  cbv
  exact Eb
theorem c_spec_OccLess_L0 {k : Nat} {p0 : GOcc} {p1 : GOcc} {r : Bool} (hh : spec_OccLess.f k p0 p1 = some r) : FunW P 42 [.agg [iA p0.From, iA p0.To, oA 1 (qInt p0.Ids)], .agg [iA p1.From, iA p1.To, tA (qInt p1.Ids)]] [.agg [iA p0.From, iA p0.To, oA 1 (qInt p0.Ids)], hA] (bA r) := by
  cases hQ; exact (c_spec_OccLess .mk hh).lend (rfl) (.lend (by simp) (.same rfl .nil))

theorem c_spec_l3Same {k : Nat} {p0 : GOcc} {p1 : GOcc} {r : Bool} (hh : spec_l3Same.f k p0 p1 = some r) : FunW P 48 [.agg [iA p0.From, iA p0.To, tA (qInt p0.Ids)], .agg [iA p1.From, iA p1.To, tA (qInt p1.Ids)]] [hA, hA] (bA r) := by
 obtain ⟨p0a, p0b, p0c⟩ := p0
 obtain ⟨p1a, p1b, p1c⟩ := p1
 unfold spec_l3Same.f at hh
 refine go (ts := [(4, none)]) (rm := [.own]) (pm := [.skip, .skip]) Try.func48 ?_
 intro Fn LW len cast toNat wrap add sub mul bin lt eq At set part app fz' rep nadd nmax ssize sext sget scat seq slt Wide Flat Ones Room r' post' hC hF hr hp
 cbv
 refine bcs (fun f2 => ?_) (fun f2 => ?_)
 ·
  replace hh := ifT hh f2
  try rw [f2]
  cbv
  refine bcs (fun f4 => ?_) (fun f4 => ?_)
  ·
   replace hh := ifT hh f4
   try rw [f4]
   cbv
   refine bcs (fun f6 => ?_) (fun f6 => ?_)
   ·
    replace hh := ifT hh f6
    try rw [f6]
    cbv
    obtain ⟨x8, h7, hh⟩ := bind_some hh
    refine go_call hF (c_spec_l3Ids hQ h7) ?_
    cbv
    exact Eb
   ·
    replace hh := ifF hh f6
    try rw [f6]
    cbv
    exact Eb
  ·
   replace hh := ifF hh f4
   try rw [f4]
   cbv
   exact Eb
 ·
  replace hh := ifF hh f2
  try rw [f2]
  cbv
  exact Eb
theorem c_spec_l3Same_L0 {k : Nat} {p0 : GOcc} {p1 : GOcc} {r : Bool} (hh : spec_l3Same.f k p0 p1 = some r) : FunW P 48 [.agg [iA p0.From, iA p0.To, oA 1 (qInt p0.Ids)], .agg [iA p1.From, iA p1.To, tA (qInt p1.Ids)]] [.agg [iA p0.From, iA p0.To, oA 1 (qInt p0.Ids)], hA] (bA r) := by
  cases hQ; exact (c_spec_l3Same .mk hh).lend (rfl) (.lend (by simp) (.same rfl .nil))

theorem c_spec_l3Copy {p0 : GOcc} {r : GOcc} (hh : spec_l3Copy.f p0 = some r) : FunW P 29 [.agg [iA p0.From, iA p0.To, tA (qInt p0.Ids)]] [hA] (.agg [iA r.From, iA r.To, oA 1 (qInt r.Ids)]) := by
 obtain ⟨p0a, p0b, p0c⟩ := p0
 unfold spec_l3Copy.f at hh
 refine go (ts := [(2, some 37)]) (rm := [.own]) (pm := [.skip]) Try.func29 ?_
 intro Fn LW len cast toNat wrap add sub mul bin lt eq At set part app fz' rep nadd nmax ssize sext sget scat seq slt Wide Flat Ones Room r' post' hC hF hr hp
 cbv
 obtain ⟨h1, hh⟩ := req_some hh
 try dsimp only at h1
 refine ⟨⟨Ab, Ab⟩, ?_⟩
 refine ⟨⟨Ob, Wb h1⟩, ?_⟩
 exact Eb

theorem c_spec_l3Put {k : Nat} {p0 : List GOcc} {p1 : GOcc} {r : List GOcc} (hh : spec_l3Put.f k p0 p1 = some r) : FunW P 44 [oA 3 (qGOcc p0), .agg [iA p1.From, iA p1.To, tA (qInt p1.Ids)]] [hA, hA] (oA 3 (qGOcc r)) := by
 obtain ⟨p1a, p1b, p1c⟩ := p1
 unfold spec_l3Put.f at hh
 refine go (ts := [(4, none)]) (rm := [.own]) (pm := [.skip, .skip]) Try.func44 ?_
 intro Fn LW len cast toNat wrap add sub mul bin lt eq At set part app fz' rep nadd nmax ssize sext sget scat seq slt Wide Flat Ones Room r' post' hC hF hr hp
 cbv
 obtain ⟨o1, hl1, hq1⟩ := bind_some hh
 refine loop_go4 hC eok mixed (spec_l3Put.l0 k p0 (⟨p1a, p1b, p1c⟩ : GOcc))
  (fun s12 => (⟨[(0, .ref (0, 0) 1 0 (len (qGOcc p0))), (3, .mptr (3, 0) 1 0 0), (5, iA s12), (1000000, .ref (0, 0) 1 0 (len (qGOcc p0)))], [((0, 0), .arr 1 3 (qGOcc p0)), ((3, 0), .box 1 [iA p1a, iA p1b, tA (qInt p1c)])]⟩ : St))
  (fun (x24 : Int) => (⟨[(0, .ref (0, 0) 1 0 (len (qGOcc p0))), (3, .mptr (3, 0) 1 0 0), (5, iA x24), (1000000, .ref (0, 0) 1 0 (len (qGOcc p0)))], [((0, 0), .arr 1 3 (qGOcc p0)), ((3, 0), .box 1 [iA p1a, iA p1b, tA (qInt p1c)])]⟩ : St)) (fun x => x) (.exit 0)
  (i0 := _) hl1 (fun _ => rfl) ?_ ?_ ?_
 ·
  rintro t0 e
  refine cov_of [((0, 0), (0, 0)), ((3, 0), (3, 0))] ?_
  cbv
  all_goals exact J1
 ·
  rintro x24 hx
  subst o1
  have hh := hq1
  cbv
  refine bcs (fun f37 => ?_) (fun f37 => ?_)
  ·
   replace hh := ifT hh f37
   try rw [f37]
   cbv
   obtain ⟨h38, hh⟩ := req_some hh
   obtain ⟨h39, hh⟩ := req_some hh
   refine ⟨Nb h38, Mb h39, ?_⟩
   obtain ⟨⟨e40a, e40b, e40c⟩, h41, hh⟩ := bind_some hh
   try dsimp only at hh
   refine ⟨[iA e40a, iA e40b, tA (qInt e40c)], Gb h41, ?_⟩
   cbv
   obtain ⟨x43, h42, hh⟩ := bind_some hh
   refine go_call hF (c_spec_l3Same hQ h42) ?_
   cbv
   refine bcs (fun f46 => ?_) (fun f46 => ?_)
   ·
    replace hh := ifT hh f46
    try rw [f46]
    cbv
    exact Eb
   ·
    replace hh := ifF hh f46
    try rw [f46]
    cbv
    obtain ⟨h47, hh⟩ := req_some hh
    obtain ⟨h48, hh⟩ := req_some hh
    obtain ⟨h49, hh⟩ := req_some hh
    refine ⟨⟨Nb h47, Nb h48, Nb h49⟩, ?_⟩
    obtain ⟨h50, hh⟩ := req_some hh
    refine ⟨⟨Ob, Ab, Ab⟩, ?_⟩
    refine ⟨⟨Ob, Wb h50⟩, ?_⟩
    obtain ⟨h51, hh⟩ := req_some hh
    obtain ⟨h52, hh⟩ := req_some hh
    obtain ⟨h53, hh⟩ := req_some hh
    refine ⟨⟨Nb h51, Nb h52, Nb h53⟩, ?_⟩
    obtain ⟨⟨x55a, x55b, x55c⟩, h54, hh⟩ := bind_some hh
    try dsimp only at hh
    have fc := FunW.frz (r' := .agg [iA x55a, iA x55b, tA (qInt x55c)]) (c_spec_l3Copy hQ h54) (by cases hQ; simp)
    try dsimp only at fc
    refine go_call hF fc ?_
    cbv
    obtain ⟨h57, hh⟩ := req_some hh
    rw [if_pos (show (nadd 0 (toNat 0)) = 0 ∧ True from ⟨by cases hC; rfl, trivial⟩)]
    cbv
    refine ⟨⟨Ob, Ab⟩, ?_⟩
    refine ⟨⟨Ob, Wb h57⟩, ?_⟩
    obtain ⟨h58, hh⟩ := req_some hh
    refine ⟨⟨Ob, Ab, Ab⟩, ?_⟩
    refine ⟨⟨Ob, Wb h58⟩, ?_⟩
    exact Eb
  ·
   replace hh := ifF hh f37
   try rw [f37]
   cbv
   obtain ⟨h59, hh⟩ := req_some hh
   obtain ⟨h60, hh⟩ := req_some hh
   obtain ⟨h61, hh⟩ := req_some hh
   refine ⟨⟨Nb h59, Nb h60, Nb h61⟩, ?_⟩
   obtain ⟨h62, hh⟩ := req_some hh
   refine ⟨⟨Ob, Ab, Ab⟩, ?_⟩
   refine ⟨⟨Ob, Wb h62⟩, ?_⟩
   obtain ⟨h63, hh⟩ := req_some hh
   obtain ⟨h64, hh⟩ := req_some hh
   obtain ⟨h65, hh⟩ := req_some hh
   refine ⟨⟨Nb h63, Nb h64, Nb h65⟩, ?_⟩
   obtain ⟨⟨x67a, x67b, x67c⟩, h66, hh⟩ := bind_some hh
   try dsimp only at hh
   have fc := FunW.frz (r' := .agg [iA x67a, iA x67b, tA (qInt x67c)]) (c_spec_l3Copy hQ h66) (by cases hQ; simp)
   try dsimp only at fc
   refine go_call hF fc ?_
   cbv
   obtain ⟨h69, hh⟩ := req_some hh
   rw [if_pos (show (nadd 0 (toNat 0)) = 0 ∧ True from ⟨by cases hC; rfl, trivial⟩)]
   cbv
   refine ⟨⟨Ob, Ab⟩, ?_⟩
   refine ⟨⟨Ob, Wb h69⟩, ?_⟩
   obtain ⟨h70, hh⟩ := req_some hh
   refine ⟨⟨Ob, Ab, Ab⟩, ?_⟩
   refine ⟨⟨Ob, Wb h70⟩, ?_⟩
   exact Eb
 ·
  rintro n s12 N1 D1 hh hN1 hD1 hQ1
  unfold spec_l3Put.l0 at hh
  cbv
  refine bcs (fun f26 => ?_) (fun f26 => ?_)
  ·
   replace hh := ifT hh f26
   try rw [f26]
   cbv
   obtain ⟨h27, hh⟩ := req_some hh
   obtain ⟨h28, hh⟩ := req_some hh
   refine ⟨Nb h27, Mb h28, ?_⟩
   obtain ⟨⟨e29a, e29b, e29c⟩, h30, hh⟩ := bind_some hh
   try dsimp only at hh
   refine ⟨[iA e29a, iA e29b, tA (qInt e29c)], Gb h30, ?_⟩
   cbv
   obtain ⟨x32, h31, hh⟩ := bind_some hh
   refine go_call hF (c_spec_OccLess hQ h31) ?_
   cbv
   refine bcs (fun f35 => ?_) (fun f35 => ?_)
   ·
    replace hh := ifT hh f35
    try rw [f35]
    cbv
    refine hN1 _ _ hh fun t0 e => ?_
    refine cov_of [((0, 0), (0, 0)), ((3, 0), (3, 0))] ?_
    cbv
    all_goals exact J1
   ·
    replace hh := ifF hh f35
    try rw [f35]
    cbv
    refine hD1 _ _ hh fun t0 e => ?_
    refine cov_of [((0, 0), (0, 0)), ((3, 0), (3, 0))] ?_
    cbv
    all_goals exact J1
  ·
   replace hh := ifF hh f26
   try rw [f26]
   cbv
   refine hD1 _ _ hh fun t0 e => ?_
   refine cov_of [((0, 0), (0, 0)), ((3, 0), (3, 0))] ?_
   cbv
   all_goals exact J1

theorem c_spec_l3Some {k : Nat} {p0 : Gl14Rd} {p1 : Int} {r : (List GOcc) × Gl14Rd} (hh : spec_l3Some.f k p0 p1 = some r) : FunW P 33 [.obox [tA (qIu8 p0.b), iA p0.p], iA p1] [.obox [tA (qIu8 r.2.b), iA r.2.p], hA] (oA 3 (qGOcc r.1)) := by
 obtain ⟨p0a, p0b⟩ := p0
 unfold spec_l3Some.f at hh
 refine go (ts := [(4, none)]) (rm := [.own]) (pm := [.own, .skip]) Try.func33 ?_
 intro Fn LW len cast toNat wrap add sub mul bin lt eq At set part app fz' rep nadd nmax ssize sext sget scat seq slt Wide Flat Ones Room r' post' hC hF hr hp
 cbv
 obtain ⟨⟨x2_0, ⟨x2_1a, x2_1b⟩⟩, h1, hh⟩ := bind_some hh
 try dsimp only at hh
 have fc := c_spec_l14Rd_pick hQ h1
 try dsimp only at fc
 refine go_call hF fc ?_
 cbv
 obtain ⟨o1, hl1, hq1⟩ := bind_some hh
 refine loop_go4 hC eok mixed (fun n (i : (List Int) × Int × (List GOcc) × Int) => spec_l3Some.l0 k n i.1 i.2.1 i.2.2.1 i.2.2.2)
  (fun ⟨s12, s13, s14, s15⟩ => (⟨[(0, .mptr (0, 0) 1 0 0), (5, .ref (7, 0) 1 0 (len (qGOcc s14))), (6, iA s15), (1000000, .mptr (0, 0) 1 0 0)], [((0, 0), .box 1 [tA (qIu8 s12), iA s13]), ((7, 0), .arr 1 3 (qGOcc s14))]⟩ : St))
  (fun (⟨x24, x25, x26⟩ : (List GOcc) × (List Int) × Int) => (⟨[(5, .ref (7, 0) 1 0 (len (qGOcc x24))), (1000000, .mptr (0, 0) 1 0 0)], [((0, 0), .box 1 [tA (qIu8 x25), iA x26]), ((7, 0), .arr 1 3 (qGOcc x24))]⟩ : St)) (fun x => x) (.exit 0)
  (i0 := (_, _, _, _)) hl1 (fun _ => rfl) ?_ ?_ ?_
 ·
  rintro ⟨t0, t1, t2, t3⟩ e
  refine cov_of [((0, 0), (0, 0)), ((7, 0), (7, 0))] ?_
  cbv
  all_goals exact J4
 ·
  rintro ⟨x24, x25, x26⟩ hx
  subst o1
  have hh := hq1
  cbv
  exact Eb
 ·
  rintro n ⟨s12, s13, s14, s15⟩ N1 D1 hh hN1 hD1 hQ1
  dsimp only at hh
  unfold spec_l3Some.l0 at hh
  cbv
  refine bcs (fun f28 => ?_) (fun f28 => ?_)
  ·
   replace hh := ifT hh f28
   try rw [f28]
   cbv
   obtain ⟨⟨⟨x30_0a, x30_0b, x30_0c⟩, ⟨x30_1a, x30_1b⟩⟩, h29, hh⟩ := bind_some hh
   try dsimp only at hh
   have fc := c_spec_l3Any hQ h29
   try dsimp only at fc
   refine go_call hF fc ?_
   cbv
   obtain ⟨x33, h32, hh⟩ := bind_some hh
   refine ⟨Ob, ?_⟩
   refine go_call hF (c_spec_l3Put hQ h32) ?_
   cbv
   refine hN1 (_, _, _, _) _ hh fun ⟨t0, t1, t2, t3⟩ e => ?_
   refine cov_of [((0, 0), (0, 0)), ((7, 0), (19, 0))] ?_
   cbv
   all_goals exact J4
  ·
   replace hh := ifF hh f28
   try rw [f28]
   cbv
   refine hD1 (_, _, _) _ hh fun ⟨t0, t1, t2⟩ e => ?_
   refine cov_of [((0, 0), (0, 0)), ((7, 0), (7, 0))] ?_
   cbv
   all_goals exact J3

theorem c_spec_r0Ids {p0 : Gl14Rd} {r : (List Int) × Gl14Rd} (hh : spec_r0Ids.f p0 = some r) : FunW P 34 [.obox [tA (qIu8 p0.b), iA p0.p]] [.obox [tA (qIu8 r.2.b), iA r.2.p]] (oA 1 (qInt r.1)) := by
 obtain ⟨p0a, p0b⟩ := p0
 unfold spec_r0Ids.f at hh
 refine go (ts := [(2, none)]) (rm := [.own]) (pm := [.own]) Try.func34 ?_
 intro Fn LW len cast toNat wrap add sub mul bin lt eq At set part app fz' rep nadd nmax ssize sext sget scat seq slt Wide Flat Ones Room r' post' hC hF hr hp
 cbv
 obtain ⟨⟨x2_0, ⟨x2_1a, x2_1b⟩⟩, h1, hh⟩ := bind_some hh
 try dsimp only at hh
 have fc := c_spec_l14Rd_pick hQ h1
 try dsimp only at fc
 refine go_call hF fc ?_
 cbv
 refine bcs (fun f5 => ?_) (fun f5 => ?_)
 ·
  replace hh := ifT hh f5
  try rw [f5]
  cbv
  exact Eb
 ·
  replace hh := ifF hh f5
  try rw [f5]
  cbv
  refine bcs (fun f7 => ?_) (fun f7 => ?_)
  ·
   replace hh := ifT hh f7
   try rw [f7]
   cbv
   exact Eb
  ·
   replace hh := ifF hh f7
   try rw [f7]
   cbv
   exact Eb

theorem c_spec_l3Bent {k : Nat} {p0 : Gl14Rd} {r : (List GOcc) × Gl14Rd} (hh : spec_l3Bent.f k p0 = some r) : FunW P 19 [.obox [tA (qIu8 p0.b), iA p0.p]] [.obox [tA (qIu8 r.2.b), iA r.2.p]] (oA 3 (qGOcc r.1)) := by
 obtain ⟨p0a, p0b⟩ := p0
 unfold spec_l3Bent.f at hh
 refine go (ts := [(2, none)]) (rm := [.own]) (pm := [.own]) Try.func19 ?_
 intro Fn LW len cast toNat wrap add sub mul bin lt eq At set part app fz' rep nadd nmax ssize sext sget scat seq slt Wide Flat Ones Room r' post' hC hF hr hp
 cbv
 obtain ⟨⟨x2_0, ⟨x2_1a, x2_1b⟩⟩, h1, hh⟩ := bind_some hh
 try dsimp only at hh
 have fc := c_spec_l3Some hQ h1
 try dsimp only at fc
 refine go_call hF fc ?_
 cbv
 refine bcs (fun f5 => ?_) (fun f5 => ?_)
 ·
  replace hh := ifT hh f5
  try rw [f5]
  cbv
  exact Eb
 ·
  replace hh := ifF hh f5
  try rw [f5]
  cbv
  obtain ⟨⟨x7_0, ⟨x7_1a, x7_1b⟩⟩, h6, hh⟩ := bind_some hh
  try dsimp only at hh
  have fc := c_spec_l14Rd_pick hQ h6
  try dsimp only at fc
  refine go_call hF fc ?_
  cbv
  obtain ⟨⟨x10_0, ⟨x10_1a, x10_1b⟩⟩, h9, hh⟩ := bind_some hh
  try dsimp only at hh
  have fc := c_spec_l14Rd_pick hQ h9
  try dsimp only at fc
  refine go_call hF fc ?_
  cbv
  refine bcs (fun f13 => ?_) (fun f13 => ?_)
  ·
   replace hh := ifT hh f13
   try rw [f13]
   cbv
   obtain ⟨h14, hh⟩ := req_some hh
   try dsimp only at h14
   obtain ⟨h15, hh⟩ := req_some hh
   try dsimp only at h15
   refine ⟨Nb h14, Mb h15, ?_⟩
   obtain ⟨⟨e16a, e16b, e16c⟩, h17, hh⟩ := bind_some hh
   try dsimp only at hh
   refine ⟨[iA e16a, iA e16b, tA (qInt e16c)], Gb h17, ?_⟩
   cbv
   obtain ⟨⟨x19_0, ⟨x19_1a, x19_1b⟩⟩, h18, hh⟩ := bind_some hh
   try dsimp only at hh
   refine ⟨Ob, ?_⟩
   have fc := c_spec_l14Rd_num hQ h18
   try dsimp only at fc
   refine go_call hF fc ?_
   cbv
   obtain ⟨h21, hh⟩ := req_some hh
   try dsimp only at h21
   obtain ⟨h22, hh⟩ := req_some hh
   try dsimp only at h22
   refine ⟨Nb h21, Mb h22, ?_⟩
   refine ⟨[iA e16a, iA e16b, tA (qInt e16c)], Gb h17, ?_⟩
   cbv
   exact Eb
  ·
   replace hh := ifF hh f13
   try rw [f13]
   cbv
   refine bcs (fun f24 => ?_) (fun f24 => ?_)
   ·
    replace hh := ifT hh f24
    try rw [f24]
    cbv
    obtain ⟨⟨x26_0, ⟨x26_1a, x26_1b⟩⟩, h25, hh⟩ := bind_some hh
    try dsimp only at hh
    have fc := FunW.frz (r' := tA (qInt x26_0)) (c_spec_r0Ids hQ h25) (by cases hQ; simp)
    try dsimp only at fc
    refine go_call hF fc ?_
    cbv
    obtain ⟨h28, hh⟩ := req_some hh
    try dsimp only at h28
    obtain ⟨h29, hh⟩ := req_some hh
    try dsimp only at h29
    refine ⟨Nb h28, Mb h29, ?_⟩
    obtain ⟨⟨e30a, e30b, e30c⟩, h31, hh⟩ := bind_some hh
    try dsimp only at hh
    refine ⟨[iA e30a, iA e30b, tA (qInt e30c)], Gb h31, ?_⟩
    cbv
    exact Eb
   ·
    replace hh := ifF hh f24
    try rw [f24]
    cbv
    refine bcs (fun f33 => ?_) (fun f33 => ?_)
    ·
     replace hh := ifT hh f33
     try rw [f33]
     cbv
     obtain ⟨h34, hh⟩ := req_some hh
     obtain ⟨h35, hh⟩ := req_some hh
     try dsimp only at h35
     refine ⟨Nb h34, Mb h35, ?_⟩
     obtain ⟨⟨e36a, e36b, e36c⟩, h37, hh⟩ := bind_some hh
     try dsimp only at hh
     refine ⟨[iA e36a, iA e36b, tA (qInt e36c)], Gb h37, ?_⟩
     cbv
     obtain ⟨h38, hh⟩ := req_some hh
     try dsimp only at h38
     refine ⟨⟨Ob, Ab⟩, ?_⟩
     refine ⟨⟨Ob, Wb h38⟩, ?_⟩
     exact Eb
    ·
     replace hh := ifF hh f33
     try rw [f33]
     cbv
     refine bcs (fun f40 => ?_) (fun f40 => ?_)
     ·
      replace hh := ifT hh f40
      try rw [f40]
      cbv
      obtain ⟨h41, hh⟩ := req_some hh
      try dsimp only at h41
      obtain ⟨h42, hh⟩ := req_some hh
      try dsimp only at h42
      refine ⟨Nb h41, Mb h42, ?_⟩
      obtain ⟨⟨e43a, e43b, e43c⟩, h44, hh⟩ := bind_some hh
      try dsimp only at hh
      refine ⟨[iA e43a, iA e43b, tA (qInt e43c)], Gb h44, ?_⟩
      cbv
      exact Eb
     ·
      replace hh := ifF hh f40
      try rw [f40]
      cbv
      exact Eb

theorem c_spec_DrawTurnOccs {k : Nat} {p0 : List Int} {r : (List GOcc) × Int} (hh : spec_DrawTurnOccs.f k p0 = some r) : FunW P 6 [tA (qIu8 p0)] [hA] (.tup [oA 3 (qGOcc r.1), iA r.2]) := by
 unfold spec_DrawTurnOccs.f at hh
 refine go (ts := [(2, none), (3, none)]) (rm := [.own, .own]) (pm := [.skip]) Try.func6 ?_
 intro Fn LW len cast toNat wrap add sub mul bin lt eq At set part app fz' rep nadd nmax ssize sext sget scat seq slt Wide Flat Ones Room r' post' hC hF hr hp
 cbv
 obtain ⟨⟨x2a, x2b⟩, h1, hh⟩ := bind_some hh
 try dsimp only at hh
 refine go_call hF (c_spec_l14Open hQ h1) ?_
 cbv
 obtain ⟨⟨x5_0, ⟨x5_1a, x5_1b⟩⟩, h4, hh⟩ := bind_some hh
 try dsimp only at hh
 have fc := c_spec_l3Bent hQ h4
 try dsimp only at fc
 refine go_call hF fc ?_
 cbv
 obtain ⟨⟨x8_0, ⟨x8_1a, x8_1b⟩⟩, h7, hh⟩ := bind_some hh
 try dsimp only at hh
 refine ⟨Ob, ?_⟩
 have fc := c_spec_l14Rd_num hQ h7
 try dsimp only at fc
 refine go_call hF fc ?_
 cbv
 exact Eb

theorem c_impl_OccOk {k : Nat} {p0 : GOcc} {r : Bool} (hh : impl_OccOk.f k p0 = some r) : FunW P 35 [.agg [iA p0.From, iA p0.To, tA (qInt p0.Ids)]] [hA] (bA r) := by
 obtain ⟨p0a, p0b, p0c⟩ := p0
 unfold impl_OccOk.f at hh
 refine go (ts := [(2, none)]) (rm := [.own]) (pm := [.skip]) Try.func35 ?_
 intro Fn LW len cast toNat wrap add sub mul bin lt eq At set part app fz' rep nadd nmax ssize sext sget scat seq slt Wide Flat Ones Room r' post' hC hF hr hp
 cbv
 obtain ⟨o1, hl1, hq1⟩ := bind_some hh
 refine loop_go4 hC eok mixed (fun n (i : Int × Int) => impl_OccOk.l0 k (⟨p0a, p0b, p0c⟩ : GOcc) n i.1 i.2)
  (fun ⟨s11, s12⟩ => (⟨[(1, .mptr (1, 0) 1 0 0), (3, iA s11), (7, tA (qInt p0c)), (8, iA (cast (len (qInt p0c)))), (9, iA s12)], [((1, 0), .box 1 [iA p0a, iA p0b, tA (qInt p0c)])]⟩ : St))
  (fun (_ : Unit) => (⟨[(1, .mptr (1, 0) 1 0 0)], [((1, 0), .box 1 [iA p0a, iA p0b, tA (qInt p0c)])]⟩ : St)) .ok (.exit 0)
  (i0 := (_, _)) hl1 (fun _ => rfl) ?_ ?_ ?_
 ·
  rintro ⟨t0, t1⟩ e
  refine cov_of [((1, 0), (1, 0))] ?_
  cbv
  all_goals exact J2
 ·
  rintro _ hx
  subst o1
  have hh := hq1
  cbv
  rcases if_or hh with ⟨b33, hh⟩ | ⟨b33, hh⟩
  ·
   have f34 : (lt p0a 1) = true := Tb b33
   have g := f34; cbv at g; try rw [f34]
   try rw [g]
   cbv
   exact Eb
  ·
   have f34 : (lt p0a 1) = false := Fb b33
   have g := f34; cbv at g; try rw [f34]
   try rw [g]
   cbv
   obtain ⟨x36, h35, hh⟩ := bind_some hh
   refine go_call hF (c_impl_in hQ h35) ?_
   cbv
   refine bcs (fun f39 => ?_) (fun f39 => ?_)
   ·
    replace hh := ifT hh f39
    try rw [f39]
    cbv
    exact Eb
   ·
    replace hh := ifF hh f39
    try rw [f39]
    cbv
    exact Eb
 ·
  rintro n ⟨s11, s12⟩ N1 D1 hh hN1 hD1 hQ1
  dsimp only at hh
  unfold impl_OccOk.l0 at hh
  cbv
  refine bcs (fun f24 => ?_) (fun f24 => ?_)
  ·
   replace hh := ifT hh f24
   try rw [f24]
   cbv
   obtain ⟨h25, hh⟩ := req_some hh
   obtain ⟨e26, h27, hh⟩ := bind_some hh
   refine ⟨[iA e26], Nb h25, Gb h27, ?_⟩
   cbv
   obtain ⟨x29, h28, hh⟩ := bind_some hh
   refine go_call hF (c_impl_in hQ h28) ?_
   cbv
   rcases if_or hh with ⟨b31, hh⟩ | ⟨b31, hh⟩
   ·
    have f32 : x29 = true := Tb b31
    have g := f32; cbv at g; try rw [f32]
    try rw [g]
    cbv
    refine hN1 (_, _) _ hh fun ⟨t0, t1⟩ e => ?_
    refine cov_of [((1, 0), (1, 0))] ?_
    cbv
    all_goals exact J2
   ·
    have f32 : x29 = false := Fb b31
    have g := f32; cbv at g; try rw [f32]
    try rw [g]
    cbv
    cases hh
    have hh : some _ = some _ := hq1
    refine hQ1 _ _ ?_
    cbv
    exact Eb
  ·
   replace hh := ifF hh f24
   try rw [f24]
   cbv
   refine hD1 () _ hh fun _ e => ?_
   refine cov_of [((1, 0), (1, 0))] ?_
   cbv
   all_goals exact J0

theorem c_cmp_isNaN {p0 : Int} {r : Bool} (hh : cmp_isNaN.f p0 = some r) : FunW P 49 [iA p0] [hA] (bA r) := by
 unfold cmp_isNaN.f at hh
 refine go (ts := [(2, none)]) (rm := [.own]) (pm := [.skip]) Try.func49 ?_
 intro Fn LW len cast toNat wrap add sub mul bin lt eq At set part app fz' rep nadd nmax ssize sext sget scat seq slt Wide Flat Ones Room r' post' hC hF hr hp
 cbv
 exact Eb

theorem c_cmp_Compare {p0 : Int} {p1 : Int} {r : Int} (hh : cmp_Compare.f p0 p1 = some r) : FunW P 46 [iA p0, iA p1] [hA, hA] (iA r) := by
 unfold cmp_Compare.f at hh
 refine go (ts := [(4, none)]) (rm := [.own]) (pm := [.skip, .skip]) Try.func46 ?_
 intro Fn LW len cast toNat wrap add sub mul bin lt eq At set part app fz' rep nadd nmax ssize sext sget scat seq slt Wide Flat Ones Room r' post' hC hF hr hp
 cbv
 obtain ⟨x2, h1, hh⟩ := bind_some hh
 refine go_call hF (c_cmp_isNaN hQ h1) ?_
 cbv
 obtain ⟨x5, h4, hh⟩ := bind_some hh
 refine go_call hF (c_cmp_isNaN hQ h4) ?_
 cbv
 refine bcs (fun f8 => ?_) (fun f8 => ?_)
 ·
  replace hh := ifT hh f8
  try rw [f8]
  cbv
  refine bcs (fun f10 => ?_) (fun f10 => ?_)
  ·
   replace hh := ifT hh f10
   try rw [f10]
   cbv
   exact Eb
  ·
   replace hh := ifF hh f10
   try rw [f10]
   cbv
   exact Eb
 ·
  replace hh := ifF hh f8
  try rw [f8]
  cbv
  refine bcs (fun f12 => ?_) (fun f12 => ?_)
  ·
   replace hh := ifT hh f12
   try rw [f12]
   cbv
   exact Eb
  ·
   replace hh := ifF hh f12
   try rw [f12]
   cbv
   refine bcs (fun f14 => ?_) (fun f14 => ?_)
   ·
    replace hh := ifT hh f14
    try rw [f14]
    cbv
    exact Eb
   ·
    replace hh := ifF hh f14
    try rw [f14]
    cbv
    refine bcs (fun f16 => ?_) (fun f16 => ?_)
    ·
     replace hh := ifT hh f16
     try rw [f16]
     cbv
     exact Eb
    ·
     replace hh := ifF hh f16
     try rw [f16]
     cbv
     exact Eb

theorem c_slices_Compare {k : Nat} {p0 : List Int} {p1 : List Int} {r : Int} (hh : slices_Compare.f k p0 p1 = some r) : FunW P 40 [tA (qInt p0), tA (qInt p1)] [hA, hA] (iA r) := by
 unfold slices_Compare.f at hh
 refine go (ts := [(4, none)]) (rm := [.own]) (pm := [.skip, .skip]) Try.func40 ?_
 intro Fn LW len cast toNat wrap add sub mul bin lt eq At set part app fz' rep nadd nmax ssize sext sget scat seq slt Wide Flat Ones Room r' post' hC hF hr hp
 cbv
 obtain ⟨o1, hl1, hq1⟩ := bind_some hh
 refine loop_go4 hC eok mixed (slices_Compare.l0 k p0 p1)
  (fun s16 => (⟨[(0, tA (qInt p0)), (1, tA (qInt p1)), (9, tA (qInt p0)), (10, iA (cast (len (qInt p0)))), (11, iA s16)], []⟩ : St))
  (fun (_ : Unit) => (⟨[(0, tA (qInt p0)), (1, tA (qInt p1))], []⟩ : St)) .ok (.exit 0)
  (i0 := _) hl1 (fun _ => rfl) ?_ ?_ ?_
 ·
  rintro t0 e
  refine cov_of [] ?_
  cbv
  all_goals exact J1
 ·
  rintro _ hx
  subst o1
  have hh := hq1
  cbv
  refine bcs (fun f48 => ?_) (fun f48 => ?_)
  ·
   replace hh := ifT hh f48
   try rw [f48]
   cbv
   exact Eb
  ·
   replace hh := ifF hh f48
   try rw [f48]
   cbv
   exact Eb
 ·
  rintro n s16 N1 D1 hh hN1 hD1 hQ1
  unfold slices_Compare.l0 at hh
  cbv
  refine bcs (fun f33 => ?_) (fun f33 => ?_)
  ·
   replace hh := ifT hh f33
   try rw [f33]
   cbv
   obtain ⟨h34, hh⟩ := req_some hh
   obtain ⟨e35, h36, hh⟩ := bind_some hh
   refine ⟨[iA e35], Nb h34, Gb h36, ?_⟩
   cbv
   rcases if_or hh with ⟨b37, hh⟩ | ⟨b37, hh⟩
   ·
    have f38 : (lt s16 (cast (len (qInt p1)))) = true := Tb b37
    have g := f38; cbv at g; try rw [f38]
    try rw [g]
    cbv
    obtain ⟨h39, hh⟩ := req_some hh
    obtain ⟨e40, h41, hh⟩ := bind_some hh
    refine ⟨[iA e40], Nb h39, Gb h41, ?_⟩
    cbv
    obtain ⟨x43, h42, hh⟩ := bind_some hh
    refine go_call hF (c_cmp_Compare hQ h42) ?_
    cbv
    rcases if_or hh with ⟨b45, hh⟩ | ⟨b45, hh⟩
    ·
     have f46 : (eq x43 0) = true := Tb b45
     have g := f46; cbv at g; try rw [f46]
     try rw [g]
     cbv
     refine hN1 _ _ hh fun t0 e => ?_
     refine cov_of [] ?_
     cbv
     all_goals exact J1
    ·
     have f46 : (eq x43 0) = false := Fb b45
     have g := f46; cbv at g; try rw [f46]
     try rw [g]
     cbv
     cases hh
     have hh : some _ = some _ := hq1
     refine hQ1 _ _ ?_
     cbv
     exact Eb
   ·
    have f38 : (lt s16 (cast (len (qInt p1)))) = false := Fb b37
    have g := f38; cbv at g; try rw [f38]
    try rw [g]
    cbv
    cases hh
    have hh : some _ = some _ := hq1
    refine hQ1 _ _ ?_
    cbv
    exact Eb
  ·
   replace hh := ifF hh f33
   try rw [f33]
   cbv
   refine hD1 () _ hh fun _ e => ?_
   refine cov_of [] ?_
   cbv
   all_goals exact J0

theorem c_impl_sign {p0 : Bool} {r : Int} (hh : impl_sign.f p0 = some r) : FunW P 39 [bA p0] [hA] (iA r) := by
 unfold impl_sign.f at hh
 refine go (ts := [(2, none)]) (rm := [.own]) (pm := [.skip]) Try.func39 ?_
 intro Fn LW len cast toNat wrap add sub mul bin lt eq At set part app fz' rep nadd nmax ssize sext sget scat seq slt Wide Flat Ones Room r' post' hC hF hr hp
 cbv
 refine bcs (fun f2 => ?_) (fun f2 => ?_)
 ·
  replace hh := ifT hh f2
  try rw [f2]
  cbv
  exact Eb
 ·
  replace hh := ifF hh f2
  try rw [f2]
  cbv
  exact Eb

theorem c_impl_compare {k : Nat} {p0 : GOcc} {p1 : GOcc} {r : Int} (hh : impl_compare.f k p0 p1 = some r) : FunW P 27 [.agg [iA p0.From, iA p0.To, tA (qInt p0.Ids)], .agg [iA p1.From, iA p1.To, tA (qInt p1.Ids)]] [hA, hA] (iA r) := by
 obtain ⟨p0a, p0b, p0c⟩ := p0
 obtain ⟨p1a, p1b, p1c⟩ := p1
 unfold impl_compare.f at hh
 refine go (ts := [(4, none)]) (rm := [.own]) (pm := [.skip, .skip]) Try.func27 ?_
 intro Fn LW len cast toNat wrap add sub mul bin lt eq At set part app fz' rep nadd nmax ssize sext sget scat seq slt Wide Flat Ones Room r' post' hC hF hr hp
 cbv
 rcases if_or hh with ⟨b1, hh⟩ | ⟨b1, hh⟩
 ·
  have f2 : (eq p0b p1b) = true := Tb b1
  have g := f2; cbv at g; try rw [f2]
  try rw [g]
  cbv
  rcases if_or hh with ⟨b3, hh⟩ | ⟨b3, hh⟩
  ·
   have f4 : (eq p0a p1a) = true := Tb b3
   have g := f4; cbv at g; try rw [f4]
   try rw [g]
   cbv
   obtain ⟨x6, h5, hh⟩ := bind_some hh
   refine go_call hF (c_slices_Compare hQ h5) ?_
   cbv
   exact Eb
  ·
   have f4 : (eq p0a p1a) = false := Fb b3
   have g := f4; cbv at g; try rw [f4]
   try rw [g]
   cbv
   obtain ⟨x9, h8, hh⟩ := bind_some hh
   refine go_call hF (c_impl_sign hQ h8) ?_
   cbv
   exact Eb
 ·
  have f2 : (eq p0b p1b) = false := Fb b1
  have g := f2; cbv at g; try rw [f2]
  try rw [g]
  cbv
  obtain ⟨x12, h11, hh⟩ := bind_some hh
  refine go_call hF (c_impl_sign hQ h11) ?_
  cbv
  exact Eb

theorem c_impl_OccLess {k : Nat} {p0 : GOcc} {p1 : GOcc} {r : Bool} (hh : impl_OccLess.f k p0 p1 = some r) : FunW P 36 [.agg [iA p0.From, iA p0.To, tA (qInt p0.Ids)], .agg [iA p1.From, iA p1.To, tA (qInt p1.Ids)]] [hA, hA] (bA r) := by
 obtain ⟨p0a, p0b, p0c⟩ := p0
 obtain ⟨p1a, p1b, p1c⟩ := p1
 unfold impl_OccLess.f at hh
 refine go (ts := [(4, none)]) (rm := [.own]) (pm := [.skip, .skip]) Try.func36 ?_
 intro Fn LW len cast toNat wrap add sub mul bin lt eq At set part app fz' rep nadd nmax ssize sext sget scat seq slt Wide Flat Ones Room r' post' hC hF hr hp
 cbv
 obtain ⟨x2, h1, hh⟩ := bind_some hh
 refine go_call hF (c_impl_compare hQ h1) ?_
 cbv
 exact Eb

theorem c_impl_OccsOk {k : Nat} {p0 : List GOcc} {r : Bool} (hh : impl_OccsOk.f k p0 = some r) : FunW P 20 [tA (qGOcc p0)] [hA] (bA r) := by
 unfold impl_OccsOk.f at hh
 refine go (ts := [(2, none)]) (rm := [.own]) (pm := [.skip]) Try.func20 ?_
 intro Fn LW len cast toNat wrap add sub mul bin lt eq At set part app fz' rep nadd nmax ssize sext sget scat seq slt Wide Flat Ones Room r' post' hC hF hr hp
 cbv
 obtain ⟨o1, hl1, hq1⟩ := bind_some hh
 refine loop_go4 hC eok mixed (impl_OccsOk.l0 k p0)
  (fun s21 => (⟨[(0, tA (qGOcc p0)), (5, tA (qGOcc p0)), (6, iA (cast (len (qGOcc p0)))), (7, iA s21)], []⟩ : St))
  (fun (_ : Unit) => (⟨[(0, tA (qGOcc p0))], []⟩ : St)) .ok (.exit 0)
  (i0 := _) hl1 (fun _ => rfl) ?_ ?_ ?_
 ·
  rintro t0 e
  refine cov_of [] ?_
  cbv
  all_goals exact J1
 ·
  rintro _ hx
  subst o1
  have hh := hq1
  cbv
  exact Eb
 ·
  rintro n s21 N1 D1 hh hN1 hD1 hQ1
  unfold impl_OccsOk.l0 at hh
  cbv
  refine bcs (fun f43 => ?_) (fun f43 => ?_)
  ·
   replace hh := ifT hh f43
   try rw [f43]
   cbv
   obtain ⟨h44, hh⟩ := req_some hh
   obtain ⟨⟨e45a, e45b, e45c⟩, h46, hh⟩ := bind_some hh
   try dsimp only at hh
   refine ⟨[iA e45a, iA e45b, tA (qInt e45c)], Nb h44, Gb h46, ?_⟩
   cbv
   obtain ⟨x48, h47, hh⟩ := bind_some hh
   refine go_call hF (c_impl_OccOk hQ h47) ?_
   cbv
   rcases if_or hh with ⟨b50, hh⟩ | ⟨b50, hh⟩
   ·
    have f51 : x48 = true := Tb b50
    have g := f51; cbv at g; try rw [f51]
    try rw [g]
    cbv
    refine bcs (fun f53 => ?_) (fun f53 => ?_)
    ·
     replace hh := ifT hh f53
     try rw [f53]
     cbv
     obtain ⟨h54, hh⟩ := req_some hh
     obtain ⟨⟨e55a, e55b, e55c⟩, h56, hh⟩ := bind_some hh
     try dsimp only at hh
     refine ⟨[iA e55a, iA e55b, tA (qInt e55c)], Nb h54, Gb h56, ?_⟩
     cbv
     obtain ⟨x58, h57, hh⟩ := bind_some hh
     refine go_call hF (c_impl_OccLess hQ h57) ?_
     cbv
     rcases if_or hh with ⟨b60, hh⟩ | ⟨b60, hh⟩
     ·
      have f61 : x58 = true := Tb b60
      have g := f61; cbv at g; try rw [f61]
      try rw [g]
      cbv
      refine hN1 _ _ hh fun t0 e => ?_
      refine cov_of [] ?_
      cbv
      all_goals exact J1
     ·
      have f61 : x58 = false := Fb b60
      have g := f61; cbv at g; try rw [f61]
      try rw [g]
      cbv
      cases hh
      have hh : some _ = some _ := hq1
      refine hQ1 _ _ ?_
      cbv
      exact Eb
    ·
     replace hh := ifF hh f53
     try rw [f53]
     cbv
     refine hN1 _ _ hh fun t0 e => ?_
     refine cov_of [] ?_
     cbv
     all_goals exact J1
   ·
    have f51 : x48 = false := Fb b50
    have g := f51; cbv at g; try rw [f51]
    try rw [g]
    cbv
    cases hh
    have hh : some _ = some _ := hq1
    refine hQ1 _ _ ?_
    cbv
    exact Eb
  ·
   replace hh := ifF hh f43
   try rw [f43]
   cbv
   refine hD1 () _ hh fun _ e => ?_
   refine cov_of [] ?_
   cbv
   all_goals exact J0

theorem c_impl_Occ_clone {p0 : GOcc} {r : GOcc} (hh : impl_Occ_clone.f p0 = some r) : FunW P 37 [.agg [iA p0.From, iA p0.To, tA (qInt p0.Ids)]] [hA] (.agg [iA r.From, iA r.To, oA 1 (qInt r.Ids)]) := by
 obtain ⟨p0a, p0b, p0c⟩ := p0
 unfold impl_Occ_clone.f at hh
 refine go (ts := [(2, some 37)]) (rm := [.own]) (pm := [.skip]) Try.func37 ?_
 intro Fn LW len cast toNat wrap add sub mul bin lt eq At set part app fz' rep nadd nmax ssize sext sget scat seq slt Wide Flat Ones Room r' post' hC hF hr hp
 cbv
 obtain ⟨h1, hh⟩ := req_some hh
 try dsimp only at h1
 refine ⟨⟨Ab, Ab⟩, ?_⟩
 refine ⟨Wb h1, ?_⟩
 exact Eb

theorem c_impl_cloneOccs {k : Nat} {p0 : List GOcc} {r : List GOcc} (hh : impl_cloneOccs.f k p0 = some r) : FunW P 21 [tA (qGOcc p0)] [hA] (oA 3 (qGOccO r)) := by
 unfold impl_cloneOccs.f at hh
 refine go (ts := [(2, none)]) (rm := [.own]) (pm := [.skip]) Try.func21 ?_
 intro Fn LW len cast toNat wrap add sub mul bin lt eq At set part app fz' rep nadd nmax ssize sext sget scat seq slt Wide Flat Ones Room r' post' hC hF hr hp
 cbv
 obtain ⟨o1, hl1, hq1⟩ := bind_some hh
 refine loop_go4 hC eok mixed (fun n (i : (List GOcc) × Int) => impl_cloneOccs.l0 k p0 n i.1 i.2)
  (fun ⟨s10, s11⟩ => (⟨[(3, .ref (3, 50) 1 0 (len (qGOccO s10))), (6, tA (qGOcc p0)), (7, iA (cast (len (qGOcc p0)))), (8, iA s11)], [((3, 50), .arr 1 3 (qGOccO s10))]⟩ : St))
  (fun (x21 : List GOcc) => (⟨[(3, .ref (3, 50) 1 0 (len (qGOccO x21)))], [((3, 50), .arr 1 3 (qGOccO x21))]⟩ : St)) (fun x => x) (.exit 0)
  (i0 := (_, _)) hl1 (fun _ => rfl) ?_ ?_ ?_
 ·
  rintro ⟨t0, t1⟩ e
  refine cov_of [] ?_
  cbv
  all_goals exact J2
 ·
  rintro x21 hx
  subst o1
  have hh := hq1
  cbv
  exact Eb
 ·
  rintro n ⟨s10, s11⟩ N1 D1 hh hN1 hD1 hQ1
  dsimp only at hh
  unfold impl_cloneOccs.l0 at hh
  cbv
  refine bcs (fun f23 => ?_) (fun f23 => ?_)
  ·
   replace hh := ifT hh f23
   try rw [f23]
   cbv
   obtain ⟨h24, hh⟩ := req_some hh
   obtain ⟨⟨e25a, e25b, e25c⟩, h26, hh⟩ := bind_some hh
   try dsimp only at hh
   refine ⟨[iA e25a, iA e25b, tA (qInt e25c)], Nb h24, Gb h26, ?_⟩
   cbv
   obtain ⟨⟨x28a, x28b, x28c⟩, h27, hh⟩ := bind_some hh
   try dsimp only at hh
   have fc := c_impl_Occ_clone hQ h27
   try dsimp only at fc
   refine go_call hF fc ?_
   cbv
   obtain ⟨h30, hh⟩ := req_some hh
   refine ⟨⟨Ob, Ab⟩, ?_⟩
   refine ⟨⟨Ob, Wb h30⟩, ?_⟩
   refine hN1 (_, _) _ hh fun ⟨t0, t1⟩ e => ?_
   refine cov_of [((3, 50), (16, 0))] ?_
   cbv
   all_goals exact J2
  ·
   replace hh := ifF hh f23
   try rw [f23]
   cbv
   refine hD1 _ _ hh fun t0 e => ?_
   refine cov_of [((3, 50), (3, 50))] ?_
   cbv
   all_goals exact J1

theorem c_impl_TurnOccs {k : Nat} {p0 : List GOcc} {p1 : Int} {r : List GOcc} (hh : impl_TurnOccs.f k p0 p1 = some r) : FunW P 7 [tA (qGOcc p0), iA p1] [hA, hA] (oA 3 (qGOccO r)) := by
 unfold impl_TurnOccs.f at hh
 refine go (ts := [(4, none)]) (rm := [.own]) (pm := [.skip, .skip]) Try.func7 ?_
 intro Fn LW len cast toNat wrap add sub mul bin lt eq At set part app fz' rep nadd nmax ssize sext sget scat seq slt Wide Flat Ones Room r' post' hC hF hr hp
 cbv
 obtain ⟨x2, h1, hh⟩ := bind_some hh
 refine go_call hF (c_impl_OccsOk hQ h1) ?_
 cbv
 rcases if_or hh with ⟨b4, hh⟩ | ⟨b4, hh⟩
 ·
  have f5 : x2 = true := Tb b4
  have g := f5; cbv at g; try rw [f5]
  try rw [g]
  cbv
  obtain ⟨x7, h6, hh⟩ := bind_some hh
  refine go_call hF (c_impl_in hQ h6) ?_
  cbv
  rcases if_or hh with ⟨b9, hh⟩ | ⟨b9, hh⟩
  ·
   have f10 : x7 = true := Tb b9
   have g := f10; cbv at g; try rw [f10]
   try rw [g]
   cbv
   obtain ⟨x12, h11, hh⟩ := bind_some hh
   refine go_call hF (c_impl_cloneOccs hQ h11) ?_
   cbv
   obtain ⟨o1, hl1, hq1⟩ := bind_some hh
   refine loop_go4 hC eok mixed (fun n (i : (List GOcc) × Int) => impl_TurnOccs.l0 k p1 x12 n i.1 i.2)
    (fun ⟨s26, s27⟩ => (⟨[(1, iA p1), (5, .ref (16, 0) 1 0 (len (qGOccO s26))), (18, iA (cast (len (qGOccO x12)))), (19, iA s27)], [((16, 0), .arr 1 3 (qGOccO s26))]⟩ : St))
    (fun (x40 : List GOcc) => (⟨[(5, .ref (16, 0) 1 0 (len (qGOccO x40)))], [((16, 0), .arr 1 3 (qGOccO x40))]⟩ : St)) (fun x => x) (.exit 0)
    (i0 := (_, _)) hl1 (fun _ => rfl) ?_ ?_ ?_
   ·
    rintro ⟨t0, t1⟩ e
    refine cov_of [((16, 0), (16, 0))] ?_
    cbv
    all_goals exact J2
   ·
    rintro x40 hx
    subst o1
    have hh := hq1
    cbv
    exact Eb
   ·
    rintro n ⟨s26, s27⟩ N1 D1 hh hN1 hD1 hQ1
    dsimp only at hh
    unfold impl_TurnOccs.l0 at hh
    cbv
    refine bcs (fun f42 => ?_) (fun f42 => ?_)
    ·
     replace hh := ifT hh f42
     try rw [f42]
     cbv
     obtain ⟨h43, hh⟩ := req_some hh
     obtain ⟨h44, hh⟩ := req_some hh
     refine ⟨Nb h43, Mb h44, ?_⟩
     obtain ⟨⟨e45a, e45b, e45c⟩, h46, hh⟩ := bind_some hh
     try dsimp only at hh
     refine ⟨[iA e45a, iA e45b, oA 1 (qInt e45c)], Gb h46, ?_⟩
     cbv
     obtain ⟨h47, hh⟩ := req_some hh
     obtain ⟨h48, hh⟩ := req_some hh
     refine ⟨Nb h47, Mb h48, ?_⟩
     refine ⟨[iA e45a, iA e45b, oA 1 (qInt e45c)], Gb h46, ?_⟩
     cbv
     obtain ⟨h49, hh⟩ := req_some hh
     obtain ⟨h50, hh⟩ := req_some hh
     refine ⟨Nb h49, Mb h50, ?_⟩
     refine ⟨[iA (wrap .i64 (add e45a p1)), iA e45b, oA 1 (qInt e45c)], Gb2 h46 ((List.getElem?_eq_some_iff.1 h46).1), ?_⟩
     cbv
     obtain ⟨h51, hh⟩ := req_some hh
     obtain ⟨h52, hh⟩ := req_some hh
     refine ⟨Nb h51, Mb h52, ?_⟩
     refine ⟨[iA (wrap .i64 (add e45a p1)), iA e45b, oA 1 (qInt e45c)], Gb2 h46 ((List.getElem?_eq_some_iff.1 h46).1), ?_⟩
     cbv
     refine hN1 (_, _) _ hh fun ⟨t0, t1⟩ e => ?_
     refine cov_of [((16, 0), (16, 0))] ?_
     cbv
     all_goals exact J2
    ·
     replace hh := ifF hh f42
     try rw [f42]
     cbv
     refine hD1 _ _ hh fun t0 e => ?_
     refine cov_of [((16, 0), (16, 0))] ?_
     cbv
     all_goals exact J1
  ·
   have f10 : x7 = false := Fb b9
   have g := f10; cbv at g; try rw [f10]
   try rw [g]
   cbv
   refine ⟨3, ?_⟩
   cbv
   exact Eb
 ·
  have f5 : x2 = false := Fb b4
  have g := f5; cbv at g; try rw [f5]
  try rw [g]
  cbv
  refine ⟨3, ?_⟩
  cbv
  exact Eb
theorem c_impl_TurnOccs_L0S {k : Nat} {p0 : List GOcc} {p1 : Int} {r : List GOcc} (hh : impl_TurnOccs.f k p0 p1 = some r) : FunW P 7 [oA 3 (qGOcc p0), iA p1] [oA 3 (qGOcc p0), hA] (oA 3 (qGOccO r)) := by
  cases hQ; exact (c_impl_TurnOccs .mk hh).lend (r_GOccO_ownd _) (.lend (congrArg A.tree (r_GOcc_fz _).symm) (.same rfl .nil))

theorem c_spec_EvOk {p0 : GEv} {r : Bool} (hh : spec_EvOk.f p0 = some r) : FunW P 38 [.agg [iA p0.Sym, iA p0.At, iA p0.Val]] [hA] (bA r) := by
 obtain ⟨p0a, p0b, p0c⟩ := p0
 unfold spec_EvOk.f at hh
 refine go (ts := [(2, none)]) (rm := [.own]) (pm := [.skip]) Try.func38 ?_
 intro Fn LW len cast toNat wrap add sub mul bin lt eq At set part app fz' rep nadd nmax ssize sext sget scat seq slt Wide Flat Ones Room r' post' hC hF hr hp
 cbv
 rcases if_or hh with ⟨b1, hh⟩ | ⟨b1, hh⟩
 ·
  have f2 : (lt p0a 0) = true := Tb b1
  have g := f2; cbv at g; try rw [f2]
  try rw [g]
  cbv
  exact Eb
 ·
  have f2 : (lt p0a 0) = false := Fb b1
  have g := f2; cbv at g; try rw [f2]
  try rw [g]
  cbv
  refine bcs (fun f4 => ?_) (fun f4 => ?_)
  ·
   replace hh := ifT hh f4
   try rw [f4]
   cbv
   rcases if_or hh with ⟨b5, hh⟩ | ⟨b5, hh⟩
   ·
    have f6 : (lt p0b 1) = true := Tb b5
    have g := f6; cbv at g; try rw [f6]
    try rw [g]
    cbv
    exact Eb
   ·
    have f6 : (lt p0b 1) = false := Fb b5
    have g := f6; cbv at g; try rw [f6]
    try rw [g]
    cbv
    rcases if_or hh with ⟨b7, hh⟩ | ⟨b7, hh⟩
    ·
     have f8 : (lt 1000 p0b) = true := Tb b7
     have g := f8; cbv at g; try rw [f8]
     try rw [g]
     cbv
     exact Eb
    ·
     have f8 : (lt 1000 p0b) = false := Fb b7
     have g := f8; cbv at g; try rw [f8]
     try rw [g]
     cbv
     rcases if_or hh with ⟨b9, hh⟩ | ⟨b9, hh⟩
     ·
      have f10 : (lt p0c 0) = true := Tb b9
      have g := f10; cbv at g; try rw [f10]
      try rw [g]
      cbv
      exact Eb
     ·
      have f10 : (lt p0c 0) = false := Fb b9
      have g := f10; cbv at g; try rw [f10]
      try rw [g]
      cbv
      exact Eb
  ·
   replace hh := ifF hh f4
   try rw [f4]
   cbv
   exact Eb

theorem c_spec_EvsOk {k : Nat} {p0 : List GEv} {r : Bool} (hh : spec_EvsOk.f k p0 = some r) : FunW P 23 [tA (qGEv p0)] [hA] (bA r) := by
 unfold spec_EvsOk.f at hh
 refine go (ts := [(2, none)]) (rm := [.own]) (pm := [.skip]) Try.func23 ?_
 intro Fn LW len cast toNat wrap add sub mul bin lt eq At set part app fz' rep nadd nmax ssize sext sget scat seq slt Wide Flat Ones Room r' post' hC hF hr hp
 cbv
 refine bcs (fun f2 => ?_) (fun f2 => ?_)
 ·
  replace hh := ifT hh f2
  try rw [f2]
  cbv
  exact Eb
 ·
  replace hh := ifF hh f2
  try rw [f2]
  cbv
  obtain ⟨o1, hl1, hq1⟩ := bind_some hh
  refine loop_go4 hC eok mixed (spec_EvsOk.l0 k p0)
   (fun s23 => (⟨[(0, tA (qGEv p0)), (3, iA s23)], []⟩ : St))
   (fun (_ : Unit) => (⟨[], []⟩ : St)) .ok (.exit 0)
   (i0 := _) hl1 (fun _ => rfl) ?_ ?_ ?_
  ·
   rintro t0 e
   refine cov_of [] ?_
   cbv
   all_goals exact J1
  ·
   rintro _ hx
   subst o1
   have hh := hq1
   cbv
   exact Eb
  ·
   rintro n s23 N1 D1 hh hN1 hD1 hQ1
   unfold spec_EvsOk.l0 at hh
   cbv
   refine bcs (fun f45 => ?_) (fun f45 => ?_)
   ·
    replace hh := ifT hh f45
    try rw [f45]
    cbv
    obtain ⟨h46, hh⟩ := req_some hh
    obtain ⟨⟨e47a, e47b, e47c⟩, h48, hh⟩ := bind_some hh
    try dsimp only at hh
    refine ⟨[iA e47a, iA e47b, iA e47c], Nb h46, Gb h48, ?_⟩
    cbv
    obtain ⟨x50, h49, hh⟩ := bind_some hh
    refine go_call hF (c_spec_EvOk hQ h49) ?_
    cbv
    rcases if_or hh with ⟨b52, hh⟩ | ⟨b52, hh⟩
    ·
     have f53 : x50 = true := Tb b52
     have g := f53; cbv at g; try rw [f53]
     try rw [g]
     cbv
     refine bcs (fun f55 => ?_) (fun f55 => ?_)
     ·
      replace hh := ifT hh f55
      try rw [f55]
      cbv
      obtain ⟨h56, hh⟩ := req_some hh
      obtain ⟨⟨e57a, e57b, e57c⟩, h58, hh⟩ := bind_some hh
      try dsimp only at hh
      refine ⟨[iA e57a, iA e57b, iA e57c], Nb h56, Gb h58, ?_⟩
      cbv
      obtain ⟨h59, hh⟩ := req_some hh
      obtain ⟨⟨e60a, e60b, e60c⟩, h61, hh⟩ := bind_some hh
      try dsimp only at hh
      refine ⟨[iA e60a, iA e60b, iA e60c], Nb h59, Gb h61, ?_⟩
      cbv
      rcases if_or hh with ⟨b62, hh⟩ | ⟨b62, hh⟩
      ·
       have f63 : (lt e60b e57b) = true := Tb b62
       have g := f63; cbv at g; try rw [f63]
       try rw [g]
       cbv
       refine hN1 _ _ hh fun t0 e => ?_
       refine cov_of [] ?_
       cbv
       all_goals exact J1
      ·
       have f63 : (lt e60b e57b) = false := Fb b62
       have g := f63; cbv at g; try rw [f63]
       try rw [g]
       cbv
       cases hh
       have hh : some _ = some _ := hq1
       refine hQ1 _ _ ?_
       cbv
       exact Eb
     ·
      replace hh := ifF hh f55
      try rw [f55]
      cbv
      refine hN1 _ _ hh fun t0 e => ?_
      refine cov_of [] ?_
      cbv
      all_goals exact J1
    ·
     have f53 : x50 = false := Fb b52
     have g := f53; cbv at g; try rw [f53]
     try rw [g]
     cbv
     cases hh
     have hh : some _ = some _ := hq1
     refine hQ1 _ _ ?_
     cbv
     exact Eb
   ·
    replace hh := ifF hh f45
    try rw [f45]
    cbv
    refine hD1 () _ hh fun _ e => ?_
    refine cov_of [] ?_
    cbv
    all_goals exact J0

theorem c_spec_l6End {p0 : List GEv} {r : Int} (hh : spec_l6End.f p0 = some r) : FunW P 24 [tA (qGEv p0)] [hA] (iA r) := by
 unfold spec_l6End.f at hh
 refine go (ts := [(2, none)]) (rm := [.own]) (pm := [.skip]) Try.func24 ?_
 intro Fn LW len cast toNat wrap add sub mul bin lt eq At set part app fz' rep nadd nmax ssize sext sget scat seq slt Wide Flat Ones Room r' post' hC hF hr hp
 cbv
 refine bcs (fun f2 => ?_) (fun f2 => ?_)
 ·
  replace hh := ifT hh f2
  try rw [f2]
  cbv
  exact Eb
 ·
  replace hh := ifF hh f2
  try rw [f2]
  cbv
  obtain ⟨h3, hh⟩ := req_some hh
  obtain ⟨⟨e4a, e4b, e4c⟩, h5, hh⟩ := bind_some hh
  try dsimp only at hh
  refine ⟨[iA e4a, iA e4b, iA e4c], Nb h3, Gb h5, ?_⟩
  cbv
  exact Eb

theorem c_spec_TurnLate {k : Nat} {p0 : List GEv} {p1 : Int} {r : List GEv} (hh : spec_TurnLate.f k p0 p1 = some r) : FunW P 9 [tA (qGEv p0), iA p1] [hA, hA] (oA 3 (qGEv r)) := by
 unfold spec_TurnLate.f at hh
 refine go (ts := [(4, none)]) (rm := [.own]) (pm := [.skip, .skip]) Try.func9 ?_
 intro Fn LW len cast toNat wrap add sub mul bin lt eq At set part app fz' rep nadd nmax ssize sext sget scat seq slt Wide Flat Ones Room r' post' hC hF hr hp
 cbv
 obtain ⟨x2, h1, hh⟩ := bind_some hh
 refine go_call hF (c_spec_EvsOk hQ h1) ?_
 cbv
 rcases if_or hh with ⟨b4, hh⟩ | ⟨b4, hh⟩
 ·
  have f5 : x2 = true := Tb b4
  have g := f5; cbv at g; try rw [f5]
  try rw [g]
  cbv
  refine bcs (fun f7 => ?_) (fun f7 => ?_)
  ·
   replace hh := ifT hh f7
   try rw [f7]
   cbv
   exact Eb
  ·
   replace hh := ifF hh f7
   try rw [f7]
   cbv
   refine bcs (fun f9 => ?_) (fun f9 => ?_)
   ·
    replace hh := ifT hh f9
    try rw [f9]
    cbv
    exact Eb
   ·
    replace hh := ifF hh f9
    try rw [f9]
    cbv
    obtain ⟨x11, h10, hh⟩ := bind_some hh
    refine go_call hF (c_spec_l6End hQ h10) ?_
    cbv
    refine bcs (fun f14 => ?_) (fun f14 => ?_)
    ·
     replace hh := ifT hh f14
     try rw [f14]
     cbv
     exact Eb
    ·
     replace hh := ifF hh f14
     try rw [f14]
     cbv
     obtain ⟨o1, hl1, hq1⟩ := bind_some hh
     refine loop_go4 hC eok mixed (fun n (i : (List GEv) × Int) => spec_TurnLate.l0 k p0 p1 n i.1 i.2)
      (fun ⟨s21, s22⟩ => (⟨[(0, tA (qGEv p0)), (1, iA p1), (5, .ref (8, 0) 1 0 (len (qGEv s21))), (6, iA s22)], [((8, 0), .arr 1 3 (qGEv s21))]⟩ : St))
      (fun (x29 : List GEv) => (⟨[(5, .ref (8, 0) 1 0 (len (qGEv x29)))], [((8, 0), .arr 1 3 (qGEv x29))]⟩ : St)) (fun x => x) (.exit 0)
      (i0 := (_, _)) hl1 (fun _ => rfl) ?_ ?_ ?_
     ·
      rintro ⟨t0, t1⟩ e
      refine cov_of [((8, 0), (8, 0))] ?_
      cbv
      all_goals exact J2
     ·
      rintro x29 hx
      subst o1
      have hh := hq1
      cbv
      exact Eb
     ·
      rintro n ⟨s21, s22⟩ N1 D1 hh hN1 hD1 hQ1
      dsimp only at hh
      unfold spec_TurnLate.l0 at hh
      cbv
      refine bcs (fun f31 => ?_) (fun f31 => ?_)
      ·
       replace hh := ifT hh f31
       try rw [f31]
       cbv
       obtain ⟨h32, hh⟩ := req_some hh
       obtain ⟨⟨e33a, e33b, e33c⟩, h34, hh⟩ := bind_some hh
       try dsimp only at hh
       refine ⟨[iA e33a, iA e33b, iA e33c], Nb h32, Gb h34, ?_⟩
       cbv
       obtain ⟨h35, hh⟩ := req_some hh
       refine ⟨⟨Ob, Ab⟩, ?_⟩
       refine ⟨⟨Ob, Wb h35⟩, ?_⟩
       refine hN1 (_, _) _ hh fun ⟨t0, t1⟩ e => ?_
       refine cov_of [((8, 0), (46, 0))] ?_
       cbv
       all_goals exact J2
      ·
       replace hh := ifF hh f31
       try rw [f31]
       cbv
       refine hD1 _ _ hh fun t0 e => ?_
       refine cov_of [((8, 0), (8, 0))] ?_
       cbv
       all_goals exact J1
 ·
  have f5 : x2 = false := Fb b4
  have g := f5; cbv at g; try rw [f5]
  try rw [g]
  cbv
  exact Eb
theorem c_spec_TurnLate_L0 {k : Nat} {p0 : List GEv} {p1 : Int} {r : List GEv} (hh : spec_TurnLate.f k p0 p1 = some r) : FunW P 9 [oA 3 (qGEv p0), iA p1] [oA 3 (qGEv p0), hA] (oA 3 (qGEv r)) := by
  cases hQ; exact (c_spec_TurnLate .mk hh).lend (r_GEv_ownd _) (.lend (congrArg A.tree (r_GEv_fz _).symm) (.same rfl .nil))

theorem c_slices_Equal {k : Nat} {p0 : List GEv} {p1 : List GEv} {r : Bool} (hh : slices_Equal.f k p0 p1 = some r) : FunW P 22 [tA (qGEv p0), tA (qGEv p1)] [hA, hA] (bA r) := by
 unfold slices_Equal.f at hh
 refine go (ts := [(4, none)]) (rm := [.own]) (pm := [.skip, .skip]) Try.func22 ?_
 intro Fn LW len cast toNat wrap add sub mul bin lt eq At set part app fz' rep nadd nmax ssize sext sget scat seq slt Wide Flat Ones Room r' post' hC hF hr hp
 cbv
 rcases if_or hh with ⟨b1, hh⟩ | ⟨b1, hh⟩
 ·
  have f2 : (eq (cast (len (qGEv p0))) (cast (len (qGEv p1)))) = true := Tb b1
  have g := f2; cbv at g; try rw [f2]
  try rw [g]
  cbv
  obtain ⟨o1, hl1, hq1⟩ := bind_some hh
  refine loop_go4 hC eok mixed (slices_Equal.l0 k p0 p1)
   (fun s17 => (⟨[(0, tA (qGEv p0)), (1, tA (qGEv p1)), (12, iA (cast (len (qGEv p0)))), (13, iA s17)], []⟩ : St))
   (fun (_ : Unit) => (⟨[], []⟩ : St)) .ok (.exit 0)
   (i0 := _) hl1 (fun _ => rfl) ?_ ?_ ?_
  ·
   rintro t0 e
   refine cov_of [] ?_
   cbv
   all_goals exact J1
  ·
   rintro _ hx
   subst o1
   have hh := hq1
   cbv
   exact Eb
  ·
   rintro n s17 N1 D1 hh hN1 hD1 hQ1
   unfold slices_Equal.l0 at hh
   cbv
   refine bcs (fun f33 => ?_) (fun f33 => ?_)
   ·
    replace hh := ifT hh f33
    try rw [f33]
    cbv
    obtain ⟨h34, hh⟩ := req_some hh
    obtain ⟨⟨e35a, e35b, e35c⟩, h36, hh⟩ := bind_some hh
    try dsimp only at hh
    refine ⟨[iA e35a, iA e35b, iA e35c], Nb h34, Gb h36, ?_⟩
    cbv
    obtain ⟨h37, hh⟩ := req_some hh
    obtain ⟨⟨e38a, e38b, e38c⟩, h39, hh⟩ := bind_some hh
    try dsimp only at hh
    refine ⟨[iA e38a, iA e38b, iA e38c], Nb h37, Gb h39, ?_⟩
    cbv
    rcases if_or hh with ⟨b40, hh⟩ | ⟨b40, hh⟩
    ·
     have f41 : (eq e35a e38a) = true := Tb b40
     have g := f41; cbv at g; try rw [f41]
     try rw [g]
     cbv
     rcases if_or hh with ⟨b42, hh⟩ | ⟨b42, hh⟩
     ·
      have f43 : (eq e35b e38b) = true := Tb b42
      have g := f43; cbv at g; try rw [f43]
      try rw [g]
      cbv
      rcases if_or hh with ⟨b44, hh⟩ | ⟨b44, hh⟩
      ·
       have f45 : (eq e35c e38c) = true := Tb b44
       have g := f45; cbv at g; try rw [f45]
       try rw [g]
       cbv
       refine hN1 _ _ hh fun t0 e => ?_
       refine cov_of [] ?_
       cbv
       all_goals exact J1
      ·
       have f45 : (eq e35c e38c) = false := Fb b44
       have g := f45; cbv at g; try rw [f45]
       try rw [g]
       cbv
       cases hh
       have hh : some _ = some _ := hq1
       refine hQ1 _ _ ?_
       cbv
       exact Eb
     ·
      have f43 : (eq e35b e38b) = false := Fb b42
      have g := f43; cbv at g; try rw [f43]
      try rw [g]
      cbv
      cases hh
      have hh : some _ = some _ := hq1
      refine hQ1 _ _ ?_
      cbv
      exact Eb
    ·
     have f41 : (eq e35a e38a) = false := Fb b40
     have g := f41; cbv at g; try rw [f41]
     try rw [g]
     cbv
     cases hh
     have hh : some _ = some _ := hq1
     refine hQ1 _ _ ?_
     cbv
     exact Eb
   ·
    replace hh := ifF hh f33
    try rw [f33]
    cbv
    refine hD1 () _ hh fun _ e => ?_
    refine cov_of [] ?_
    cbv
    all_goals exact J0
 ·
  have f2 : (eq (cast (len (qGEv p0))) (cast (len (qGEv p1)))) = false := Fb b1
  have g := f2; cbv at g; try rw [f2]
  try rw [g]
  cbv
  exact Eb

end Go.Proofs.Ytggoffcbifibnaa
