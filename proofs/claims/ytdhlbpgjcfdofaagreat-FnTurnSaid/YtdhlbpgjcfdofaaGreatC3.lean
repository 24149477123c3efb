/- The functions of this program do what the plain ones do. -/
import Derived.Test.YtdhlbpgjcfdofaaGreatC2
namespace Go.Proofs.YtdhlbpgjcfdofaaGreat
open Go Go.Vm
set_option linter.unusedVariables false
set_option maxHeartbeats 4000000
variable {qGEx : List GEx → Vm.Rows} {qGEv : List GEv → Vm.Rows} {qInt : List Int → Vm.Rows} {qGOcc : List GOcc → Vm.Rows} {qGOccO : List GOcc → Vm.Rows} {qLGOcc : List (List GOcc) → Vm.Rows} {qLGOccO : List (List GOcc) → Vm.Rows} {qBool : List Bool → Vm.Rows} {qIu8 : List Int → Vm.Rows} {qGExO : List GEx → Vm.Rows} {qLInt : List (List Int) → Vm.Rows} (hQ : EQ qGEx qGEv qInt qGOcc qGOccO qLGOcc qLGOccO qBool qIu8 qGExO qLInt)
include hQ
theorem c_impl_NotOf {k : Nat} {p0 : Int} {p1 : List GOcc} {p2 : List GOcc} {p3 : List GOcc} {r : (List GOcc) × Bool} (hh : impl_NotOf.f k p0 p1 p2 p3 = some r) : FunW P 121 [iA p0, tA (qGOcc p1), tA (qGOcc p2), tA (qGOcc p3)] [hA, hA, hA, hA] (.tup [oA 3 (qGOccO r.1), bA r.2]) := by
 unfold impl_NotOf.f at hh
 refine go (ts := [(8, none), (9, none)]) (rm := [.own, .own]) (pm := [.skip, .skip, .skip, .skip]) Tryz.func121 ?_
 intro Fn LW len cast toNat wrap add sub mul bin lt eq At set part app fz' rep nadd nmax ssize sext sget scat seq slt Wide Flat Ones Room r' post' hC hF hr hp
 cbv
 replace hh := bind_some hh
 obtain ⟨⟨x2_0, x2_1⟩, h1, hh⟩ := hh
 try dsimp only at hh
 have fc := c_impl_spanOf_impl_Span_not hQ (g4 := fun y0 y1 y2 y3 y4 => impl_Span_not.f k y0 y1 y2 y3 y4) (fun h => c_impl_Span_not hQ h) h1
 try dsimp only at fc
 refine go_call hF fc ?_
 cbv
 exact Eb

theorem c_impl_Span_each {k : Nat} {p0 : GSpan} {p1 : Int} {p2 : List GOcc} {p3 : List GOcc} {p4 : List GOcc} {r : GSpan × (List GOcc)} (hh : impl_Span_each.f k p0 p1 p2 p3 p4 = some r) : FunW P 151 [.agg [tA (qGOcc p0.Left), tA (qGOcc p0.Mid)], iA p1, tA (qGOcc p2), tA (qGOcc p3), tA (qGOcc p4)] [hA, hA, hA, hA, hA] (.tup [.agg [tA (qGOcc r.1.Left), tA (qGOcc r.1.Mid)], tA (qGOcc r.2)]) := by
 obtain ⟨p0a, p0b⟩ := p0
 unfold impl_Span_each.f at hh
 refine go (ts := [(10, some 148), (11, none)]) (rm := [.val, .val]) (pm := [.skip, .skip, .skip, .skip, .skip]) Tryz.func151 ?_
 intro Fn LW len cast toNat wrap add sub mul bin lt eq At set part app fz' rep nadd nmax ssize sext sget scat seq slt Wide Flat Ones Room r' post' hC hF hr hp
 cbv
 replace hh := bind_some hh
 obtain ⟨o1, hl1, hq1⟩ := hh
 refine loop_go4 hC eok mixed (fun n (i : (List GOcc) × Int) => impl_Span_each.l0 k (⟨p0a, p0b⟩ : GSpan) p1 p3 n i.1 i.2)
  (fun ⟨s15, s16⟩ => (⟨[(1, iA p1), (2, tA (qGOcc p2)), (4, tA (qGOcc p4)), (5, .mptr (5, 0) 1 0 0), (10, .mptr (10, 0) 1 0 0), (12, tA (qGOcc s15)), (17, tA (qGOcc p3)), (18, iA (cast (len (qGOcc p3)))), (19, iA s16)], [((5, 0), .box 1 [tA (qGOcc p0a), tA (qGOcc p0b)]), ((10, 0), .box 1 [.lit (.slice none 0 0), .lit (.slice none 0 0)])]⟩ : St))
  (fun (x31 : List GOcc) => (⟨[(2, tA (qGOcc p2)), (4, tA (qGOcc p4)), (5, .mptr (5, 0) 1 0 0), (10, .mptr (10, 0) 1 0 0), (12, tA (qGOcc x31))], [((5, 0), .box 1 [tA (qGOcc p0a), tA (qGOcc p0b)]), ((10, 0), .box 1 [.lit (.slice none 0 0), .lit (.slice none 0 0)])]⟩ : St)) (fun x => x) (.exit 0)
  (i0 := (_, _)) hl1 (fun _ => rfl) ?_ ?_ ?_
 ·
  rintro ⟨t0, t1⟩ e
  refine cov_of [((5, 0), (5, 0)), ((10, 0), (10, 0))] ?_
  cbv
  all_goals exact J2
 ·
  rintro x31 hx
  subst o1
  have hh := hq1
  cbv
  replace hh := bind_some hh
  obtain ⟨x47, h46, hh⟩ := hh
  refine go_call hF (c_impl_putAll hQ h46) ?_
  cbv
  replace hh := bind_some hh
  obtain ⟨x50, h49, hh⟩ := hh
  refine go_call hF (c_impl_putAll hQ h49) ?_
  cbv
  exact Eb
 ·
  rintro n ⟨s15, s16⟩ N1 D1 hh hN1 hD1 hQ1
  dsimp only at hh
  unfold impl_Span_each.l0 at hh
  cbv
  refine bcs (fun f33 => ?_) (fun f33 => ?_)
  ·
   replace hh := ifT hh f33
   try rw [f33]
   cbv
   replace hh := req_some hh
   obtain ⟨h34, hh⟩ := hh
   replace hh := bind_some hh
   obtain ⟨⟨e35a, e35b, e35c⟩, h36, hh⟩ := hh
   try dsimp only at hh
   refine ⟨[iA e35a, iA e35b, tA (qInt e35c)], Nb h34, Gb h36, ?_⟩
   cbv
   replace hh := bind_some hh
   obtain ⟨x38, h37, hh⟩ := hh
   refine go_call hF (c_impl_Span_open hQ h37) ?_
   cbv
   replace hh := bind_some hh
   obtain ⟨⟨x41_0, x41_1⟩, h40, hh⟩ := hh
   try dsimp only at hh
   refine ⟨Ob, ?_⟩
   have fc := c_impl_combine hQ h40
   try dsimp only at fc
   refine go_call hF fc ?_
   cbv
   replace hh := bind_some hh
   obtain ⟨x44, h43, hh⟩ := hh
   refine go_call hF (c_impl_putAll hQ h43) ?_
   cbv
   refine hN1 (_, _) _ hh fun ⟨t0, t1⟩ e => ?_
   refine cov_of [((5, 0), (5, 0)), ((10, 0), (10, 0))] ?_
   cbv
   all_goals exact J2
  ·
   replace hh := ifF hh f33
   try rw [f33]
   cbv
   refine hD1 _ _ hh fun t0 e => ?_
   refine cov_of [((5, 0), (5, 0)), ((10, 0), (10, 0))] ?_
   cbv
   all_goals exact J1

theorem c_impl_spanOf_impl_Span_each {k : Nat} {g4 : GSpan → Int → (List GOcc) → (List GOcc) → (List GOcc) → Option (GSpan × (List GOcc))} (hg4 : ∀ {y0 : GSpan} {y1 : Int} {y2 : List GOcc} {y3 : List GOcc} {y4 : List GOcc} {r : GSpan × (List GOcc)}, g4 y0 y1 y2 y3 y4 = some r → FunW P 151 [.agg [tA (qGOcc y0.Left), tA (qGOcc y0.Mid)], iA y1, tA (qGOcc y2), tA (qGOcc y3), tA (qGOcc y4)] [hA, hA, hA, hA, hA] (.tup [.agg [tA (qGOcc r.1.Left), tA (qGOcc r.1.Mid)], tA (qGOcc r.2)])) {p0 : Int} {p1 : List GOcc} {p2 : List GOcc} {p3 : List GOcc} {r : (List GOcc) × Bool} (hh : impl_spanOf.f g4 k p0 p1 p2 p3 = some r) : FunW P 149 [iA p0, tA (qGOcc p1), tA (qGOcc p2), tA (qGOcc p3), .clo 151 []] [hA, hA, hA, hA, hA] (.tup [oA 3 (qGOccO r.1), bA r.2]) := by
 unfold impl_spanOf.f at hh
 refine go (ts := [(10, none), (11, none)]) (rm := [.own, .own]) (pm := [.skip, .skip, .skip, .skip, .skip]) Tryz.func149 ?_
 intro Fn LW len cast toNat wrap add sub mul bin lt eq At set part app fz' rep nadd nmax ssize sext sget scat seq slt Wide Flat Ones Room r' post' hC hF hr hp
 cbv
 replace hh := bind_some hh
 obtain ⟨x2, h1, hh⟩ := hh
 refine ⟨3, ?_⟩
 cbv
 refine ⟨3, ?_⟩
 cbv
 have fc := c_impl_spanFits_L1 hQ h1
 try dsimp only at fc
 refine go_call hF fc ?_
 cbv
 replace hh := if_or hh
 rcases hh with ⟨b4, hh⟩ | ⟨b4, hh⟩
 ·
  have f5 : x2 = true := Tb b4
  have g := f5; cbv at g; try rw [f5]
  try rw [g]
  cbv
  replace hh := bind_some hh
  obtain ⟨x7, h6, hh⟩ := hh
  refine ⟨Ob, ?_⟩
  refine go_call hF (c_impl_times hQ h6) ?_
  cbv
  replace hh := bind_some hh
  obtain ⟨o1, hl1, hq1⟩ := hh
  refine loop_go4 hC eok mixed (fun n (i : (List GOcc) × (List GOcc) × (List GOcc) × Int) => impl_spanOf.l0 k g4 p0 p1 p2 p3 x7 n i.1 i.2.1 i.2.2.1 i.2.2.2)
   (fun ⟨s29, s30, s31, s32⟩ => (⟨[(0, iA p0), (1, tA (qGOcc p1)), (2, tA (qGOcc p2)), (3, tA (qGOcc p3)), (4, .clo 151 []), (12, .mptr (12, 0) 1 0 0), (13, tA (qGOcc s31)), (29, tA (qInt x7)), (30, iA (cast (len (qInt x7)))), (31, iA s32)], [((12, 0), .box 1 [tA (qGOcc s29), tA (qGOcc s30)])]⟩ : St))
   (fun (x53 : List GOcc) => (⟨[(13, tA (qGOcc x53))], []⟩ : St)) (fun x => x) (.exit 0)
   (i0 := (_, _, _, _)) hl1 (fun _ => rfl) ?_ ?_ ?_
  ·
   rintro ⟨t0, t1, t2, t3⟩ e
   refine cov_of [((12, 0), (12, 0))] ?_
   cbv
   all_goals exact J4
  ·
   rintro x53 hx
   subst o1
   have hh := hq1
   cbv
   replace hh := bind_some hh
   obtain ⟨⟨x75_0, x75_1⟩, h74, hh⟩ := hh
   try dsimp only at hh
   have fc := c_impl_few hQ h74
   try dsimp only at fc
   refine go_call hF fc ?_
   cbv
   exact Eb
  ·
   rintro n ⟨s29, s30, s31, s32⟩ N1 D1 hh hN1 hD1 hQ1
   dsimp only at hh
   unfold impl_spanOf.l0 at hh
   cbv
   refine bcs (fun f55 => ?_) (fun f55 => ?_)
   ·
    replace hh := ifT hh f55
    try rw [f55]
    cbv
    replace hh := req_some hh
    obtain ⟨h56, hh⟩ := hh
    replace hh := bind_some hh
    obtain ⟨e57, h58, hh⟩ := hh
    refine ⟨[iA e57], Nb h56, Gb h58, ?_⟩
    cbv
    replace hh := bind_some hh
    obtain ⟨x60, h59, hh⟩ := hh
    refine go_call hF (c_impl_at hQ h59) ?_
    cbv
    replace hh := bind_some hh
    obtain ⟨x63, h62, hh⟩ := hh
    refine go_call hF (c_impl_at hQ h62) ?_
    cbv
    replace hh := bind_some hh
    obtain ⟨x66, h65, hh⟩ := hh
    refine go_call hF (c_impl_at hQ h65) ?_
    cbv
    replace hh := bind_some hh
    obtain ⟨⟨⟨x69_0a, x69_0b⟩, x69_1⟩, h68, hh⟩ := hh
    try dsimp only at hh
    refine ⟨Ob, ?_⟩
    refine ⟨Ob, ?_⟩
    refine ⟨Ob, ?_⟩
    have fc := hg4 h68
    try dsimp only at fc
    refine go_call hF fc ?_
    cbv
    replace hh := bind_some hh
    obtain ⟨x72, h71, hh⟩ := hh
    refine go_call hF (c_impl_putAll hQ h71) ?_
    cbv
    refine hN1 (_, _, _, _) _ hh fun ⟨t0, t1, t2, t3⟩ e => ?_
    refine cov_of [((12, 0), (12, 0))] ?_
    cbv
    all_goals exact J4
   ·
    replace hh := ifF hh f55
    try rw [f55]
    cbv
    refine hD1 _ _ hh fun t0 e => ?_
    refine cov_of [] ?_
    cbv
    all_goals exact J1
 ·
  have f5 : x2 = false := Fb b4
  have g := f5; cbv at g; try rw [f5]
  try rw [g]
  cbv
  refine ⟨3, ?_⟩
  cbv
  exact Eb

theorem c_impl_EachOf {k : Nat} {p0 : Int} {p1 : List GOcc} {p2 : List GOcc} {p3 : List GOcc} {r : (List GOcc) × Bool} (hh : impl_EachOf.f k p0 p1 p2 p3 = some r) : FunW P 122 [iA p0, tA (qGOcc p1), tA (qGOcc p2), tA (qGOcc p3)] [hA, hA, hA, hA] (.tup [oA 3 (qGOccO r.1), bA r.2]) := by
 unfold impl_EachOf.f at hh
 refine go (ts := [(8, none), (9, none)]) (rm := [.own, .own]) (pm := [.skip, .skip, .skip, .skip]) Tryz.func122 ?_
 intro Fn LW len cast toNat wrap add sub mul bin lt eq At set part app fz' rep nadd nmax ssize sext sget scat seq slt Wide Flat Ones Room r' post' hC hF hr hp
 cbv
 replace hh := bind_some hh
 obtain ⟨⟨x2_0, x2_1⟩, h1, hh⟩ := hh
 try dsimp only at hh
 have fc := c_impl_spanOf_impl_Span_each hQ (g4 := fun y0 y1 y2 y3 y4 => impl_Span_each.f k y0 y1 y2 y3 y4) (fun h => c_impl_Span_each hQ h) h1
 try dsimp only at fc
 refine go_call hF fc ?_
 cbv
 exact Eb

theorem c_impl_now {p0 : List GEv} {r : Int} (hh : impl_now.f p0 = some r) : FunW P 83 [tA (qGEv p0)] [hA] (iA r) := by
 unfold impl_now.f at hh
 refine go (ts := [(2, none)]) (rm := [.own]) (pm := [.skip]) Tryz.func83 ?_
 intro Fn LW len cast toNat wrap add sub mul bin lt eq At set part app fz' rep nadd nmax ssize sext sget scat seq slt Wide Flat Ones Room r' post' hC hF hr hp
 cbv
 refine bcs (fun f2 => ?_) (fun f2 => ?_)
 ·
  replace hh := ifT hh f2
  try rw [f2]
  cbv
  exact Eb
 ·
  replace hh := ifF hh f2
  try rw [f2]
  cbv
  replace hh := req_some hh
  obtain ⟨h3, hh⟩ := hh
  replace hh := bind_some hh
  obtain ⟨⟨e4a, e4b, e4c⟩, h5, hh⟩ := hh
  try dsimp only at hh
  refine ⟨[iA e4a, iA e4b, iA e4c], Nb h3, Gb h5, ?_⟩
  cbv
  exact Eb

theorem c_impl_later {p0 : GOcc} {p1 : Int} {r : GOcc} (hh : impl_later.f p0 p1 = some r) : FunW P 96 [.agg [iA p0.From, iA p0.To, tA (qInt p0.Ids)], iA p1] [hA, hA] (.agg [iA r.From, iA r.To, oA 1 (qInt r.Ids)]) := by
 obtain ⟨p0a, p0b, p0c⟩ := p0
 unfold impl_later.f at hh
 refine go (ts := [(4, some 63)]) (rm := [.own]) (pm := [.skip, .skip]) Tryz.func96 ?_
 intro Fn LW len cast toNat wrap add sub mul bin lt eq At set part app fz' rep nadd nmax ssize sext sget scat seq slt Wide Flat Ones Room r' post' hC hF hr hp
 cbv
 replace hh := bind_some hh
 obtain ⟨⟨x2a, x2b, x2c⟩, h1, hh⟩ := hh
 try dsimp only at hh
 have fc := c_impl_Occ_clone hQ h1
 try dsimp only at fc
 refine go_call hF fc ?_
 cbv
 exact Eb

theorem c_impl_PlusOf {k : Nat} {p0 : List GOcc} {p1 : Int} {p2 : Int} {r : (List GOcc) × Bool} (hh : impl_PlusOf.f k p0 p1 p2 = some r) : FunW P 43 [tA (qGOcc p0), iA p1, iA p2] [hA, hA, hA] (.tup [oA 3 (qGOccO r.1), bA r.2]) := by
 unfold impl_PlusOf.f at hh
 refine go (ts := [(6, none), (7, none)]) (rm := [.own, .own]) (pm := [.skip, .skip, .skip]) Tryz.func43 ?_
 intro Fn LW len cast toNat wrap add sub mul bin lt eq At set part app fz' rep nadd nmax ssize sext sget scat seq slt Wide Flat Ones Room r' post' hC hF hr hp
 cbv
 replace hh := bind_some hh
 obtain ⟨x2, h1, hh⟩ := hh
 refine go_call hF (c_impl_OccsOk hQ h1) ?_
 cbv
 replace hh := if_or hh
 rcases hh with ⟨b4, hh⟩ | ⟨b4, hh⟩
 ·
  have f5 : x2 = true := Tb b4
  have g := f5; cbv at g; try rw [f5]
  try rw [g]
  cbv
  replace hh := bind_some hh
  obtain ⟨x7, h6, hh⟩ := hh
  refine go_call hF (c_impl_in hQ h6) ?_
  cbv
  replace hh := if_or hh
  rcases hh with ⟨b9, hh⟩ | ⟨b9, hh⟩
  ·
   have f10 : x7 = true := Tb b9
   have g := f10; cbv at g; try rw [f10]
   try rw [g]
   cbv
   replace hh := bind_some hh
   obtain ⟨o1, hl1, hq1⟩ := hh
   refine loop_go4 hC eok mixed (fun n (i : (List GOcc) × Int) => impl_PlusOf.l0 k p0 p1 p2 n i.1 i.2)
    (fun ⟨s30, s31⟩ => (⟨[(1, iA p1), (2, iA p2), (8, .ref (8, 50) 1 0 (len (qGOccO s30))), (19, tA (qGOcc p0)), (20, iA (cast (len (qGOcc p0)))), (21, iA s31)], [((8, 50), .arr 1 3 (qGOccO s30))]⟩ : St))
    (fun (x51 : List GOcc) => (⟨[(8, .ref (8, 50) 1 0 (len (qGOccO x51)))], [((8, 50), .arr 1 3 (qGOccO x51))]⟩ : St)) (fun x => x) (.exit 0)
    (i0 := (_, _)) hl1 (fun _ => rfl) ?_ ?_ ?_
   ·
    rintro ⟨t0, t1⟩ e
    refine cov_of [] ?_
    cbv
    all_goals exact J2
   ·
    rintro x51 hx
    subst o1
    have hh := hq1
    cbv
    exact Eb
   ·
    rintro n ⟨s30, s31⟩ N1 D1 hh hN1 hD1 hQ1
    dsimp only at hh
    unfold impl_PlusOf.l0 at hh
    cbv
    refine bcs (fun f53 => ?_) (fun f53 => ?_)
    ·
     replace hh := ifT hh f53
     try rw [f53]
     cbv
     replace hh := req_some hh
     obtain ⟨h54, hh⟩ := hh
     replace hh := bind_some hh
     obtain ⟨⟨e55a, e55b, e55c⟩, h56, hh⟩ := hh
     try dsimp only at hh
     refine ⟨[iA e55a, iA e55b, tA (qInt e55c)], Nb h54, Gb h56, ?_⟩
     cbv
     replace hh := if_or hh
     rcases hh with ⟨b57, hh⟩ | ⟨b57, hh⟩
     ·
      have f58 : (lt 2000 p2) = true := Tb b57
      have g := f58; cbv at g; try rw [f58]
      try rw [g]
      cbv
      replace hh := if_or hh
      rcases hh with ⟨b59, hh⟩ | ⟨b59, hh⟩
      ·
       have f60 : (lt 2000 (wrap .i64 (add e55b p1))) = true := Tb b59
       have g := f60; cbv at g; try rw [f60]
       try rw [g]
       cbv
       refine hN1 (_, _) _ hh fun ⟨t0, t1⟩ e => ?_
       refine cov_of [((8, 50), (8, 50))] ?_
       cbv
       all_goals exact J2
      ·
       have f60 : (lt 2000 (wrap .i64 (add e55b p1))) = false := Fb b59
       have g := f60; cbv at g; try rw [f60]
       try rw [g]
       cbv
       replace hh := bind_some hh
       obtain ⟨⟨x62a, x62b, x62c⟩, h61, hh⟩ := hh
       try dsimp only at hh
       have fc := c_impl_later hQ h61
       try dsimp only at fc
       refine go_call hF fc ?_
       cbv
       replace hh := req_some hh
       obtain ⟨h64, hh⟩ := hh
       refine ⟨⟨Ob, Ab⟩, ?_⟩
       refine ⟨⟨Ob, Wb h64⟩, ?_⟩
       refine hN1 (_, _) _ hh fun ⟨t0, t1⟩ e => ?_
       refine cov_of [((8, 50), (37, 0))] ?_
       cbv
       all_goals exact J2
     ·
      have f58 : (lt 2000 p2) = false := Fb b57
      have g := f58; cbv at g; try rw [f58]
      try rw [g]
      cbv
      replace hh := if_or hh
      rcases hh with ⟨b65, hh⟩ | ⟨b65, hh⟩
      ·
       have f66 : (lt p2 (wrap .i64 (add e55b p1))) = true := Tb b65
       have g := f66; cbv at g; try rw [f66]
       try rw [g]
       cbv
       refine hN1 (_, _) _ hh fun ⟨t0, t1⟩ e => ?_
       refine cov_of [((8, 50), (8, 50))] ?_
       cbv
       all_goals exact J2
      ·
       have f66 : (lt p2 (wrap .i64 (add e55b p1))) = false := Fb b65
       have g := f66; cbv at g; try rw [f66]
       try rw [g]
       cbv
       replace hh := bind_some hh
       obtain ⟨⟨x68a, x68b, x68c⟩, h67, hh⟩ := hh
       try dsimp only at hh
       have fc := c_impl_later hQ h67
       try dsimp only at fc
       refine go_call hF fc ?_
       cbv
       replace hh := req_some hh
       obtain ⟨h70, hh⟩ := hh
       refine ⟨⟨Ob, Ab⟩, ?_⟩
       refine ⟨⟨Ob, Wb h70⟩, ?_⟩
       refine hN1 (_, _) _ hh fun ⟨t0, t1⟩ e => ?_
       refine cov_of [((8, 50), (37, 0))] ?_
       cbv
       all_goals exact J2
    ·
     replace hh := ifF hh f53
     try rw [f53]
     cbv
     refine hD1 _ _ hh fun t0 e => ?_
     refine cov_of [((8, 50), (8, 50))] ?_
     cbv
     all_goals exact J1
  ·
   have f10 : x7 = false := Fb b9
   have g := f10; cbv at g; try rw [f10]
   try rw [g]
   cbv
   refine ⟨3, ?_⟩
   cbv
   exact Eb
 ·
  have f5 : x2 = false := Fb b4
  have g := f5; cbv at g; try rw [f5]
  try rw [g]
  cbv
  refine ⟨3, ?_⟩
  cbv
  exact Eb

theorem c_scc77 : ∀ k : Nat, (∀ {p0 : GEx} {p1 : Int} {p2 : List GEv} {r : (List GOcc) × Bool}, impl_Ex_mean.f k p0 p1 p2 = some r → FunW P 77 [.agg [iA p0.Kind, iA p0.Sym, iA p0.N, tA (qGEx p0.Kids)], iA p1, tA (qGEv p2)] [hA, hA, hA] (.tup [oA 3 (qGOccO r.1), bA r.2])) := by
  intro k
  induction k using Nat.strongRecOn with
  | _ k ih =>
  · intro p0 p1 p2 r hh
    cases k with
    | zero => unfold impl_Ex_mean.f at hh; cases hh
    | succ k =>
    obtain ⟨p0a, p0b, p0c, p0d⟩ := p0
    unfold impl_Ex_mean.f at hh
    refine go (ts := [(6, none), (7, none)]) (rm := [.own, .own]) (pm := [.skip, .skip, .skip]) Tryz.func77 ?_
    intro Fn LW len cast toNat wrap add sub mul bin lt eq At set part app fz' rep nadd nmax ssize sext sget scat seq slt Wide Flat Ones Room r' post' hC hF hr hp
    cbv
    replace hh := bind_some hh
    obtain ⟨o1, hl1, hq1⟩ := hh
    refine loop_go4 hC eok mixed (fun n (i : (List (List GOcc)) × Int) => impl_Ex_mean.l0 k (impl_Ex_mean.f k) (⟨p0a, p0b, p0c, p0d⟩ : GEx) p1 p2 n i.1 i.2)
     (fun ⟨s12, s13⟩ => (⟨[(1, iA p1), (2, tA (qGEv p2)), (3, .mptr (3, 0) 1 0 0), (8, .ref (8, 50) 1 0 (len (qLGOccO s12))), (17, tA (qGEx p0d)), (18, iA (cast (len (qGEx p0d)))), (19, iA s13)], [((3, 0), .box 1 [iA p0a, iA p0b, iA p0c, tA (qGEx p0d)]), ((8, 50), .arr 1 1 (qLGOccO s12))]⟩ : St))
     (fun (x25 : List (List GOcc)) => (⟨[(1, iA p1), (2, tA (qGEv p2)), (3, .mptr (3, 0) 1 0 0), (8, .ref (8, 50) 1 0 (len (qLGOcc x25)))], [((3, 0), .box 1 [iA p0a, iA p0b, iA p0c, tA (qGEx p0d)]), ((8, 50), .farr 1 1 (qLGOcc x25))]⟩ : St)) .ok (.exit 0)
     (i0 := (_, _)) hl1 (fun _ => rfl) ?_ ?_ ?_
    ·
     rintro ⟨t0, t1⟩ e
     refine cov_of [((3, 0), (3, 0))] ?_
     cbv
     all_goals exact J2
    ·
     rintro x25 hx
     subst o1
     have hh := hq1
     cbv
     refine bcs (fun f38 => ?_) (fun f38 => ?_)
     ·
      replace hh := ifT hh f38
      try rw [f38]
      cbv
      replace hh := req_some hh
      obtain ⟨h39, hh⟩ := hh
      replace hh := req_some hh
      obtain ⟨h40, hh⟩ := hh
      refine ⟨Nb h39, Mb h40, ?_⟩
      replace hh := bind_some hh
      obtain ⟨e41, h42, hh⟩ := hh
      refine ⟨[tA (qGOcc e41)], Gb h42, ?_⟩
      cbv
      replace hh := req_some hh
      obtain ⟨h43, hh⟩ := hh
      replace hh := req_some hh
      obtain ⟨h44, hh⟩ := hh
      refine ⟨Nb h43, Mb h44, ?_⟩
      replace hh := bind_some hh
      obtain ⟨e45, h46, hh⟩ := hh
      refine ⟨[tA (qGOcc e45)], Gb h46, ?_⟩
      cbv
      replace hh := bind_some hh
      obtain ⟨⟨x48_0, x48_1⟩, h47, hh⟩ := hh
      try dsimp only at hh
      have fc := c_impl_OrOf hQ h47
      try dsimp only at fc
      refine go_call hF fc ?_
      cbv
      exact Eb
     ·
      replace hh := ifF hh f38
      try rw [f38]
      cbv
      refine bcs (fun f51 => ?_) (fun f51 => ?_)
      ·
       replace hh := ifT hh f51
       try rw [f51]
       cbv
       replace hh := req_some hh
       obtain ⟨h52, hh⟩ := hh
       replace hh := req_some hh
       obtain ⟨h53, hh⟩ := hh
       refine ⟨Nb h52, Mb h53, ?_⟩
       replace hh := bind_some hh
       obtain ⟨e54, h55, hh⟩ := hh
       refine ⟨[tA (qGOcc e54)], Gb h55, ?_⟩
       cbv
       replace hh := req_some hh
       obtain ⟨h56, hh⟩ := hh
       replace hh := req_some hh
       obtain ⟨h57, hh⟩ := hh
       refine ⟨Nb h56, Mb h57, ?_⟩
       replace hh := bind_some hh
       obtain ⟨e58, h59, hh⟩ := hh
       refine ⟨[tA (qGOcc e58)], Gb h59, ?_⟩
       cbv
       replace hh := bind_some hh
       obtain ⟨⟨x61_0, x61_1⟩, h60, hh⟩ := hh
       try dsimp only at hh
       have fc := c_impl_AndOf hQ h60
       try dsimp only at fc
       refine go_call hF fc ?_
       cbv
       exact Eb
      ·
       replace hh := ifF hh f51
       try rw [f51]
       cbv
       refine bcs (fun f64 => ?_) (fun f64 => ?_)
       ·
        replace hh := ifT hh f64
        try rw [f64]
        cbv
        replace hh := req_some hh
        obtain ⟨h65, hh⟩ := hh
        replace hh := req_some hh
        obtain ⟨h66, hh⟩ := hh
        refine ⟨Nb h65, Mb h66, ?_⟩
        replace hh := bind_some hh
        obtain ⟨e67, h68, hh⟩ := hh
        refine ⟨[tA (qGOcc e67)], Gb h68, ?_⟩
        cbv
        replace hh := req_some hh
        obtain ⟨h69, hh⟩ := hh
        replace hh := req_some hh
        obtain ⟨h70, hh⟩ := hh
        refine ⟨Nb h69, Mb h70, ?_⟩
        replace hh := bind_some hh
        obtain ⟨e71, h72, hh⟩ := hh
        refine ⟨[tA (qGOcc e71)], Gb h72, ?_⟩
        cbv
        replace hh := bind_some hh
        obtain ⟨⟨x74_0, x74_1⟩, h73, hh⟩ := hh
        try dsimp only at hh
        have fc := c_impl_SeqOf hQ h73
        try dsimp only at fc
        refine go_call hF fc ?_
        cbv
        exact Eb
       ·
        replace hh := ifF hh f64
        try rw [f64]
        cbv
        refine bcs (fun f77 => ?_) (fun f77 => ?_)
        ·
         replace hh := ifT hh f77
         try rw [f77]
         cbv
         replace hh := req_some hh
         obtain ⟨h78, hh⟩ := hh
         replace hh := req_some hh
         obtain ⟨h79, hh⟩ := hh
         refine ⟨Nb h78, Mb h79, ?_⟩
         replace hh := bind_some hh
         obtain ⟨e80, h81, hh⟩ := hh
         refine ⟨[tA (qGOcc e80)], Gb h81, ?_⟩
         cbv
         replace hh := req_some hh
         obtain ⟨h82, hh⟩ := hh
         replace hh := req_some hh
         obtain ⟨h83, hh⟩ := hh
         refine ⟨Nb h82, Mb h83, ?_⟩
         replace hh := bind_some hh
         obtain ⟨e84, h85, hh⟩ := hh
         refine ⟨[tA (qGOcc e84)], Gb h85, ?_⟩
         cbv
         replace hh := req_some hh
         obtain ⟨h86, hh⟩ := hh
         replace hh := req_some hh
         obtain ⟨h87, hh⟩ := hh
         refine ⟨Nb h86, Mb h87, ?_⟩
         replace hh := bind_some hh
         obtain ⟨e88, h89, hh⟩ := hh
         refine ⟨[tA (qGOcc e88)], Gb h89, ?_⟩
         cbv
         replace hh := bind_some hh
         obtain ⟨⟨x91_0, x91_1⟩, h90, hh⟩ := hh
         try dsimp only at hh
         have fc := c_impl_NotOf hQ h90
         try dsimp only at fc
         refine go_call hF fc ?_
         cbv
         exact Eb
        ·
         replace hh := ifF hh f77
         try rw [f77]
         cbv
         refine bcs (fun f94 => ?_) (fun f94 => ?_)
         ·
          replace hh := ifT hh f94
          try rw [f94]
          cbv
          replace hh := req_some hh
          obtain ⟨h95, hh⟩ := hh
          replace hh := req_some hh
          obtain ⟨h96, hh⟩ := hh
          refine ⟨Nb h95, Mb h96, ?_⟩
          replace hh := bind_some hh
          obtain ⟨e97, h98, hh⟩ := hh
          refine ⟨[tA (qGOcc e97)], Gb h98, ?_⟩
          cbv
          replace hh := req_some hh
          obtain ⟨h99, hh⟩ := hh
          replace hh := req_some hh
          obtain ⟨h100, hh⟩ := hh
          refine ⟨Nb h99, Mb h100, ?_⟩
          replace hh := bind_some hh
          obtain ⟨e101, h102, hh⟩ := hh
          refine ⟨[tA (qGOcc e101)], Gb h102, ?_⟩
          cbv
          replace hh := req_some hh
          obtain ⟨h103, hh⟩ := hh
          replace hh := req_some hh
          obtain ⟨h104, hh⟩ := hh
          refine ⟨Nb h103, Mb h104, ?_⟩
          replace hh := bind_some hh
          obtain ⟨e105, h106, hh⟩ := hh
          refine ⟨[tA (qGOcc e105)], Gb h106, ?_⟩
          cbv
          replace hh := bind_some hh
          obtain ⟨⟨x108_0, x108_1⟩, h107, hh⟩ := hh
          try dsimp only at hh
          have fc := c_impl_EachOf hQ h107
          try dsimp only at fc
          refine go_call hF fc ?_
          cbv
          exact Eb
         ·
          replace hh := ifF hh f94
          try rw [f94]
          cbv
          refine bcs (fun f111 => ?_) (fun f111 => ?_)
          ·
           replace hh := ifT hh f111
           try rw [f111]
           cbv
           replace hh := req_some hh
           obtain ⟨h112, hh⟩ := hh
           replace hh := req_some hh
           obtain ⟨h113, hh⟩ := hh
           refine ⟨Nb h112, Mb h113, ?_⟩
           replace hh := bind_some hh
           obtain ⟨e114, h115, hh⟩ := hh
           refine ⟨[tA (qGOcc e114)], Gb h115, ?_⟩
           cbv
           replace hh := bind_some hh
           obtain ⟨x117, h116, hh⟩ := hh
           refine go_call hF (c_impl_now hQ h116) ?_
           cbv
           replace hh := bind_some hh
           obtain ⟨⟨x120_0, x120_1⟩, h119, hh⟩ := hh
           try dsimp only at hh
           have fc := c_impl_PlusOf hQ h119
           try dsimp only at fc
           refine go_call hF fc ?_
           cbv
           exact Eb
          ·
           replace hh := ifF hh f111
           try rw [f111]
           cbv
           replace hh := bind_some hh
           obtain ⟨o1, hl1, hq1⟩ := hh
           refine loop_go4 hC eok mixed (fun n (i : (List GOcc) × Int) => impl_Ex_mean.l1 k (⟨p0a, p0b, p0c, p0d⟩ : GEx) p2 n i.1 i.2)
            (fun ⟨s130, s131⟩ => (⟨[(3, .mptr (3, 0) 1 0 0), (13, .ref (13, 50) 1 0 (len (qGOccO s130))), (116, tA (qGEv p2)), (117, iA (cast (len (qGEv p2)))), (118, iA s131)], [((3, 0), .box 1 [iA p0a, iA p0b, iA p0c, tA (qGEx p0d)]), ((13, 50), .arr 1 3 (qGOccO s130))]⟩ : St))
            (fun (x140 : List GOcc) => (⟨[(13, .ref (13, 50) 1 0 (len (qGOccO x140)))], [((13, 50), .arr 1 3 (qGOccO x140))]⟩ : St)) (fun x => x) (.exit 3)
            (i0 := (_, _)) hl1 (fun _ => rfl) ?_ ?_ ?_
           ·
            rintro ⟨t0, t1⟩ e
            refine cov_of [((3, 0), (3, 0))] ?_
            cbv
            all_goals exact J2
           ·
            rintro x140 hx
            subst o1
            have hh := hq1
            cbv
            exact Eb
           ·
            rintro n ⟨s130, s131⟩ N1 D1 hh hN1 hD1 hQ1
            dsimp only at hh
            unfold impl_Ex_mean.l1 at hh
            cbv
            refine bcs (fun f142 => ?_) (fun f142 => ?_)
            ·
             replace hh := ifT hh f142
             try rw [f142]
             cbv
             replace hh := req_some hh
             obtain ⟨h143, hh⟩ := hh
             replace hh := bind_some hh
             obtain ⟨⟨e144a, e144b, e144c⟩, h145, hh⟩ := hh
             try dsimp only at hh
             refine ⟨[iA e144a, iA e144b, iA e144c], Nb h143, Gb h145, ?_⟩
             cbv
             refine bcs (fun f147 => ?_) (fun f147 => ?_)
             ·
              replace hh := ifT hh f147
              try rw [f147]
              cbv
              refine ⟨Ob, ?_⟩
              replace hh := req_some hh
              obtain ⟨h148, hh⟩ := hh
              refine ⟨⟨Ob, Ab⟩, ?_⟩
              refine ⟨⟨Ob, Wb h148⟩, ?_⟩
              refine hN1 (_, _) _ hh fun ⟨t0, t1⟩ e => ?_
              refine cov_of [((3, 0), (3, 0)), ((13, 50), (137, 0))] ?_
              cbv
              all_goals exact J2
             ·
              replace hh := ifF hh f147
              try rw [f147]
              cbv
              refine hN1 (_, _) _ hh fun ⟨t0, t1⟩ e => ?_
              refine cov_of [((3, 0), (3, 0)), ((13, 50), (13, 50))] ?_
              cbv
              all_goals exact J2
            ·
             replace hh := ifF hh f142
             try rw [f142]
             cbv
             refine hD1 _ _ hh fun t0 e => ?_
             refine cov_of [((13, 50), (13, 50))] ?_
             cbv
             all_goals exact J1
    ·
     rintro n ⟨s12, s13⟩ N1 D1 hh hN1 hD1 hQ1
     dsimp only at hh
     unfold impl_Ex_mean.l0 at hh
     cbv
     refine bcs (fun f27 => ?_) (fun f27 => ?_)
     ·
      replace hh := ifT hh f27
      try rw [f27]
      cbv
      replace hh := req_some hh
      obtain ⟨h28, hh⟩ := hh
      replace hh := bind_some hh
      obtain ⟨⟨e29a, e29b, e29c, e29d⟩, h30, hh⟩ := hh
      try dsimp only at hh
      refine ⟨[iA e29a, iA e29b, iA e29c, tA (qGEx e29d)], Nb h28, Gb h30, ?_⟩
      cbv
      replace hh := bind_some hh
      obtain ⟨⟨x32_0, x32_1⟩, h31, hh⟩ := hh
      try dsimp only at hh
      have fc := (ih k (Nat.lt_succ_self k)) h31
      try dsimp only at fc
      refine go_call hF fc ?_
      cbv
      replace hh := if_or hh
      rcases hh with ⟨b34, hh⟩ | ⟨b34, hh⟩
      ·
       have f35 : x32_1 = true := Tb b34
       have g := f35; cbv at g; try rw [f35]
       try rw [g]
       cbv
       replace hh := req_some hh
       obtain ⟨h36, hh⟩ := hh
       refine ⟨⟨Ob, Ab⟩, ?_⟩
       refine ⟨⟨Ob, Wb h36⟩, ?_⟩
       refine hN1 (_, _) _ hh fun ⟨t0, t1⟩ e => ?_
       refine cov_of [((3, 0), (3, 0)), ((8, 50), (35, 0))] ?_
       cbv
       all_goals exact J2
      ·
       have f35 : x32_1 = false := Fb b34
       have g := f35; cbv at g; try rw [f35]
       try rw [g]
       cbv
       cases hh
       have hh : some _ = some _ := hq1
       refine hQ1 _ _ ?_
       cbv
       refine ⟨3, ?_⟩
       cbv
       exact Eb
     ·
      replace hh := ifF hh f27
      try rw [f27]
      cbv
      refine hD1 _ _ hh fun t0 e => ?_
      refine cov_of [((3, 0), (3, 0)), ((8, 50), (8, 50))] ?_
      cbv
      all_goals exact J1
theorem c_impl_Ex_mean {k : Nat} {p0 : GEx} {p1 : Int} {p2 : List GEv} {r : (List GOcc) × Bool} (hh : impl_Ex_mean.f k p0 p1 p2 = some r) : FunW P 77 [.agg [iA p0.Kind, iA p0.Sym, iA p0.N, tA (qGEx p0.Kids)], iA p1, tA (qGEv p2)] [hA, hA, hA] (.tup [oA 3 (qGOccO r.1), bA r.2]) := (c_scc77 hQ k) hh


theorem c_impl_MeanOf {k : Nat} {p0 : GEx} {p1 : Int} {p2 : List GEv} {r : (List GOcc) × Bool} (hh : impl_MeanOf.f k p0 p1 p2 = some r) : FunW P 27 [.agg [iA p0.Kind, iA p0.Sym, iA p0.N, tA (qGEx p0.Kids)], iA p1, tA (qGEv p2)] [hA, hA, hA] (.tup [oA 3 (qGOccO r.1), bA r.2]) := by
 obtain ⟨p0a, p0b, p0c, p0d⟩ := p0
 unfold impl_MeanOf.f at hh
 refine go (ts := [(6, none), (7, none)]) (rm := [.own, .own]) (pm := [.skip, .skip, .skip]) Tryz.func27 ?_
 intro Fn LW len cast toNat wrap add sub mul bin lt eq At set part app fz' rep nadd nmax ssize sext sget scat seq slt Wide Flat Ones Room r' post' hC hF hr hp
 cbv
 replace hh := bind_some hh
 obtain ⟨x2, h1, hh⟩ := hh
 refine go_call hF (c_impl_ExOk hQ h1) ?_
 cbv
 replace hh := if_or hh
 rcases hh with ⟨b4, hh⟩ | ⟨b4, hh⟩
 ·
  have f5 : x2 = true := Tb b4
  have g := f5; cbv at g; try rw [f5]
  try rw [g]
  cbv
  replace hh := bind_some hh
  obtain ⟨x7, h6, hh⟩ := hh
  refine go_call hF (c_impl_isMode hQ h6) ?_
  cbv
  replace hh := if_or hh
  rcases hh with ⟨b9, hh⟩ | ⟨b9, hh⟩
  ·
   have f10 : x7 = true := Tb b9
   have g := f10; cbv at g; try rw [f10]
   try rw [g]
   cbv
   replace hh := bind_some hh
   obtain ⟨x12, h11, hh⟩ := hh
   refine go_call hF (c_impl_EvsOk hQ h11) ?_
   cbv
   replace hh := if_or hh
   rcases hh with ⟨b14, hh⟩ | ⟨b14, hh⟩
   ·
    have f15 : x12 = true := Tb b14
    have g := f15; cbv at g; try rw [f15]
    try rw [g]
    cbv
    replace hh := bind_some hh
    obtain ⟨⟨x17_0, x17_1⟩, h16, hh⟩ := hh
    try dsimp only at hh
    have fc := c_impl_Ex_mean hQ h16
    try dsimp only at fc
    refine go_call hF fc ?_
    cbv
    exact Eb
   ·
    have f15 : x12 = false := Fb b14
    have g := f15; cbv at g; try rw [f15]
    try rw [g]
    cbv
    refine ⟨3, ?_⟩
    cbv
    exact Eb
  ·
   have f10 : x7 = false := Fb b9
   have g := f10; cbv at g; try rw [f10]
   try rw [g]
   cbv
   refine ⟨3, ?_⟩
   cbv
   exact Eb
 ·
  have f5 : x2 = false := Fb b4
  have g := f5; cbv at g; try rw [f5]
  try rw [g]
  cbv
  refine ⟨3, ?_⟩
  cbv
  exact Eb
theorem c_impl_MeanOf_L0_2 {k : Nat} {p0 : GEx} {p1 : Int} {p2 : List GEv} {r : (List GOcc) × Bool} (hh : impl_MeanOf.f k p0 p1 p2 = some r) : FunW P 27 [.agg [iA p0.Kind, iA p0.Sym, iA p0.N, oA 4 (qGExO p0.Kids)], iA p1, oA 3 (qGEv p2)] [.agg [iA p0.Kind, iA p0.Sym, iA p0.N, oA 4 (qGExO p0.Kids)], hA, oA 3 (qGEv p2)] (.tup [oA 3 (qGOccO r.1), bA r.2]) := by
  cases hQ; exact (c_impl_MeanOf .mk hh).lend (by simp [Vm.ownd, owndL, -r_GOccO_map, r_GOccO_ownd]) (.lend (by simp) (.same rfl (.lend (congrArg A.tree (r_GEv_fz _).symm) .nil)))

theorem c_impl_ExMany {k : Nat} {p0 : GEx} {r : Int} (hh : impl_ExMany.f k p0 = some r) : FunW P 29 [.agg [iA p0.Kind, iA p0.Sym, iA p0.N, tA (qGEx p0.Kids)]] [hA] (iA r) := by
 obtain ⟨p0a, p0b, p0c, p0d⟩ := p0
 unfold impl_ExMany.f at hh
 refine go (ts := [(2, none)]) (rm := [.own]) (pm := [.skip]) Tryz.func29 ?_
 intro Fn LW len cast toNat wrap add sub mul bin lt eq At set part app fz' rep nadd nmax ssize sext sget scat seq slt Wide Flat Ones Room r' post' hC hF hr hp
 cbv
 replace hh := bind_some hh
 obtain ⟨x2, h1, hh⟩ := hh
 refine go_call hF (c_impl_ExOk hQ h1) ?_
 cbv
 replace hh := if_or hh
 rcases hh with ⟨b4, hh⟩ | ⟨b4, hh⟩
 ·
  have f5 : x2 = true := Tb b4
  have g := f5; cbv at g; try rw [f5]
  try rw [g]
  cbv
  replace hh := bind_some hh
  obtain ⟨⟨x7_0, x7_1⟩, h6, hh⟩ := hh
  try dsimp only at hh
  refine go_call hF (c_impl_Ex_size hQ h6) ?_
  cbv
  exact Eb
 ·
  have f5 : x2 = false := Fb b4
  have g := f5; cbv at g; try rw [f5]
  try rw [g]
  cbv
  exact Eb
theorem c_impl_ExMany_L0 {k : Nat} {p0 : GEx} {r : Int} (hh : impl_ExMany.f k p0 = some r) : FunW P 29 [.agg [iA p0.Kind, iA p0.Sym, iA p0.N, oA 4 (qGExO p0.Kids)]] [.agg [iA p0.Kind, iA p0.Sym, iA p0.N, oA 4 (qGExO p0.Kids)]] (iA r) := by
  cases hQ; exact (c_impl_ExMany .mk hh).lend (rfl) (.lend (by simp) .nil)

theorem c_impl_TurnLate {k : Nat} {p0 : List GEv} {p1 : Int} {r : List GEv} (hh : impl_TurnLate.f k p0 p1 = some r) : FunW P 30 [tA (qGEv p0), iA p1] [hA, hA] (oA 3 (qGEv r)) := by
 unfold impl_TurnLate.f at hh
 refine go (ts := [(4, none)]) (rm := [.own]) (pm := [.skip, .skip]) Tryz.func30 ?_
 intro Fn LW len cast toNat wrap add sub mul bin lt eq At set part app fz' rep nadd nmax ssize sext sget scat seq slt Wide Flat Ones Room r' post' hC hF hr hp
 cbv
 replace hh := bind_some hh
 obtain ⟨x2, h1, hh⟩ := hh
 refine go_call hF (c_impl_EvsOk hQ h1) ?_
 cbv
 replace hh := if_or hh
 rcases hh with ⟨b4, hh⟩ | ⟨b4, hh⟩
 ·
  have f5 : x2 = true := Tb b4
  have g := f5; cbv at g; try rw [f5]
  try rw [g]
  cbv
  replace hh := bind_some hh
  obtain ⟨x7, h6, hh⟩ := hh
  refine go_call hF (c_impl_in hQ h6) ?_
  cbv
  replace hh := if_or hh
  rcases hh with ⟨b9, hh⟩ | ⟨b9, hh⟩
  ·
   have f10 : x7 = true := Tb b9
   have g := f10; cbv at g; try rw [f10]
   try rw [g]
   cbv
   replace hh := bind_some hh
   obtain ⟨x12, h11, hh⟩ := hh
   refine go_call hF (c_impl_now hQ h11) ?_
   cbv
   refine bcs (fun f15 => ?_) (fun f15 => ?_)
   ·
    replace hh := ifT hh f15
    try rw [f15]
    cbv
    refine ⟨3, ?_⟩
    cbv
    exact Eb
   ·
    replace hh := ifF hh f15
    try rw [f15]
    cbv
    replace hh := bind_some hh
    obtain ⟨x17, h16, hh⟩ := hh
    refine go_call hF (c_impl_cloneEvs hQ h16) ?_
    cbv
    replace hh := bind_some hh
    obtain ⟨o1, hl1, hq1⟩ := hh
    refine loop_go4 hC eok mixed (fun n (i : (List GEv) × Int) => impl_TurnLate.l0 k p1 x17 n i.1 i.2)
     (fun ⟨s27, s28⟩ => (⟨[(1, iA p1), (5, .ref (23, 0) 1 0 (len (qGEv s27))), (25, iA (cast (len (qGEv x17)))), (26, iA s28)], [((23, 0), .arr 1 3 (qGEv s27))]⟩ : St))
     (fun (x37 : List GEv) => (⟨[(5, .ref (23, 0) 1 0 (len (qGEv x37)))], [((23, 0), .arr 1 3 (qGEv x37))]⟩ : St)) (fun x => x) (.exit 0)
     (i0 := (_, _)) hl1 (fun _ => rfl) ?_ ?_ ?_
    ·
     rintro ⟨t0, t1⟩ e
     refine cov_of [((23, 0), (23, 0))] ?_
     cbv
     all_goals exact J2
    ·
     rintro x37 hx
     subst o1
     have hh := hq1
     cbv
     exact Eb
    ·
     rintro n ⟨s27, s28⟩ N1 D1 hh hN1 hD1 hQ1
     dsimp only at hh
     unfold impl_TurnLate.l0 at hh
     cbv
     refine bcs (fun f39 => ?_) (fun f39 => ?_)
     ·
      replace hh := ifT hh f39
      try rw [f39]
      cbv
      replace hh := req_some hh
      obtain ⟨h40, hh⟩ := hh
      replace hh := req_some hh
      obtain ⟨h41, hh⟩ := hh
      refine ⟨Nb h40, Mb h41, ?_⟩
      replace hh := bind_some hh
      obtain ⟨⟨e42a, e42b, e42c⟩, h43, hh⟩ := hh
      try dsimp only at hh
      refine ⟨[iA e42a, iA e42b, iA e42c], Gb h43, ?_⟩
      cbv
      replace hh := req_some hh
      obtain ⟨h44, hh⟩ := hh
      replace hh := req_some hh
      obtain ⟨h45, hh⟩ := hh
      refine ⟨Nb h44, Mb h45, ?_⟩
      refine ⟨[iA e42a, iA e42b, iA e42c], Gb h43, ?_⟩
      cbv
      refine hN1 (_, _) _ hh fun ⟨t0, t1⟩ e => ?_
      refine cov_of [((23, 0), (23, 0))] ?_
      cbv
      all_goals exact J2
     ·
      replace hh := ifF hh f39
      try rw [f39]
      cbv
      refine hD1 _ _ hh fun t0 e => ?_
      refine cov_of [((23, 0), (23, 0))] ?_
      cbv
      all_goals exact J1
  ·
   have f10 : x7 = false := Fb b9
   have g := f10; cbv at g; try rw [f10]
   try rw [g]
   cbv
   refine ⟨3, ?_⟩
   cbv
   exact Eb
 ·
  have f5 : x2 = false := Fb b4
  have g := f5; cbv at g; try rw [f5]
  try rw [g]
  cbv
  refine ⟨3, ?_⟩
  cbv
  exact Eb
theorem c_impl_TurnLate_L0 {k : Nat} {p0 : List GEv} {p1 : Int} {r : List GEv} (hh : impl_TurnLate.f k p0 p1 = some r) : FunW P 30 [oA 3 (qGEv p0), iA p1] [oA 3 (qGEv p0), hA] (oA 3 (qGEv r)) := by
  cases hQ; exact (c_impl_TurnLate .mk hh).lend (r_GEv_ownd _) (.lend (congrArg A.tree (r_GEv_fz _).symm) (.same rfl .nil))

theorem c_impl_TurnOccs {k : Nat} {p0 : List GOcc} {p1 : Int} {r : List GOcc} (hh : impl_TurnOccs.f k p0 p1 = some r) : FunW P 31 [tA (qGOcc p0), iA p1] [hA, hA] (oA 3 (qGOccO r)) := by
 unfold impl_TurnOccs.f at hh
 refine go (ts := [(4, none)]) (rm := [.own]) (pm := [.skip, .skip]) Tryz.func31 ?_
 intro Fn LW len cast toNat wrap add sub mul bin lt eq At set part app fz' rep nadd nmax ssize sext sget scat seq slt Wide Flat Ones Room r' post' hC hF hr hp
 cbv
 replace hh := bind_some hh
 obtain ⟨x2, h1, hh⟩ := hh
 refine go_call hF (c_impl_OccsOk hQ h1) ?_
 cbv
 replace hh := if_or hh
 rcases hh with ⟨b4, hh⟩ | ⟨b4, hh⟩
 ·
  have f5 : x2 = true := Tb b4
  have g := f5; cbv at g; try rw [f5]
  try rw [g]
  cbv
  replace hh := bind_some hh
  obtain ⟨x7, h6, hh⟩ := hh
  refine go_call hF (c_impl_in hQ h6) ?_
  cbv
  replace hh := if_or hh
  rcases hh with ⟨b9, hh⟩ | ⟨b9, hh⟩
  ·
   have f10 : x7 = true := Tb b9
   have g := f10; cbv at g; try rw [f10]
   try rw [g]
   cbv
   replace hh := bind_some hh
   obtain ⟨x12, h11, hh⟩ := hh
   refine go_call hF (c_impl_cloneOccs hQ h11) ?_
   cbv
   replace hh := bind_some hh
   obtain ⟨o1, hl1, hq1⟩ := hh
   refine loop_go4 hC eok mixed (fun n (i : (List GOcc) × Int) => impl_TurnOccs.l0 k p1 x12 n i.1 i.2)
    (fun ⟨s26, s27⟩ => (⟨[(1, iA p1), (5, .ref (16, 0) 1 0 (len (qGOccO s26))), (18, iA (cast (len (qGOccO x12)))), (19, iA s27)], [((16, 0), .arr 1 3 (qGOccO s26))]⟩ : St))
    (fun (x40 : List GOcc) => (⟨[(5, .ref (16, 0) 1 0 (len (qGOccO x40)))], [((16, 0), .arr 1 3 (qGOccO x40))]⟩ : St)) (fun x => x) (.exit 0)
    (i0 := (_, _)) hl1 (fun _ => rfl) ?_ ?_ ?_
   ·
    rintro ⟨t0, t1⟩ e
    refine cov_of [((16, 0), (16, 0))] ?_
    cbv
    all_goals exact J2
   ·
    rintro x40 hx
    subst o1
    have hh := hq1
    cbv
    exact Eb
   ·
    rintro n ⟨s26, s27⟩ N1 D1 hh hN1 hD1 hQ1
    dsimp only at hh
    unfold impl_TurnOccs.l0 at hh
    cbv
    refine bcs (fun f42 => ?_) (fun f42 => ?_)
    ·
     replace hh := ifT hh f42
     try rw [f42]
     cbv
     replace hh := req_some hh
     obtain ⟨h43, hh⟩ := hh
     replace hh := req_some hh
     obtain ⟨h44, hh⟩ := hh
     refine ⟨Nb h43, Mb h44, ?_⟩
     replace hh := bind_some hh
     obtain ⟨⟨e45a, e45b, e45c⟩, h46, hh⟩ := hh
     try dsimp only at hh
     refine ⟨[iA e45a, iA e45b, oA 1 (qInt e45c)], Gb h46, ?_⟩
     cbv
     replace hh := req_some hh
     obtain ⟨h47, hh⟩ := hh
     replace hh := req_some hh
     obtain ⟨h48, hh⟩ := hh
     refine ⟨Nb h47, Mb h48, ?_⟩
     refine ⟨[iA e45a, iA e45b, oA 1 (qInt e45c)], Gb h46, ?_⟩
     cbv
     replace hh := req_some hh
     obtain ⟨h49, hh⟩ := hh
     replace hh := req_some hh
     obtain ⟨h50, hh⟩ := hh
     refine ⟨Nb h49, Mb h50, ?_⟩
     refine ⟨[iA (wrap .i64 (add e45a p1)), iA e45b, oA 1 (qInt e45c)], Gb2 h46 ((List.getElem?_eq_some_iff.1 h46).1), ?_⟩
     cbv
     replace hh := req_some hh
     obtain ⟨h51, hh⟩ := hh
     replace hh := req_some hh
     obtain ⟨h52, hh⟩ := hh
     refine ⟨Nb h51, Mb h52, ?_⟩
     refine ⟨[iA (wrap .i64 (add e45a p1)), iA e45b, oA 1 (qInt e45c)], Gb2 h46 ((List.getElem?_eq_some_iff.1 h46).1), ?_⟩
     cbv
     refine hN1 (_, _) _ hh fun ⟨t0, t1⟩ e => ?_
     refine cov_of [((16, 0), (16, 0))] ?_
     cbv
     all_goals exact J2
    ·
     replace hh := ifF hh f42
     try rw [f42]
     cbv
     refine hD1 _ _ hh fun t0 e => ?_
     refine cov_of [((16, 0), (16, 0))] ?_
     cbv
     all_goals exact J1
  ·
   have f10 : x7 = false := Fb b9
   have g := f10; cbv at g; try rw [f10]
   try rw [g]
   cbv
   refine ⟨3, ?_⟩
   cbv
   exact Eb
 ·
  have f5 : x2 = false := Fb b4
  have g := f5; cbv at g; try rw [f5]
  try rw [g]
  cbv
  refine ⟨3, ?_⟩
  cbv
  exact Eb
theorem c_impl_TurnOccs_L0 {k : Nat} {p0 : List GOcc} {p1 : Int} {r : List GOcc} (hh : impl_TurnOccs.f k p0 p1 = some r) : FunW P 31 [oA 3 (qGOccO p0), iA p1] [oA 3 (qGOccO p0), hA] (oA 3 (qGOccO r)) := by
  cases hQ; exact (c_impl_TurnOccs .mk hh).lend (r_GOccO_ownd _) (.lend (congrArg A.tree (r_GOccO_fz _).symm) (.same rfl .nil))

theorem c_laws_FnTurn {k : Nat} {p0 : List Int} {p1 : List Int} {r : Bool} (hh : laws_FnTurn.f k p0 p1 = some r) : FunW P 3 [tA (qIu8 p0), tA (qIu8 p1)] [hA, hA] (bA r) := by
 unfold laws_FnTurn.f at hh
 refine go (ts := [(4, none)]) (rm := [.own]) (pm := [.skip, .skip]) Tryz.func3 ?_
 intro Fn LW len cast toNat wrap add sub mul bin lt eq At set part app fz' rep nadd nmax ssize sext sget scat seq slt Wide Flat Ones Room r' post' hC hF hr hp
 cbv
 refine bcs (fun f2 => ?_) (fun f2 => ?_)
 ·
  replace hh := ifT hh f2
  try rw [f2]
  cbv
  exact Eb
 ·
  replace hh := ifF hh f2
  try rw [f2]
  cbv
  refine bcs (fun f4 => ?_) (fun f4 => ?_)
  ·
   replace hh := ifT hh f4
   try rw [f4]
   cbv
   exact Eb
  ·
   replace hh := ifF hh f4
   try rw [f4]
   cbv
   replace hh := bind_some hh
   obtain ⟨⟨⟨x6_0a, x6_0b, x6_0c, x6_0d⟩, x6_1⟩, h5, hh⟩ := hh
   try dsimp only at hh
   have fc := c_spec_DrawTurnEx hQ h5
   try dsimp only at fc
   refine go_call hF fc ?_
   cbv
   replace hh := bind_some hh
   obtain ⟨⟨⟨x9_0a, x9_0b, x9_0c, x9_0d⟩, x9_1, x9_2⟩, h8, hh⟩ := hh
   try dsimp only at hh
   have fc := c_spec_DrawMeanOf hQ h8
   try dsimp only at fc
   refine go_call hF fc ?_
   cbv
   replace hh := bind_some hh
   obtain ⟨⟨x12a, x12b, x12c, x12d⟩, h11, hh⟩ := hh
   try dsimp only at hh
   have fc := c_impl_TurnEx_L0 hQ h11
   try dsimp only at fc
   refine go_call hF fc ?_
   cbv
   replace hh := bind_some hh
   obtain ⟨x15, h14, hh⟩ := hh
   refine go_call hF (c_impl_TurnEvs_L0 hQ h14) ?_
   cbv
   replace hh := bind_some hh
   obtain ⟨⟨x18a, x18b, x18c, x18d⟩, h17, hh⟩ := hh
   try dsimp only at hh
   have fc := c_spec_TurnEx_L0 hQ h17
   try dsimp only at fc
   refine go_call hF fc ?_
   cbv
   replace hh := bind_some hh
   obtain ⟨x21, h20, hh⟩ := hh
   have fc := c_impl_ExSame_L0_1 hQ h20
   try dsimp only at fc
   refine go_call hF fc ?_
   cbv
   replace hh := if_or hh
   rcases hh with ⟨b23, hh⟩ | ⟨b23, hh⟩
   ·
    have f24 : x21 = true := Tb b23
    have g := f24; cbv at g; try rw [f24]
    try rw [g]
    cbv
    replace hh := bind_some hh
    obtain ⟨x26, h25, hh⟩ := hh
    refine go_call hF (c_spec_TurnEvs_L0 hQ h25) ?_
    cbv
    replace hh := bind_some hh
    obtain ⟨x29, h28, hh⟩ := hh
    refine go_call hF (c_impl_EvsSame_L0_1 hQ h28) ?_
    cbv
    replace hh := if_or hh
    rcases hh with ⟨b31, hh⟩ | ⟨b31, hh⟩
    ·
     have f32 : x29 = true := Tb b31
     have g := f32; cbv at g; try rw [f32]
     try rw [g]
     cbv
     replace hh := bind_some hh
     obtain ⟨x34, h33, hh⟩ := hh
     refine go_call hF (c_impl_TurnBy hQ h33) ?_
     cbv
     replace hh := bind_some hh
     obtain ⟨x37, h36, hh⟩ := hh
     refine go_call hF (c_spec_TurnBy hQ h36) ?_
     cbv
     replace hh := if_or hh
     rcases hh with ⟨b39, hh⟩ | ⟨b39, hh⟩
     ·
      have f40 : x34 = true := Tb b39
      have g := f40; cbv at g; try rw [f40]
      try rw [g]
      cbv
      replace hh := if_or hh
      rcases hh with ⟨b41, hh⟩ | ⟨b41, hh⟩
      ·
       have f42 : x37 = true := Tb b41
       have g := f42; cbv at g; try rw [f42]
       try rw [g]
       cbv
       replace hh := bind_some hh
       obtain ⟨x44, h43, hh⟩ := hh
       have fc := c_spec_ExOk_L0 hQ h43
       try dsimp only at fc
       refine go_call hF fc ?_
       cbv
       replace hh := if_or hh
       rcases hh with ⟨b46, hh⟩ | ⟨b46, hh⟩
       ·
        have f47 : x44 = true := Tb b46
        have g := f47; cbv at g; try rw [f47]
        try rw [g]
        cbv
        replace hh := bind_some hh
        obtain ⟨x49, h48, hh⟩ := hh
        refine go_call hF (c_spec_TurnBy hQ h48) ?_
        cbv
        replace hh := if_or hh
        rcases hh with ⟨b51, hh⟩ | ⟨b51, hh⟩
        ·
         have f52 : x49 = true := Tb b51
         have g := f52; cbv at g; try rw [f52]
         try rw [g]
         cbv
         replace hh := bind_some hh
         obtain ⟨x54, h53, hh⟩ := hh
         refine go_call hF (c_spec_EvsOk_L0 hQ h53) ?_
         cbv
         replace hh := if_or hh
         rcases hh with ⟨b56, hh⟩ | ⟨b56, hh⟩
         ·
          have f57 : x54 = true := Tb b56
          have g := f57; cbv at g; try rw [f57]
          try rw [g]
          cbv
          replace hh := bind_some hh
          obtain ⟨⟨x59_0, x59_1⟩, h58, hh⟩ := hh
          try dsimp only at hh
          have fc := c_impl_MeanOf_L0_2 hQ h58
          try dsimp only at fc
          refine go_call hF fc ?_
          cbv
          replace hh := bind_some hh
          obtain ⟨⟨x62_0, x62_1⟩, h61, hh⟩ := hh
          try dsimp only at hh
          have fc := c_impl_MeanOf_L0_2 hQ h61
          try dsimp only at fc
          refine go_call hF fc ?_
          cbv
          replace hh := if_or hh
          rcases hh with ⟨b64, hh⟩ | ⟨b64, hh⟩
          ·
           have f65 : x59_1 = true := Tb b64
           have g := f65; cbv at g; try rw [f65]
           try rw [g]
           cbv
           replace hh := if_or hh
           rcases hh with ⟨b66, hh⟩ | ⟨b66, hh⟩
           ·
            have f67 : x62_1 = true := Tb b66
            have g := f67; cbv at g; try rw [f67]
            try rw [g]
            cbv
            replace hh := bind_some hh
            obtain ⟨x69, h68, hh⟩ := hh
            refine go_call hF (c_impl_OccsSame_L0_1 hQ h68) ?_
            cbv
            replace hh := if_or hh
            rcases hh with ⟨b71, hh⟩ | ⟨b71, hh⟩
            ·
             have f72 : x69 = true := Tb b71
             have g := f72; cbv at g; try rw [f72]
             try rw [g]
             cbv
             replace hh := bind_some hh
             obtain ⟨x74, h73, hh⟩ := hh
             have fc := c_impl_ExMany_L0 hQ h73
             try dsimp only at fc
             refine go_call hF fc ?_
             cbv
             replace hh := bind_some hh
             obtain ⟨x77, h76, hh⟩ := hh
             have fc := c_impl_ExMany_L0 hQ h76
             try dsimp only at fc
             refine go_call hF fc ?_
             cbv
             replace hh := if_or hh
             rcases hh with ⟨b79, hh⟩ | ⟨b79, hh⟩
             ·
              have f80 : (eq x74 x77) = true := Tb b79
              have g := f80; cbv at g; try rw [f80]
              try rw [g]
              cbv
              replace hh := bind_some hh
              obtain ⟨x82, h81, hh⟩ := hh
              refine go_call hF (c_impl_TurnLate_L0 hQ h81) ?_
              cbv
              replace hh := bind_some hh
              obtain ⟨⟨x85_0, x85_1⟩, h84, hh⟩ := hh
              try dsimp only at hh
              have fc := c_impl_MeanOf_L0_2 hQ h84
              try dsimp only at fc
              refine go_call hF fc ?_
              cbv
              refine bcs (fun f88 => ?_) (fun f88 => ?_)
              ·
               replace hh := ifT hh f88
               try rw [f88]
               cbv
               exact Eb
              ·
               replace hh := ifF hh f88
               try rw [f88]
               cbv
               replace hh := if_or hh
               rcases hh with ⟨b89, hh⟩ | ⟨b89, hh⟩
               ·
                have f90 : x85_1 = true := Tb b89
                have g := f90; cbv at g; try rw [f90]
                try rw [g]
                cbv
                replace hh := bind_some hh
                obtain ⟨x92, h91, hh⟩ := hh
                refine go_call hF (c_impl_TurnOccs_L0 hQ h91) ?_
                cbv
                replace hh := bind_some hh
                obtain ⟨x95, h94, hh⟩ := hh
                refine go_call hF (c_impl_OccsSame_L0_1 hQ h94) ?_
                cbv
                exact Eb
               ·
                have f90 : x85_1 = false := Fb b89
                have g := f90; cbv at g; try rw [f90]
                try rw [g]
                cbv
                exact Eb
             ·
              have f80 : (eq x74 x77) = false := Fb b79
              have g := f80; cbv at g; try rw [f80]
              try rw [g]
              cbv
              exact Eb
            ·
             have f72 : x69 = false := Fb b71
             have g := f72; cbv at g; try rw [f72]
             try rw [g]
             cbv
             exact Eb
           ·
            have f67 : x62_1 = false := Fb b66
            have g := f67; cbv at g; try rw [f67]
            try rw [g]
            cbv
            exact Eb
          ·
           have f65 : x59_1 = false := Fb b64
           have g := f65; cbv at g; try rw [f65]
           try rw [g]
           cbv
           replace hh := if_or hh
           rcases hh with ⟨b97, hh⟩ | ⟨b97, hh⟩
           ·
            have f98 : x62_1 = true := Tb b97
            have g := f98; cbv at g; try rw [f98]
            try rw [g]
            cbv
            exact Eb
           ·
            have f98 : x62_1 = false := Fb b97
            have g := f98; cbv at g; try rw [f98]
            try rw [g]
            cbv
            replace hh := bind_some hh
            obtain ⟨x100, h99, hh⟩ := hh
            refine go_call hF (c_impl_OccsSame_L0_1 hQ h99) ?_
            cbv
            replace hh := if_or hh
            rcases hh with ⟨b102, hh⟩ | ⟨b102, hh⟩
            ·
             have f103 : x100 = true := Tb b102
             have g := f103; cbv at g; try rw [f103]
             try rw [g]
             cbv
             replace hh := bind_some hh
             obtain ⟨x105, h104, hh⟩ := hh
             have fc := c_impl_ExMany_L0 hQ h104
             try dsimp only at fc
             refine go_call hF fc ?_
             cbv
             replace hh := bind_some hh
             obtain ⟨x108, h107, hh⟩ := hh
             have fc := c_impl_ExMany_L0 hQ h107
             try dsimp only at fc
             refine go_call hF fc ?_
             cbv
             replace hh := if_or hh
             rcases hh with ⟨b110, hh⟩ | ⟨b110, hh⟩
             ·
              have f111 : (eq x105 x108) = true := Tb b110
              have g := f111; cbv at g; try rw [f111]
              try rw [g]
              cbv
              replace hh := bind_some hh
              obtain ⟨x113, h112, hh⟩ := hh
              refine go_call hF (c_impl_TurnLate_L0 hQ h112) ?_
              cbv
              replace hh := bind_some hh
              obtain ⟨⟨x116_0, x116_1⟩, h115, hh⟩ := hh
              try dsimp only at hh
              have fc := c_impl_MeanOf_L0_2 hQ h115
              try dsimp only at fc
              refine go_call hF fc ?_
              cbv
              refine bcs (fun f119 => ?_) (fun f119 => ?_)
              ·
               replace hh := ifT hh f119
               try rw [f119]
               cbv
               exact Eb
              ·
               replace hh := ifF hh f119
               try rw [f119]
               cbv
               replace hh := if_or hh
               rcases hh with ⟨b120, hh⟩ | ⟨b120, hh⟩
               ·
                have f121 : x116_1 = true := Tb b120
                have g := f121; cbv at g; try rw [f121]
                try rw [g]
                cbv
                exact Eb
               ·
                have f121 : x116_1 = false := Fb b120
                have g := f121; cbv at g; try rw [f121]
                try rw [g]
                cbv
                replace hh := bind_some hh
                obtain ⟨x123, h122, hh⟩ := hh
                refine go_call hF (c_impl_TurnOccs_L0 hQ h122) ?_
                cbv
                replace hh := bind_some hh
                obtain ⟨x126, h125, hh⟩ := hh
                refine go_call hF (c_impl_OccsSame_L0_1 hQ h125) ?_
                cbv
                exact Eb
             ·
              have f111 : (eq x105 x108) = false := Fb b110
              have g := f111; cbv at g; try rw [f111]
              try rw [g]
              cbv
              exact Eb
            ·
             have f103 : x100 = false := Fb b102
             have g := f103; cbv at g; try rw [f103]
             try rw [g]
             cbv
             exact Eb
         ·
          have f57 : x54 = false := Fb b56
          have g := f57; cbv at g; try rw [f57]
          try rw [g]
          cbv
          exact Eb
        ·
         have f52 : x49 = false := Fb b51
         have g := f52; cbv at g; try rw [f52]
         try rw [g]
         cbv
         exact Eb
       ·
        have f47 : x44 = false := Fb b46
        have g := f47; cbv at g; try rw [f47]
        try rw [g]
        cbv
        exact Eb
      ·
       have f42 : x37 = false := Fb b41
       have g := f42; cbv at g; try rw [f42]
       try rw [g]
       cbv
       exact Eb
     ·
      have f40 : x34 = false := Fb b39
      have g := f40; cbv at g; try rw [f40]
      try rw [g]
      cbv
      replace hh := if_or hh
      rcases hh with ⟨b128, hh⟩ | ⟨b128, hh⟩
      ·
       have f129 : x37 = true := Tb b128
       have g := f129; cbv at g; try rw [f129]
       try rw [g]
       cbv
       exact Eb
      ·
       have f129 : x37 = false := Fb b128
       have g := f129; cbv at g; try rw [f129]
       try rw [g]
       cbv
       replace hh := bind_some hh
       obtain ⟨x131, h130, hh⟩ := hh
       have fc := c_spec_ExOk_L0 hQ h130
       try dsimp only at fc
       refine go_call hF fc ?_
       cbv
       replace hh := if_or hh
       rcases hh with ⟨b133, hh⟩ | ⟨b133, hh⟩
       ·
        have f134 : x131 = true := Tb b133
        have g := f134; cbv at g; try rw [f134]
        try rw [g]
        cbv
        replace hh := bind_some hh
        obtain ⟨x136, h135, hh⟩ := hh
        refine go_call hF (c_spec_TurnBy hQ h135) ?_
        cbv
        replace hh := if_or hh
        rcases hh with ⟨b138, hh⟩ | ⟨b138, hh⟩
        ·
         have f139 : x136 = true := Tb b138
         have g := f139; cbv at g; try rw [f139]
         try rw [g]
         cbv
         replace hh := bind_some hh
         obtain ⟨x141, h140, hh⟩ := hh
         refine go_call hF (c_spec_EvsOk_L0 hQ h140) ?_
         cbv
         replace hh := if_or hh
         rcases hh with ⟨b143, hh⟩ | ⟨b143, hh⟩
         ·
          have f144 : x141 = true := Tb b143
          have g := f144; cbv at g; try rw [f144]
          try rw [g]
          cbv
          replace hh := bind_some hh
          obtain ⟨⟨x146_0, x146_1⟩, h145, hh⟩ := hh
          try dsimp only at hh
          have fc := c_impl_MeanOf_L0_2 hQ h145
          try dsimp only at fc
          refine go_call hF fc ?_
          cbv
          replace hh := bind_some hh
          obtain ⟨⟨x149_0, x149_1⟩, h148, hh⟩ := hh
          try dsimp only at hh
          have fc := c_impl_MeanOf_L0_2 hQ h148
          try dsimp only at fc
          refine go_call hF fc ?_
          cbv
          replace hh := if_or hh
          rcases hh with ⟨b151, hh⟩ | ⟨b151, hh⟩
          ·
           have f152 : x146_1 = true := Tb b151
           have g := f152; cbv at g; try rw [f152]
           try rw [g]
           cbv
           replace hh := if_or hh
           rcases hh with ⟨b153, hh⟩ | ⟨b153, hh⟩
           ·
            have f154 : x149_1 = true := Tb b153
            have g := f154; cbv at g; try rw [f154]
            try rw [g]
            cbv
            replace hh := bind_some hh
            obtain ⟨x156, h155, hh⟩ := hh
            refine go_call hF (c_impl_OccsSame_L0_1 hQ h155) ?_
            cbv
            replace hh := if_or hh
            rcases hh with ⟨b158, hh⟩ | ⟨b158, hh⟩
            ·
             have f159 : x156 = true := Tb b158
             have g := f159; cbv at g; try rw [f159]
             try rw [g]
             cbv
             replace hh := bind_some hh
             obtain ⟨x161, h160, hh⟩ := hh
             have fc := c_impl_ExMany_L0 hQ h160
             try dsimp only at fc
             refine go_call hF fc ?_
             cbv
             replace hh := bind_some hh
             obtain ⟨x164, h163, hh⟩ := hh
             have fc := c_impl_ExMany_L0 hQ h163
             try dsimp only at fc
             refine go_call hF fc ?_
             cbv
             replace hh := if_or hh
             rcases hh with ⟨b166, hh⟩ | ⟨b166, hh⟩
             ·
              have f167 : (eq x161 x164) = true := Tb b166
              have g := f167; cbv at g; try rw [f167]
              try rw [g]
              cbv
              replace hh := bind_some hh
              obtain ⟨x169, h168, hh⟩ := hh
              refine go_call hF (c_impl_TurnLate_L0 hQ h168) ?_
              cbv
              replace hh := bind_some hh
              obtain ⟨⟨x172_0, x172_1⟩, h171, hh⟩ := hh
              try dsimp only at hh
              have fc := c_impl_MeanOf_L0_2 hQ h171
              try dsimp only at fc
              refine go_call hF fc ?_
              cbv
              refine bcs (fun f175 => ?_) (fun f175 => ?_)
              ·
               replace hh := ifT hh f175
               try rw [f175]
               cbv
               exact Eb
              ·
               replace hh := ifF hh f175
               try rw [f175]
               cbv
               replace hh := if_or hh
               rcases hh with ⟨b176, hh⟩ | ⟨b176, hh⟩
               ·
                have f177 : x172_1 = true := Tb b176
                have g := f177; cbv at g; try rw [f177]
                try rw [g]
                cbv
                replace hh := bind_some hh
                obtain ⟨x179, h178, hh⟩ := hh
                refine go_call hF (c_impl_TurnOccs_L0 hQ h178) ?_
                cbv
                replace hh := bind_some hh
                obtain ⟨x182, h181, hh⟩ := hh
                refine go_call hF (c_impl_OccsSame_L0_1 hQ h181) ?_
                cbv
                exact Eb
               ·
                have f177 : x172_1 = false := Fb b176
                have g := f177; cbv at g; try rw [f177]
                try rw [g]
                cbv
                exact Eb
             ·
              have f167 : (eq x161 x164) = false := Fb b166
              have g := f167; cbv at g; try rw [f167]
              try rw [g]
              cbv
              exact Eb
            ·
             have f159 : x156 = false := Fb b158
             have g := f159; cbv at g; try rw [f159]
             try rw [g]
             cbv
             exact Eb
           ·
            have f154 : x149_1 = false := Fb b153
            have g := f154; cbv at g; try rw [f154]
            try rw [g]
            cbv
            exact Eb
          ·
           have f152 : x146_1 = false := Fb b151
           have g := f152; cbv at g; try rw [f152]
           try rw [g]
           cbv
           replace hh := if_or hh
           rcases hh with ⟨b184, hh⟩ | ⟨b184, hh⟩
           ·
            have f185 : x149_1 = true := Tb b184
            have g := f185; cbv at g; try rw [f185]
            try rw [g]
            cbv
            exact Eb
           ·
            have f185 : x149_1 = false := Fb b184
            have g := f185; cbv at g; try rw [f185]
            try rw [g]
            cbv
            replace hh := bind_some hh
            obtain ⟨x187, h186, hh⟩ := hh
            refine go_call hF (c_impl_OccsSame_L0_1 hQ h186) ?_
            cbv
            replace hh := if_or hh
            rcases hh with ⟨b189, hh⟩ | ⟨b189, hh⟩
            ·
             have f190 : x187 = true := Tb b189
             have g := f190; cbv at g; try rw [f190]
             try rw [g]
             cbv
             replace hh := bind_some hh
             obtain ⟨x192, h191, hh⟩ := hh
             have fc := c_impl_ExMany_L0 hQ h191
             try dsimp only at fc
             refine go_call hF fc ?_
             cbv
             replace hh := bind_some hh
             obtain ⟨x195, h194, hh⟩ := hh
             have fc := c_impl_ExMany_L0 hQ h194
             try dsimp only at fc
             refine go_call hF fc ?_
             cbv
             replace hh := if_or hh
             rcases hh with ⟨b197, hh⟩ | ⟨b197, hh⟩
             ·
              have f198 : (eq x192 x195) = true := Tb b197
              have g := f198; cbv at g; try rw [f198]
              try rw [g]
              cbv
              replace hh := bind_some hh
              obtain ⟨x200, h199, hh⟩ := hh
              refine go_call hF (c_impl_TurnLate_L0 hQ h199) ?_
              cbv
              replace hh := bind_some hh
              obtain ⟨⟨x203_0, x203_1⟩, h202, hh⟩ := hh
              try dsimp only at hh
              have fc := c_impl_MeanOf_L0_2 hQ h202
              try dsimp only at fc
              refine go_call hF fc ?_
              cbv
              refine bcs (fun f206 => ?_) (fun f206 => ?_)
              ·
               replace hh := ifT hh f206
               try rw [f206]
               cbv
               exact Eb
              ·
               replace hh := ifF hh f206
               try rw [f206]
               cbv
               replace hh := if_or hh
               rcases hh with ⟨b207, hh⟩ | ⟨b207, hh⟩
               ·
                have f208 : x203_1 = true := Tb b207
                have g := f208; cbv at g; try rw [f208]
                try rw [g]
                cbv
                exact Eb
               ·
                have f208 : x203_1 = false := Fb b207
                have g := f208; cbv at g; try rw [f208]
                try rw [g]
                cbv
                replace hh := bind_some hh
                obtain ⟨x210, h209, hh⟩ := hh
                refine go_call hF (c_impl_TurnOccs_L0 hQ h209) ?_
                cbv
                replace hh := bind_some hh
                obtain ⟨x213, h212, hh⟩ := hh
                refine go_call hF (c_impl_OccsSame_L0_1 hQ h212) ?_
                cbv
                exact Eb
             ·
              have f198 : (eq x192 x195) = false := Fb b197
              have g := f198; cbv at g; try rw [f198]
              try rw [g]
              cbv
              exact Eb
            ·
             have f190 : x187 = false := Fb b189
             have g := f190; cbv at g; try rw [f190]
             try rw [g]
             cbv
             exact Eb
         ·
          have f144 : x141 = false := Fb b143
          have g := f144; cbv at g; try rw [f144]
          try rw [g]
          cbv
          exact Eb
        ·
         have f139 : x136 = false := Fb b138
         have g := f139; cbv at g; try rw [f139]
         try rw [g]
         cbv
         exact Eb
       ·
        have f134 : x131 = false := Fb b133
        have g := f134; cbv at g; try rw [f134]
        try rw [g]
        cbv
        exact Eb
    ·
     have f32 : x29 = false := Fb b31
     have g := f32; cbv at g; try rw [f32]
     try rw [g]
     cbv
     exact Eb
   ·
    have f24 : x21 = false := Fb b23
    have g := f24; cbv at g; try rw [f24]
    try rw [g]
    cbv
    exact Eb

end Go.Proofs.YtdhlbpgjcfdofaaGreat
