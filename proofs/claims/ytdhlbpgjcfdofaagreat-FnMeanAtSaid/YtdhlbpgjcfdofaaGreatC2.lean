/- The functions of this program do what the plain ones do. -/
import Derived.Test.YtdhlbpgjcfdofaaGreatC1
namespace Go.Proofs.YtdhlbpgjcfdofaaGreat
open Go Go.Vm
set_option linter.unusedVariables false
set_option maxHeartbeats 4000000
variable {qIu8 : List Int → Vm.Rows} {qInt : List Int → Vm.Rows} {qGExO : List GEx → Vm.Rows} {qGEx : List GEx → Vm.Rows} {qGEv : List GEv → Vm.Rows} {qGOccO : List GOcc → Vm.Rows} {qGOcc : List GOcc → Vm.Rows} {qLGOccO : List (List GOcc) → Vm.Rows} {qLGOcc : List (List GOcc) → Vm.Rows} {qLInt : List (List Int) → Vm.Rows} {qBool : List Bool → Vm.Rows} (hQ : EQ qIu8 qInt qGExO qGEx qGEv qGOccO qGOcc qLGOccO qLGOcc qLInt qBool)
include hQ
theorem c_impl_pairOf_impl_Pair_seq {k : Nat} {g3 : GPair → Int → (List GOcc) → (List GOcc) → Option (GPair × (List GOcc))} (hg3 : ∀ {y0 : GPair} {y1 : Int} {y2 : List GOcc} {y3 : List GOcc} {r : GPair × (List GOcc)}, g3 y0 y1 y2 y3 = some r → FunW P 148 [.agg [tA (qGOcc y0.Left), tA (qGOcc y0.Right)], iA y1, tA (qGOcc y2), tA (qGOcc y3)] [hA, hA, hA, hA] (.tup [.agg [tA (qGOcc r.1.Left), tA (qGOcc r.1.Right)], tA (qGOcc r.2)])) {p0 : Int} {p1 : List GOcc} {p2 : List GOcc} {r : (List GOcc) × Bool} (hh : impl_pairOf.f g3 k p0 p1 p2 = some r) : FunW P 146 [iA p0, tA (qGOcc p1), tA (qGOcc p2), .clo 148 []] [hA, hA, hA, hA] (.tup [oA 3 (qGOccO r.1), bA r.2]) := by
 unfold impl_pairOf.f at hh
 refine go (ts := [(8, none), (9, none)]) (rm := [.own, .own]) (pm := [.skip, .skip, .skip, .skip]) Tryz.func146 ?_
 intro Fn LW len cast toNat wrap add sub mul bin lt eq At set part app fz' rep nadd nmax ssize sext sget scat seq slt Wide Flat Ones Room r' post' hC hF hr hp
 cbv
 replace hh := bind_some hh
 obtain ⟨x2, h1, hh⟩ := hh
 refine ⟨3, ?_⟩
 cbv
 refine ⟨3, ?_⟩
 cbv
 have fc := c_impl_pairFits_L1 hQ h1
 try dsimp only at fc
 refine go_call hF fc ?_
 cbv
 replace hh := if_or hh
 rcases hh with ⟨b4, hh⟩ | ⟨b4, hh⟩
 ·
  have f5 : x2 = true := Tb b4
  have g := f5; cbv at g; try rw [f5]
  try rw [g]
  cbv
  replace hh := bind_some hh
  obtain ⟨x7, h6, hh⟩ := hh
  refine ⟨Ob, ?_⟩
  refine go_call hF (c_impl_times hQ h6) ?_
  cbv
  replace hh := bind_some hh
  obtain ⟨o1, hl1, hq1⟩ := hh
  refine loop_go4 hC eok mixed (fun n (i : (List GOcc) × (List GOcc) × (List GOcc) × Int) => impl_pairOf.l0 k g3 p0 p1 p2 x7 n i.1 i.2.1 i.2.2.1 i.2.2.2)
   (fun ⟨s26, s27, s28, s29⟩ => (⟨[(0, iA p0), (1, tA (qGOcc p1)), (2, tA (qGOcc p2)), (3, .clo 148 []), (10, .mptr (10, 0) 1 0 0), (11, tA (qGOcc s28)), (25, tA (qInt x7)), (26, iA (cast (len (qInt x7)))), (27, iA s29)], [((10, 0), .box 1 [tA (qGOcc s26), tA (qGOcc s27)])]⟩ : St))
   (fun (x47 : List GOcc) => (⟨[(11, tA (qGOcc x47))], []⟩ : St)) (fun x => x) (.exit 0)
   (i0 := (_, _, _, _)) hl1 (fun _ => rfl) ?_ ?_ ?_
  ·
   rintro ⟨t0, t1, t2, t3⟩ e
   refine cov_of [((10, 0), (10, 0))] ?_
   cbv
   all_goals exact J4
  ·
   rintro x47 hx
   subst o1
   have hh := hq1
   cbv
   replace hh := bind_some hh
   obtain ⟨⟨x66_0, x66_1⟩, h65, hh⟩ := hh
   try dsimp only at hh
   have fc := c_impl_few hQ h65
   try dsimp only at fc
   refine go_call hF fc ?_
   cbv
   exact Eb
  ·
   rintro n ⟨s26, s27, s28, s29⟩ N1 D1 hh hN1 hD1 hQ1
   dsimp only at hh
   unfold impl_pairOf.l0 at hh
   cbv
   refine bcs (fun f49 => ?_) (fun f49 => ?_)
   ·
    replace hh := ifT hh f49
    try rw [f49]
    cbv
    replace hh := req_some hh
    obtain ⟨h50, hh⟩ := hh
    replace hh := bind_some hh
    obtain ⟨e51, h52, hh⟩ := hh
    refine ⟨[iA e51], Nb h50, Gb h52, ?_⟩
    cbv
    replace hh := bind_some hh
    obtain ⟨x54, h53, hh⟩ := hh
    refine go_call hF (c_impl_at hQ h53) ?_
    cbv
    replace hh := bind_some hh
    obtain ⟨x57, h56, hh⟩ := hh
    refine go_call hF (c_impl_at hQ h56) ?_
    cbv
    replace hh := bind_some hh
    obtain ⟨⟨⟨x60_0a, x60_0b⟩, x60_1⟩, h59, hh⟩ := hh
    try dsimp only at hh
    refine ⟨Ob, ?_⟩
    refine ⟨Ob, ?_⟩
    have fc := hg3 h59
    try dsimp only at fc
    refine go_call hF fc ?_
    cbv
    replace hh := bind_some hh
    obtain ⟨x63, h62, hh⟩ := hh
    refine go_call hF (c_impl_putAll hQ h62) ?_
    cbv
    refine hN1 (_, _, _, _) _ hh fun ⟨t0, t1, t2, t3⟩ e => ?_
    refine cov_of [((10, 0), (10, 0))] ?_
    cbv
    all_goals exact J4
   ·
    replace hh := ifF hh f49
    try rw [f49]
    cbv
    refine hD1 _ _ hh fun t0 e => ?_
    refine cov_of [] ?_
    cbv
    all_goals exact J1
 ·
  have f5 : x2 = false := Fb b4
  have g := f5; cbv at g; try rw [f5]
  try rw [g]
  cbv
  refine ⟨3, ?_⟩
  cbv
  exact Eb

theorem c_impl_SeqOf {k : Nat} {p0 : Int} {p1 : List GOcc} {p2 : List GOcc} {r : (List GOcc) × Bool} (hh : impl_SeqOf.f k p0 p1 p2 = some r) : FunW P 120 [iA p0, tA (qGOcc p1), tA (qGOcc p2)] [hA, hA, hA] (.tup [oA 3 (qGOccO r.1), bA r.2]) := by
 unfold impl_SeqOf.f at hh
 refine go (ts := [(6, none), (7, none)]) (rm := [.own, .own]) (pm := [.skip, .skip, .skip]) Tryz.func120 ?_
 intro Fn LW len cast toNat wrap add sub mul bin lt eq At set part app fz' rep nadd nmax ssize sext sget scat seq slt Wide Flat Ones Room r' post' hC hF hr hp
 cbv
 replace hh := bind_some hh
 obtain ⟨⟨x2_0, x2_1⟩, h1, hh⟩ := hh
 try dsimp only at hh
 have fc := c_impl_pairOf_impl_Pair_seq hQ (g3 := fun y0 y1 y2 y3 => impl_Pair_seq.f k y0 y1 y2 y3) (fun h => c_impl_Pair_seq hQ h) h1
 try dsimp only at fc
 refine go_call hF fc ?_
 cbv
 exact Eb

theorem c_impl_Span_open_1_1 {p0 : GOcc} {c0 : GOcc} {c1 : GOcc} {r : Bool} (hh : impl_Span_open_1_1.f p0 c0 c1 = some r) : FunW P 206 [.agg [iA p0.From, iA p0.To, tA (qInt p0.Ids)], .iptr [iA c0.From, iA c0.To, tA (qInt c0.Ids)] 0, .iptr [iA c1.From, iA c1.To, tA (qInt c1.Ids)] 0] [hA, hA, hA] (bA r) := by
 obtain ⟨p0a, p0b, p0c⟩ := p0
 obtain ⟨c0a, c0b, c0c⟩ := c0
 obtain ⟨c1a, c1b, c1c⟩ := c1
 unfold impl_Span_open_1_1.f at hh
 refine go (ts := [(4, none)]) (rm := [.own]) (pm := [.skip, .skip, .skip]) Tryz.func206 ?_
 intro Fn LW len cast toNat wrap add sub mul bin lt eq At set part app fz' rep nadd nmax ssize sext sget scat seq slt Wide Flat Ones Room r' post' hC hF hr hp
 cbv
 refine bcs (fun f2 => ?_) (fun f2 => ?_)
 ·
  replace hh := ifT hh f2
  try rw [f2]
  cbv
  exact Eb
 ·
  replace hh := ifF hh f2
  try rw [f2]
  cbv
  exact Eb

theorem c_slices_IndexFunc_2_impl_Span_open_1_1 {k : Nat} {g1 : GOcc → Option Bool} {cp1_0 : GOcc} {cp1_1 : GOcc} (hg1 : ∀ {y0 : GOcc} {r : Bool}, g1 y0 = some r → FunW P 206 [.agg [iA y0.From, iA y0.To, tA (qInt y0.Ids)], .iptr [iA cp1_0.From, iA cp1_0.To, tA (qInt cp1_0.Ids)] 0, .iptr [iA cp1_1.From, iA cp1_1.To, tA (qInt cp1_1.Ids)] 0] [hA, hA, hA] (bA r)) {p0 : List GOcc} {r : Int} (hh : slices_IndexFunc_2.f g1 k p0 = some r) : FunW P 216 [tA (qGOcc p0), .clo 206 [.iptr [iA cp1_0.From, iA cp1_0.To, tA (qInt cp1_0.Ids)] 0, .iptr [iA cp1_1.From, iA cp1_1.To, tA (qInt cp1_1.Ids)] 0]] [hA, hA] (iA r) := by
 obtain ⟨cp1_0a, cp1_0b, cp1_0c⟩ := cp1_0
 obtain ⟨cp1_1a, cp1_1b, cp1_1c⟩ := cp1_1
 unfold slices_IndexFunc_2.f at hh
 refine go (ts := [(4, none)]) (rm := [.own]) (pm := [.skip, .skip]) Tryz.func216 ?_
 intro Fn LW len cast toNat wrap add sub mul bin lt eq At set part app fz' rep nadd nmax ssize sext sget scat seq slt Wide Flat Ones Room r' post' hC hF hr hp
 cbv
 replace hh := bind_some hh
 obtain ⟨o1, hl1, hq1⟩ := hh
 refine loop_go4 hC eok mixed (slices_IndexFunc_2.l0 k g1 p0)
  (fun s11 => (⟨[(0, tA (qGOcc p0)), (1, .clo 206 [.iptr [iA cp1_0a, iA cp1_0b, tA (qInt cp1_0c)] 0, .iptr [iA cp1_1a, iA cp1_1b, tA (qInt cp1_1c)] 0]), (7, iA (cast (len (qGOcc p0)))), (8, iA s11)], []⟩ : St))
  (fun (_ : Unit) => (⟨[], []⟩ : St)) .ok (.exit 0)
  (i0 := _) hl1 (fun _ => rfl) ?_ ?_ ?_
 ·
  rintro t0 e
  refine cov_of [] ?_
  cbv
  all_goals exact J1
 ·
  rintro _ hx
  subst o1
  have hh := hq1
  cbv
  exact Eb
 ·
  rintro n s11 N1 D1 hh hN1 hD1 hQ1
  unfold slices_IndexFunc_2.l0 at hh
  cbv
  refine bcs (fun f23 => ?_) (fun f23 => ?_)
  ·
   replace hh := ifT hh f23
   try rw [f23]
   cbv
   replace hh := req_some hh
   obtain ⟨h24, hh⟩ := hh
   replace hh := bind_some hh
   obtain ⟨⟨e25a, e25b, e25c⟩, h26, hh⟩ := hh
   try dsimp only at hh
   refine ⟨[iA e25a, iA e25b, tA (qInt e25c)], Nb h24, Gb h26, ?_⟩
   cbv
   replace hh := bind_some hh
   obtain ⟨x28, h27, hh⟩ := hh
   refine go_call hF (hg1 h27) ?_
   cbv
   refine bcs (fun f31 => ?_) (fun f31 => ?_)
   ·
    replace hh := ifT hh f31
    try rw [f31]
    cbv
    cases hh
    have hh : some _ = some _ := hq1
    refine hQ1 _ _ ?_
    cbv
    exact Eb
   ·
    replace hh := ifF hh f31
    try rw [f31]
    cbv
    refine hN1 _ _ hh fun t0 e => ?_
    refine cov_of [] ?_
    cbv
    all_goals exact J1
  ·
   replace hh := ifF hh f23
   try rw [f23]
   cbv
   refine hD1 () _ hh fun _ e => ?_
   refine cov_of [] ?_
   cbv
   all_goals exact J0

theorem c_slices_ContainsFunc_2_impl_Span_open_1_1 {k : Nat} {g1 : GOcc → Option Bool} {cp1_0 : GOcc} {cp1_1 : GOcc} (hg1 : ∀ {y0 : GOcc} {r : Bool}, g1 y0 = some r → FunW P 206 [.agg [iA y0.From, iA y0.To, tA (qInt y0.Ids)], .iptr [iA cp1_0.From, iA cp1_0.To, tA (qInt cp1_0.Ids)] 0, .iptr [iA cp1_1.From, iA cp1_1.To, tA (qInt cp1_1.Ids)] 0] [hA, hA, hA] (bA r)) {p0 : List GOcc} {r : Bool} (hh : slices_ContainsFunc_2.f g1 k p0 = some r) : FunW P 205 [tA (qGOcc p0), .clo 206 [.iptr [iA cp1_0.From, iA cp1_0.To, tA (qInt cp1_0.Ids)] 0, .iptr [iA cp1_1.From, iA cp1_1.To, tA (qInt cp1_1.Ids)] 0]] [hA, hA] (bA r) := by
 obtain ⟨cp1_0a, cp1_0b, cp1_0c⟩ := cp1_0
 obtain ⟨cp1_1a, cp1_1b, cp1_1c⟩ := cp1_1
 unfold slices_ContainsFunc_2.f at hh
 refine go (ts := [(4, none)]) (rm := [.own]) (pm := [.skip, .skip]) Tryz.func205 ?_
 intro Fn LW len cast toNat wrap add sub mul bin lt eq At set part app fz' rep nadd nmax ssize sext sget scat seq slt Wide Flat Ones Room r' post' hC hF hr hp
 cbv
 replace hh := bind_some hh
 obtain ⟨x2, h1, hh⟩ := hh
 refine go_call hF (c_slices_IndexFunc_2_impl_Span_open_1_1 hQ (g1 := g1) hg1 h1) ?_
 cbv
 exact Eb

theorem c_impl_Span_open_1 {k : Nat} {p0 : GOcc} {c0 : GOcc} {c1 : GSpan} {r : Bool} (hh : impl_Span_open_1.f k p0 c0 c1 = some r) : FunW P 204 [.agg [iA p0.From, iA p0.To, tA (qInt p0.Ids)], .iptr [iA c0.From, iA c0.To, tA (qInt c0.Ids)] 0, .iptr [tA (qGOcc c1.Left), tA (qGOcc c1.Mid)] 0] [hA, hA, hA] (bA r) := by
 obtain ⟨p0a, p0b, p0c⟩ := p0
 obtain ⟨c0a, c0b, c0c⟩ := c0
 obtain ⟨c1a, c1b⟩ := c1
 unfold impl_Span_open_1.f at hh
 refine go (ts := [(4, none)]) (rm := [.own]) (pm := [.skip, .skip, .skip]) Tryz.func204 ?_
 intro Fn LW len cast toNat wrap add sub mul bin lt eq At set part app fz' rep nadd nmax ssize sext sget scat seq slt Wide Flat Ones Room r' post' hC hF hr hp
 cbv
 refine bcs (fun f2 => ?_) (fun f2 => ?_)
 ·
  replace hh := ifT hh f2
  try rw [f2]
  cbv
  replace hh := bind_some hh
  obtain ⟨x4, h3, hh⟩ := hh
  refine go_call hF (c_slices_ContainsFunc_2_impl_Span_open_1_1 hQ (g1 := fun y0 => impl_Span_open_1_1.f y0 ((⟨p0a, p0b, p0c⟩ : GOcc)) ((⟨c0a, c0b, c0c⟩ : GOcc))) (fun h => c_impl_Span_open_1_1 hQ h) h3) ?_
  cbv
  exact Eb
 ·
  replace hh := ifF hh f2
  try rw [f2]
  cbv
  exact Eb

theorem c_impl_those_impl_Span_open_1 {k : Nat} {g1 : GOcc → Option Bool} {cp1_0 : GOcc} {cp1_1 : GSpan} (hg1 : ∀ {y0 : GOcc} {r : Bool}, g1 y0 = some r → FunW P 204 [.agg [iA y0.From, iA y0.To, tA (qInt y0.Ids)], .iptr [iA cp1_0.From, iA cp1_0.To, tA (qInt cp1_0.Ids)] 0, .iptr [tA (qGOcc cp1_1.Left), tA (qGOcc cp1_1.Mid)] 0] [hA, hA, hA] (bA r)) {p0 : List GOcc} {r : List GOcc} (hh : impl_those.f g1 k p0 = some r) : FunW P 105 [tA (qGOcc p0), .clo 204 [.iptr [iA cp1_0.From, iA cp1_0.To, tA (qInt cp1_0.Ids)] 0, .iptr [tA (qGOcc cp1_1.Left), tA (qGOcc cp1_1.Mid)] 0]] [hA, hA] (oA 3 (qGOcc r)) := by
 obtain ⟨cp1_0a, cp1_0b, cp1_0c⟩ := cp1_0
 obtain ⟨cp1_1a, cp1_1b⟩ := cp1_1
 unfold impl_those.f at hh
 refine go (ts := [(4, none)]) (rm := [.own]) (pm := [.skip, .skip]) Tryz.func105 ?_
 intro Fn LW len cast toNat wrap add sub mul bin lt eq At set part app fz' rep nadd nmax ssize sext sget scat seq slt Wide Flat Ones Room r' post' hC hF hr hp
 cbv
 replace hh := bind_some hh
 obtain ⟨o1, hl1, hq1⟩ := hh
 refine loop_go4 hC eok mixed (fun n (i : (List GOcc) × Int) => impl_those.l0 k g1 p0 n i.1 i.2)
  (fun ⟨s12, s13⟩ => (⟨[(1, .clo 204 [.iptr [iA cp1_0a, iA cp1_0b, tA (qInt cp1_0c)] 0, .iptr [tA (qGOcc cp1_1a), tA (qGOcc cp1_1b)] 0]), (5, .ref (5, 50) 1 0 (len (qGOcc s12))), (8, tA (qGOcc p0)), (9, iA (cast (len (qGOcc p0)))), (10, iA s13)], [((5, 50), .arr 1 3 (qGOcc s12))]⟩ : St))
  (fun (x25 : List GOcc) => (⟨[(5, .ref (5, 50) 1 0 (len (qGOcc x25)))], [((5, 50), .arr 1 3 (qGOcc x25))]⟩ : St)) (fun x => x) (.exit 0)
  (i0 := (_, _)) hl1 (fun _ => rfl) ?_ ?_ ?_
 ·
  rintro ⟨t0, t1⟩ e
  refine cov_of [] ?_
  cbv
  all_goals exact J2
 ·
  rintro x25 hx
  subst o1
  have hh := hq1
  cbv
  exact Eb
 ·
  rintro n ⟨s12, s13⟩ N1 D1 hh hN1 hD1 hQ1
  dsimp only at hh
  unfold impl_those.l0 at hh
  cbv
  refine bcs (fun f27 => ?_) (fun f27 => ?_)
  ·
   replace hh := ifT hh f27
   try rw [f27]
   cbv
   replace hh := req_some hh
   obtain ⟨h28, hh⟩ := hh
   replace hh := bind_some hh
   obtain ⟨⟨e29a, e29b, e29c⟩, h30, hh⟩ := hh
   try dsimp only at hh
   refine ⟨[iA e29a, iA e29b, tA (qInt e29c)], Nb h28, Gb h30, ?_⟩
   cbv
   replace hh := bind_some hh
   obtain ⟨x32, h31, hh⟩ := hh
   refine go_call hF (hg1 h31) ?_
   cbv
   refine bcs (fun f35 => ?_) (fun f35 => ?_)
   ·
    replace hh := ifT hh f35
    try rw [f35]
    cbv
    replace hh := req_some hh
    obtain ⟨h36, hh⟩ := hh
    refine ⟨⟨Ob, Ab⟩, ?_⟩
    refine ⟨⟨Ob, Wb h36⟩, ?_⟩
    refine hN1 (_, _) _ hh fun ⟨t0, t1⟩ e => ?_
    refine cov_of [((5, 50), (20, 0))] ?_
    cbv
    all_goals exact J2
   ·
    replace hh := ifF hh f35
    try rw [f35]
    cbv
    refine hN1 (_, _) _ hh fun ⟨t0, t1⟩ e => ?_
    refine cov_of [((5, 50), (5, 50))] ?_
    cbv
    all_goals exact J2
  ·
   replace hh := ifF hh f27
   try rw [f27]
   cbv
   refine hD1 _ _ hh fun t0 e => ?_
   refine cov_of [((5, 50), (5, 50))] ?_
   cbv
   all_goals exact J1

theorem c_impl_Span_open {k : Nat} {p0 : GSpan} {p1 : GOcc} {r : List GOcc} (hh : impl_Span_open.f k p0 p1 = some r) : FunW P 183 [.agg [tA (qGOcc p0.Left), tA (qGOcc p0.Mid)], .agg [iA p1.From, iA p1.To, tA (qInt p1.Ids)]] [hA, hA] (oA 3 (qGOcc r)) := by
 obtain ⟨p0a, p0b⟩ := p0
 obtain ⟨p1a, p1b, p1c⟩ := p1
 unfold impl_Span_open.f at hh
 refine go (ts := [(4, none)]) (rm := [.own]) (pm := [.skip, .skip]) Tryz.func183 ?_
 intro Fn LW len cast toNat wrap add sub mul bin lt eq At set part app fz' rep nadd nmax ssize sext sget scat seq slt Wide Flat Ones Room r' post' hC hF hr hp
 cbv
 replace hh := bind_some hh
 obtain ⟨x2, h1, hh⟩ := hh
 refine go_call hF (c_impl_those_impl_Span_open_1 hQ (g1 := fun y0 => impl_Span_open_1.f k y0 ((⟨p1a, p1b, p1c⟩ : GOcc)) ((⟨p0a, p0b⟩ : GSpan))) (fun h => c_impl_Span_open_1 hQ h) h1) ?_
 cbv
 exact Eb

theorem c_impl_Span_not {k : Nat} {p0 : GSpan} {p1 : Int} {p2 : List GOcc} {p3 : List GOcc} {p4 : List GOcc} {r : GSpan × (List GOcc)} (hh : impl_Span_not.f k p0 p1 p2 p3 p4 = some r) : FunW P 150 [.agg [tA (qGOcc p0.Left), tA (qGOcc p0.Mid)], iA p1, tA (qGOcc p2), tA (qGOcc p3), tA (qGOcc p4)] [hA, hA, hA, hA, hA] (.tup [.agg [tA (qGOcc r.1.Left), tA (qGOcc r.1.Mid)], tA (qGOcc r.2)]) := by
 obtain ⟨p0a, p0b⟩ := p0
 unfold impl_Span_not.f at hh
 refine go (ts := [(10, some 148), (11, none)]) (rm := [.val, .val]) (pm := [.skip, .skip, .skip, .skip, .skip]) Tryz.func150 ?_
 intro Fn LW len cast toNat wrap add sub mul bin lt eq At set part app fz' rep nadd nmax ssize sext sget scat seq slt Wide Flat Ones Room r' post' hC hF hr hp
 cbv
 replace hh := bind_some hh
 obtain ⟨o1, hl1, hq1⟩ := hh
 refine loop_go4 hC eok mixed (fun n (i : (List GOcc) × (List GOcc) × Int) => impl_Span_not.l0 k (⟨p0a, p0b⟩ : GSpan) p1 p4 n i.1 i.2.1 i.2.2)
  (fun ⟨s18, s19, s20⟩ => (⟨[(1, iA p1), (2, tA (qGOcc p2)), (3, tA (qGOcc p3)), (5, .mptr (5, 0) 1 0 0), (10, .mptr (10, 0) 1 0 0), (12, tA (qGOcc s19)), (17, tA (qGOcc p4)), (18, iA (cast (len (qGOcc p4)))), (19, iA s20)], [((5, 0), .box 1 [tA (qGOcc s18), tA (qGOcc p0b)]), ((10, 0), .box 1 [.lit (.slice none 0 0), .lit (.slice none 0 0)])]⟩ : St))
  (fun (⟨x38, x39⟩ : (List GOcc) × (List GOcc)) => (⟨[(2, tA (qGOcc p2)), (3, tA (qGOcc p3)), (5, .mptr (5, 0) 1 0 0), (10, .mptr (10, 0) 1 0 0), (12, tA (qGOcc x39))], [((5, 0), .box 1 [tA (qGOcc x38), tA (qGOcc p0b)]), ((10, 0), .box 1 [.lit (.slice none 0 0), .lit (.slice none 0 0)])]⟩ : St)) (fun x => x) (.exit 0)
  (i0 := (_, _, _)) hl1 (fun _ => rfl) ?_ ?_ ?_
 ·
  rintro ⟨t0, t1, t2⟩ e
  refine cov_of [((5, 0), (5, 0)), ((10, 0), (10, 0))] ?_
  cbv
  all_goals exact J3
 ·
  rintro ⟨x38, x39⟩ hx
  subst o1
  have hh := hq1
  cbv
  replace hh := bind_some hh
  obtain ⟨x58, h57, hh⟩ := hh
  refine go_call hF (c_impl_putAll hQ h57) ?_
  cbv
  replace hh := bind_some hh
  obtain ⟨x61, h60, hh⟩ := hh
  refine go_call hF (c_impl_putAll hQ h60) ?_
  cbv
  exact Eb
 ·
  rintro n ⟨s18, s19, s20⟩ N1 D1 hh hN1 hD1 hQ1
  dsimp only at hh
  unfold impl_Span_not.l0 at hh
  cbv
  refine bcs (fun f41 => ?_) (fun f41 => ?_)
  ·
   replace hh := ifT hh f41
   try rw [f41]
   cbv
   replace hh := req_some hh
   obtain ⟨h42, hh⟩ := hh
   replace hh := bind_some hh
   obtain ⟨⟨e43a, e43b, e43c⟩, h44, hh⟩ := hh
   try dsimp only at hh
   refine ⟨[iA e43a, iA e43b, tA (qInt e43c)], Nb h42, Gb h44, ?_⟩
   cbv
   replace hh := bind_some hh
   obtain ⟨x46, h45, hh⟩ := hh
   refine go_call hF (c_impl_Span_open hQ h45) ?_
   cbv
   replace hh := bind_some hh
   obtain ⟨⟨x49_0, x49_1⟩, h48, hh⟩ := hh
   try dsimp only at hh
   refine ⟨Ob, ?_⟩
   have fc := c_impl_combine hQ h48
   try dsimp only at fc
   refine go_call hF fc ?_
   cbv
   replace hh := bind_some hh
   obtain ⟨x52, h51, hh⟩ := hh
   refine go_call hF (c_impl_putAll hQ h51) ?_
   cbv
   replace hh := bind_some hh
   obtain ⟨x55, h54, hh⟩ := hh
   refine go_call hF (FunW.frz (r' := tA (qGOcc x55)) (c_impl_without hQ h54) (by cases hQ; simp)) ?_
   cbv
   refine hN1 (_, _, _) _ hh fun ⟨t0, t1, t2⟩ e => ?_
   refine cov_of [((5, 0), (5, 0)), ((10, 0), (10, 0))] ?_
   cbv
   all_goals exact J3
  ·
   replace hh := ifF hh f41
   try rw [f41]
   cbv
   refine hD1 (_, _) _ hh fun ⟨t0, t1⟩ e => ?_
   refine cov_of [((5, 0), (5, 0)), ((10, 0), (10, 0))] ?_
   cbv
   all_goals exact J2

theorem c_impl_SpanOk {k : Nat} {p0 : GSpan} {r : Bool} (hh : impl_SpanOk.f k p0 = some r) : FunW P 203 [.agg [tA (qGOcc p0.Left), tA (qGOcc p0.Mid)]] [hA] (bA r) := by
 obtain ⟨p0a, p0b⟩ := p0
 unfold impl_SpanOk.f at hh
 refine go (ts := [(2, none)]) (rm := [.own]) (pm := [.skip]) Tryz.func203 ?_
 intro Fn LW len cast toNat wrap add sub mul bin lt eq At set part app fz' rep nadd nmax ssize sext sget scat seq slt Wide Flat Ones Room r' post' hC hF hr hp
 cbv
 replace hh := bind_some hh
 obtain ⟨x2, h1, hh⟩ := hh
 refine go_call hF (c_impl_OccsOk hQ h1) ?_
 cbv
 refine bcs (fun f5 => ?_) (fun f5 => ?_)
 ·
  replace hh := ifT hh f5
  try rw [f5]
  cbv
  replace hh := bind_some hh
  obtain ⟨x7, h6, hh⟩ := hh
  refine go_call hF (c_impl_OccsOk hQ h6) ?_
  cbv
  exact Eb
 ·
  replace hh := ifF hh f5
  try rw [f5]
  cbv
  exact Eb

theorem c_impl_spanFits {k : Nat} {p0 : Int} {p1 : GSpan} {p2 : List GOcc} {p3 : List GOcc} {p4 : List GOcc} {r : Bool} (hh : impl_spanFits.f k p0 p1 p2 p3 p4 = some r) : FunW P 182 [iA p0, .agg [tA (qGOcc p1.Left), tA (qGOcc p1.Mid)], tA (qGOcc p2), tA (qGOcc p3), tA (qGOcc p4)] [hA, hA, hA, hA, hA] (bA r) := by
 obtain ⟨p1a, p1b⟩ := p1
 unfold impl_spanFits.f at hh
 refine go (ts := [(10, none)]) (rm := [.own]) (pm := [.skip, .skip, .skip, .skip, .skip]) Tryz.func182 ?_
 intro Fn LW len cast toNat wrap add sub mul bin lt eq At set part app fz' rep nadd nmax ssize sext sget scat seq slt Wide Flat Ones Room r' post' hC hF hr hp
 cbv
 replace hh := bind_some hh
 obtain ⟨x2, h1, hh⟩ := hh
 refine go_call hF (c_impl_isMode hQ h1) ?_
 cbv
 refine bcs (fun f5 => ?_) (fun f5 => ?_)
 ·
  replace hh := ifT hh f5
  try rw [f5]
  cbv
  replace hh := bind_some hh
  obtain ⟨x7, h6, hh⟩ := hh
  refine go_call hF (c_impl_SpanOk hQ h6) ?_
  cbv
  refine bcs (fun f10 => ?_) (fun f10 => ?_)
  ·
   replace hh := ifT hh f10
   try rw [f10]
   cbv
   replace hh := bind_some hh
   obtain ⟨x12, h11, hh⟩ := hh
   refine go_call hF (c_impl_OccsOk hQ h11) ?_
   cbv
   refine bcs (fun f15 => ?_) (fun f15 => ?_)
   ·
    replace hh := ifT hh f15
    try rw [f15]
    cbv
    replace hh := bind_some hh
    obtain ⟨x17, h16, hh⟩ := hh
    refine go_call hF (c_impl_OccsOk hQ h16) ?_
    cbv
    refine bcs (fun f20 => ?_) (fun f20 => ?_)
    ·
     replace hh := ifT hh f20
     try rw [f20]
     cbv
     replace hh := bind_some hh
     obtain ⟨x22, h21, hh⟩ := hh
     refine go_call hF (c_impl_OccsOk hQ h21) ?_
     cbv
     exact Eb
    ·
     replace hh := ifF hh f20
     try rw [f20]
     cbv
     exact Eb
   ·
    replace hh := ifF hh f15
    try rw [f15]
    cbv
    exact Eb
  ·
   replace hh := ifF hh f10
   try rw [f10]
   cbv
   exact Eb
 ·
  replace hh := ifF hh f5
  try rw [f5]
  cbv
  exact Eb
theorem c_impl_spanFits_L1 {k : Nat} {p0 : Int} {p1 : GSpan} {p2 : List GOcc} {p3 : List GOcc} {p4 : List GOcc} {r : Bool} (hh : impl_spanFits.f k p0 p1 p2 p3 p4 = some r) : FunW P 182 [iA p0, .agg [oA 3 (qGOccO p1.Left), oA 3 (qGOccO p1.Mid)], tA (qGOcc p2), tA (qGOcc p3), tA (qGOcc p4)] [hA, .agg [oA 3 (qGOccO p1.Left), oA 3 (qGOccO p1.Mid)], hA, hA, hA] (bA r) := by
  cases hQ; exact (c_impl_spanFits .mk hh).lend (rfl) (.same rfl (.lend (by simp) (.same rfl (.same rfl (.same rfl .nil)))))

theorem c_impl_spanOf_impl_Span_not {k : Nat} {g4 : GSpan → Int → (List GOcc) → (List GOcc) → (List GOcc) → Option (GSpan × (List GOcc))} (hg4 : ∀ {y0 : GSpan} {y1 : Int} {y2 : List GOcc} {y3 : List GOcc} {y4 : List GOcc} {r : GSpan × (List GOcc)}, g4 y0 y1 y2 y3 y4 = some r → FunW P 150 [.agg [tA (qGOcc y0.Left), tA (qGOcc y0.Mid)], iA y1, tA (qGOcc y2), tA (qGOcc y3), tA (qGOcc y4)] [hA, hA, hA, hA, hA] (.tup [.agg [tA (qGOcc r.1.Left), tA (qGOcc r.1.Mid)], tA (qGOcc r.2)])) {p0 : Int} {p1 : List GOcc} {p2 : List GOcc} {p3 : List GOcc} {r : (List GOcc) × Bool} (hh : impl_spanOf.f g4 k p0 p1 p2 p3 = some r) : FunW P 149 [iA p0, tA (qGOcc p1), tA (qGOcc p2), tA (qGOcc p3), .clo 150 []] [hA, hA, hA, hA, hA] (.tup [oA 3 (qGOccO r.1), bA r.2]) := by
 unfold impl_spanOf.f at hh
 refine go (ts := [(10, none), (11, none)]) (rm := [.own, .own]) (pm := [.skip, .skip, .skip, .skip, .skip]) Tryz.func149 ?_
 intro Fn LW len cast toNat wrap add sub mul bin lt eq At set part app fz' rep nadd nmax ssize sext sget scat seq slt Wide Flat Ones Room r' post' hC hF hr hp
 cbv
 replace hh := bind_some hh
 obtain ⟨x2, h1, hh⟩ := hh
 refine ⟨3, ?_⟩
 cbv
 refine ⟨3, ?_⟩
 cbv
 have fc := c_impl_spanFits_L1 hQ h1
 try dsimp only at fc
 refine go_call hF fc ?_
 cbv
 replace hh := if_or hh
 rcases hh with ⟨b4, hh⟩ | ⟨b4, hh⟩
 ·
  have f5 : x2 = true := Tb b4
  have g := f5; cbv at g; try rw [f5]
  try rw [g]
  cbv
  replace hh := bind_some hh
  obtain ⟨x7, h6, hh⟩ := hh
  refine ⟨Ob, ?_⟩
  refine go_call hF (c_impl_times hQ h6) ?_
  cbv
  replace hh := bind_some hh
  obtain ⟨o1, hl1, hq1⟩ := hh
  refine loop_go4 hC eok mixed (fun n (i : (List GOcc) × (List GOcc) × (List GOcc) × Int) => impl_spanOf.l0 k g4 p0 p1 p2 p3 x7 n i.1 i.2.1 i.2.2.1 i.2.2.2)
   (fun ⟨s29, s30, s31, s32⟩ => (⟨[(0, iA p0), (1, tA (qGOcc p1)), (2, tA (qGOcc p2)), (3, tA (qGOcc p3)), (4, .clo 150 []), (12, .mptr (12, 0) 1 0 0), (13, tA (qGOcc s31)), (29, tA (qInt x7)), (30, iA (cast (len (qInt x7)))), (31, iA s32)], [((12, 0), .box 1 [tA (qGOcc s29), tA (qGOcc s30)])]⟩ : St))
   (fun (x53 : List GOcc) => (⟨[(13, tA (qGOcc x53))], []⟩ : St)) (fun x => x) (.exit 0)
   (i0 := (_, _, _, _)) hl1 (fun _ => rfl) ?_ ?_ ?_
  ·
   rintro ⟨t0, t1, t2, t3⟩ e
   refine cov_of [((12, 0), (12, 0))] ?_
   cbv
   all_goals exact J4
  ·
   rintro x53 hx
   subst o1
   have hh := hq1
   cbv
   replace hh := bind_some hh
   obtain ⟨⟨x75_0, x75_1⟩, h74, hh⟩ := hh
   try dsimp only at hh
   have fc := c_impl_few hQ h74
   try dsimp only at fc
   refine go_call hF fc ?_
   cbv
   exact Eb
  ·
   rintro n ⟨s29, s30, s31, s32⟩ N1 D1 hh hN1 hD1 hQ1
   dsimp only at hh
   unfold impl_spanOf.l0 at hh
   cbv
   refine bcs (fun f55 => ?_) (fun f55 => ?_)
   ·
    replace hh := ifT hh f55
    try rw [f55]
    cbv
    replace hh := req_some hh
    obtain ⟨h56, hh⟩ := hh
    replace hh := bind_some hh
    obtain ⟨e57, h58, hh⟩ := hh
    refine ⟨[iA e57], Nb h56, Gb h58, ?_⟩
    cbv
    replace hh := bind_some hh
    obtain ⟨x60, h59, hh⟩ := hh
    refine go_call hF (c_impl_at hQ h59) ?_
    cbv
    replace hh := bind_some hh
    obtain ⟨x63, h62, hh⟩ := hh
    refine go_call hF (c_impl_at hQ h62) ?_
    cbv
    replace hh := bind_some hh
    obtain ⟨x66, h65, hh⟩ := hh
    refine go_call hF (c_impl_at hQ h65) ?_
    cbv
    replace hh := bind_some hh
    obtain ⟨⟨⟨x69_0a, x69_0b⟩, x69_1⟩, h68, hh⟩ := hh
    try dsimp only at hh
    refine ⟨Ob, ?_⟩
    refine ⟨Ob, ?_⟩
    refine ⟨Ob, ?_⟩
    have fc := hg4 h68
    try dsimp only at fc
    refine go_call hF fc ?_
    cbv
    replace hh := bind_some hh
    obtain ⟨x72, h71, hh⟩ := hh
    refine go_call hF (c_impl_putAll hQ h71) ?_
    cbv
    refine hN1 (_, _, _, _) _ hh fun ⟨t0, t1, t2, t3⟩ e => ?_
    refine cov_of [((12, 0), (12, 0))] ?_
    cbv
    all_goals exact J4
   ·
    replace hh := ifF hh f55
    try rw [f55]
    cbv
    refine hD1 _ _ hh fun t0 e => ?_
    refine cov_of [] ?_
    cbv
    all_goals exact J1
 ·
  have f5 : x2 = false := Fb b4
  have g := f5; cbv at g; try rw [f5]
  try rw [g]
  cbv
  refine ⟨3, ?_⟩
  cbv
  exact Eb

theorem c_impl_NotOf {k : Nat} {p0 : Int} {p1 : List GOcc} {p2 : List GOcc} {p3 : List GOcc} {r : (List GOcc) × Bool} (hh : impl_NotOf.f k p0 p1 p2 p3 = some r) : FunW P 121 [iA p0, tA (qGOcc p1), tA (qGOcc p2), tA (qGOcc p3)] [hA, hA, hA, hA] (.tup [oA 3 (qGOccO r.1), bA r.2]) := by
 unfold impl_NotOf.f at hh
 refine go (ts := [(8, none), (9, none)]) (rm := [.own, .own]) (pm := [.skip, .skip, .skip, .skip]) Tryz.func121 ?_
 intro Fn LW len cast toNat wrap add sub mul bin lt eq At set part app fz' rep nadd nmax ssize sext sget scat seq slt Wide Flat Ones Room r' post' hC hF hr hp
 cbv
 replace hh := bind_some hh
 obtain ⟨⟨x2_0, x2_1⟩, h1, hh⟩ := hh
 try dsimp only at hh
 have fc := c_impl_spanOf_impl_Span_not hQ (g4 := fun y0 y1 y2 y3 y4 => impl_Span_not.f k y0 y1 y2 y3 y4) (fun h => c_impl_Span_not hQ h) h1
 try dsimp only at fc
 refine go_call hF fc ?_
 cbv
 exact Eb

theorem c_impl_Span_each {k : Nat} {p0 : GSpan} {p1 : Int} {p2 : List GOcc} {p3 : List GOcc} {p4 : List GOcc} {r : GSpan × (List GOcc)} (hh : impl_Span_each.f k p0 p1 p2 p3 p4 = some r) : FunW P 151 [.agg [tA (qGOcc p0.Left), tA (qGOcc p0.Mid)], iA p1, tA (qGOcc p2), tA (qGOcc p3), tA (qGOcc p4)] [hA, hA, hA, hA, hA] (.tup [.agg [tA (qGOcc r.1.Left), tA (qGOcc r.1.Mid)], tA (qGOcc r.2)]) := by
 obtain ⟨p0a, p0b⟩ := p0
 unfold impl_Span_each.f at hh
 refine go (ts := [(10, some 148), (11, none)]) (rm := [.val, .val]) (pm := [.skip, .skip, .skip, .skip, .skip]) Tryz.func151 ?_
 intro Fn LW len cast toNat wrap add sub mul bin lt eq At set part app fz' rep nadd nmax ssize sext sget scat seq slt Wide Flat Ones Room r' post' hC hF hr hp
 cbv
 replace hh := bind_some hh
 obtain ⟨o1, hl1, hq1⟩ := hh
 refine loop_go4 hC eok mixed (fun n (i : (List GOcc) × Int) => impl_Span_each.l0 k (⟨p0a, p0b⟩ : GSpan) p1 p3 n i.1 i.2)
  (fun ⟨s15, s16⟩ => (⟨[(1, iA p1), (2, tA (qGOcc p2)), (4, tA (qGOcc p4)), (5, .mptr (5, 0) 1 0 0), (10, .mptr (10, 0) 1 0 0), (12, tA (qGOcc s15)), (17, tA (qGOcc p3)), (18, iA (cast (len (qGOcc p3)))), (19, iA s16)], [((5, 0), .box 1 [tA (qGOcc p0a), tA (qGOcc p0b)]), ((10, 0), .box 1 [.lit (.slice none 0 0), .lit (.slice none 0 0)])]⟩ : St))
  (fun (x31 : List GOcc) => (⟨[(2, tA (qGOcc p2)), (4, tA (qGOcc p4)), (5, .mptr (5, 0) 1 0 0), (10, .mptr (10, 0) 1 0 0), (12, tA (qGOcc x31))], [((5, 0), .box 1 [tA (qGOcc p0a), tA (qGOcc p0b)]), ((10, 0), .box 1 [.lit (.slice none 0 0), .lit (.slice none 0 0)])]⟩ : St)) (fun x => x) (.exit 0)
  (i0 := (_, _)) hl1 (fun _ => rfl) ?_ ?_ ?_
 ·
  rintro ⟨t0, t1⟩ e
  refine cov_of [((5, 0), (5, 0)), ((10, 0), (10, 0))] ?_
  cbv
  all_goals exact J2
 ·
  rintro x31 hx
  subst o1
  have hh := hq1
  cbv
  replace hh := bind_some hh
  obtain ⟨x47, h46, hh⟩ := hh
  refine go_call hF (c_impl_putAll hQ h46) ?_
  cbv
  replace hh := bind_some hh
  obtain ⟨x50, h49, hh⟩ := hh
  refine go_call hF (c_impl_putAll hQ h49) ?_
  cbv
  exact Eb
 ·
  rintro n ⟨s15, s16⟩ N1 D1 hh hN1 hD1 hQ1
  dsimp only at hh
  unfold impl_Span_each.l0 at hh
  cbv
  refine bcs (fun f33 => ?_) (fun f33 => ?_)
  ·
   replace hh := ifT hh f33
   try rw [f33]
   cbv
   replace hh := req_some hh
   obtain ⟨h34, hh⟩ := hh
   replace hh := bind_some hh
   obtain ⟨⟨e35a, e35b, e35c⟩, h36, hh⟩ := hh
   try dsimp only at hh
   refine ⟨[iA e35a, iA e35b, tA (qInt e35c)], Nb h34, Gb h36, ?_⟩
   cbv
   replace hh := bind_some hh
   obtain ⟨x38, h37, hh⟩ := hh
   refine go_call hF (c_impl_Span_open hQ h37) ?_
   cbv
   replace hh := bind_some hh
   obtain ⟨⟨x41_0, x41_1⟩, h40, hh⟩ := hh
   try dsimp only at hh
   refine ⟨Ob, ?_⟩
   have fc := c_impl_combine hQ h40
   try dsimp only at fc
   refine go_call hF fc ?_
   cbv
   replace hh := bind_some hh
   obtain ⟨x44, h43, hh⟩ := hh
   refine go_call hF (c_impl_putAll hQ h43) ?_
   cbv
   refine hN1 (_, _) _ hh fun ⟨t0, t1⟩ e => ?_
   refine cov_of [((5, 0), (5, 0)), ((10, 0), (10, 0))] ?_
   cbv
   all_goals exact J2
  ·
   replace hh := ifF hh f33
   try rw [f33]
   cbv
   refine hD1 _ _ hh fun t0 e => ?_
   refine cov_of [((5, 0), (5, 0)), ((10, 0), (10, 0))] ?_
   cbv
   all_goals exact J1

theorem c_impl_spanOf_impl_Span_each {k : Nat} {g4 : GSpan → Int → (List GOcc) → (List GOcc) → (List GOcc) → Option (GSpan × (List GOcc))} (hg4 : ∀ {y0 : GSpan} {y1 : Int} {y2 : List GOcc} {y3 : List GOcc} {y4 : List GOcc} {r : GSpan × (List GOcc)}, g4 y0 y1 y2 y3 y4 = some r → FunW P 151 [.agg [tA (qGOcc y0.Left), tA (qGOcc y0.Mid)], iA y1, tA (qGOcc y2), tA (qGOcc y3), tA (qGOcc y4)] [hA, hA, hA, hA, hA] (.tup [.agg [tA (qGOcc r.1.Left), tA (qGOcc r.1.Mid)], tA (qGOcc r.2)])) {p0 : Int} {p1 : List GOcc} {p2 : List GOcc} {p3 : List GOcc} {r : (List GOcc) × Bool} (hh : impl_spanOf.f g4 k p0 p1 p2 p3 = some r) : FunW P 149 [iA p0, tA (qGOcc p1), tA (qGOcc p2), tA (qGOcc p3), .clo 151 []] [hA, hA, hA, hA, hA] (.tup [oA 3 (qGOccO r.1), bA r.2]) := by
 unfold impl_spanOf.f at hh
 refine go (ts := [(10, none), (11, none)]) (rm := [.own, .own]) (pm := [.skip, .skip, .skip, .skip, .skip]) Tryz.func149 ?_
 intro Fn LW len cast toNat wrap add sub mul bin lt eq At set part app fz' rep nadd nmax ssize sext sget scat seq slt Wide Flat Ones Room r' post' hC hF hr hp
 cbv
 replace hh := bind_some hh
 obtain ⟨x2, h1, hh⟩ := hh
 refine ⟨3, ?_⟩
 cbv
 refine ⟨3, ?_⟩
 cbv
 have fc := c_impl_spanFits_L1 hQ h1
 try dsimp only at fc
 refine go_call hF fc ?_
 cbv
 replace hh := if_or hh
 rcases hh with ⟨b4, hh⟩ | ⟨b4, hh⟩
 ·
  have f5 : x2 = true := Tb b4
  have g := f5; cbv at g; try rw [f5]
  try rw [g]
  cbv
  replace hh := bind_some hh
  obtain ⟨x7, h6, hh⟩ := hh
  refine ⟨Ob, ?_⟩
  refine go_call hF (c_impl_times hQ h6) ?_
  cbv
  replace hh := bind_some hh
  obtain ⟨o1, hl1, hq1⟩ := hh
  refine loop_go4 hC eok mixed (fun n (i : (List GOcc) × (List GOcc) × (List GOcc) × Int) => impl_spanOf.l0 k g4 p0 p1 p2 p3 x7 n i.1 i.2.1 i.2.2.1 i.2.2.2)
   (fun ⟨s29, s30, s31, s32⟩ => (⟨[(0, iA p0), (1, tA (qGOcc p1)), (2, tA (qGOcc p2)), (3, tA (qGOcc p3)), (4, .clo 151 []), (12, .mptr (12, 0) 1 0 0), (13, tA (qGOcc s31)), (29, tA (qInt x7)), (30, iA (cast (len (qInt x7)))), (31, iA s32)], [((12, 0), .box 1 [tA (qGOcc s29), tA (qGOcc s30)])]⟩ : St))
   (fun (x53 : List GOcc) => (⟨[(13, tA (qGOcc x53))], []⟩ : St)) (fun x => x) (.exit 0)
   (i0 := (_, _, _, _)) hl1 (fun _ => rfl) ?_ ?_ ?_
  ·
   rintro ⟨t0, t1, t2, t3⟩ e
   refine cov_of [((12, 0), (12, 0))] ?_
   cbv
   all_goals exact J4
  ·
   rintro x53 hx
   subst o1
   have hh := hq1
   cbv
   replace hh := bind_some hh
   obtain ⟨⟨x75_0, x75_1⟩, h74, hh⟩ := hh
   try dsimp only at hh
   have fc := c_impl_few hQ h74
   try dsimp only at fc
   refine go_call hF fc ?_
   cbv
   exact Eb
  ·
   rintro n ⟨s29, s30, s31, s32⟩ N1 D1 hh hN1 hD1 hQ1
   dsimp only at hh
   unfold impl_spanOf.l0 at hh
   cbv
   refine bcs (fun f55 => ?_) (fun f55 => ?_)
   ·
    replace hh := ifT hh f55
    try rw [f55]
    cbv
    replace hh := req_some hh
    obtain ⟨h56, hh⟩ := hh
    replace hh := bind_some hh
    obtain ⟨e57, h58, hh⟩ := hh
    refine ⟨[iA e57], Nb h56, Gb h58, ?_⟩
    cbv
    replace hh := bind_some hh
    obtain ⟨x60, h59, hh⟩ := hh
    refine go_call hF (c_impl_at hQ h59) ?_
    cbv
    replace hh := bind_some hh
    obtain ⟨x63, h62, hh⟩ := hh
    refine go_call hF (c_impl_at hQ h62) ?_
    cbv
    replace hh := bind_some hh
    obtain ⟨x66, h65, hh⟩ := hh
    refine go_call hF (c_impl_at hQ h65) ?_
    cbv
    replace hh := bind_some hh
    obtain ⟨⟨⟨x69_0a, x69_0b⟩, x69_1⟩, h68, hh⟩ := hh
    try dsimp only at hh
    refine ⟨Ob, ?_⟩
    refine ⟨Ob, ?_⟩
    refine ⟨Ob, ?_⟩
    have fc := hg4 h68
    try dsimp only at fc
    refine go_call hF fc ?_
    cbv
    replace hh := bind_some hh
    obtain ⟨x72, h71, hh⟩ := hh
    refine go_call hF (c_impl_putAll hQ h71) ?_
    cbv
    refine hN1 (_, _, _, _) _ hh fun ⟨t0, t1, t2, t3⟩ e => ?_
    refine cov_of [((12, 0), (12, 0))] ?_
    cbv
    all_goals exact J4
   ·
    replace hh := ifF hh f55
    try rw [f55]
    cbv
    refine hD1 _ _ hh fun t0 e => ?_
    refine cov_of [] ?_
    cbv
    all_goals exact J1
 ·
  have f5 : x2 = false := Fb b4
  have g := f5; cbv at g; try rw [f5]
  try rw [g]
  cbv
  refine ⟨3, ?_⟩
  cbv
  exact Eb

theorem c_impl_EachOf {k : Nat} {p0 : Int} {p1 : List GOcc} {p2 : List GOcc} {p3 : List GOcc} {r : (List GOcc) × Bool} (hh : impl_EachOf.f k p0 p1 p2 p3 = some r) : FunW P 122 [iA p0, tA (qGOcc p1), tA (qGOcc p2), tA (qGOcc p3)] [hA, hA, hA, hA] (.tup [oA 3 (qGOccO r.1), bA r.2]) := by
 unfold impl_EachOf.f at hh
 refine go (ts := [(8, none), (9, none)]) (rm := [.own, .own]) (pm := [.skip, .skip, .skip, .skip]) Tryz.func122 ?_
 intro Fn LW len cast toNat wrap add sub mul bin lt eq At set part app fz' rep nadd nmax ssize sext sget scat seq slt Wide Flat Ones Room r' post' hC hF hr hp
 cbv
 replace hh := bind_some hh
 obtain ⟨⟨x2_0, x2_1⟩, h1, hh⟩ := hh
 try dsimp only at hh
 have fc := c_impl_spanOf_impl_Span_each hQ (g4 := fun y0 y1 y2 y3 y4 => impl_Span_each.f k y0 y1 y2 y3 y4) (fun h => c_impl_Span_each hQ h) h1
 try dsimp only at fc
 refine go_call hF fc ?_
 cbv
 exact Eb

theorem c_impl_now {p0 : List GEv} {r : Int} (hh : impl_now.f p0 = some r) : FunW P 83 [tA (qGEv p0)] [hA] (iA r) := by
 unfold impl_now.f at hh
 refine go (ts := [(2, none)]) (rm := [.own]) (pm := [.skip]) Tryz.func83 ?_
 intro Fn LW len cast toNat wrap add sub mul bin lt eq At set part app fz' rep nadd nmax ssize sext sget scat seq slt Wide Flat Ones Room r' post' hC hF hr hp
 cbv
 refine bcs (fun f2 => ?_) (fun f2 => ?_)
 ·
  replace hh := ifT hh f2
  try rw [f2]
  cbv
  exact Eb
 ·
  replace hh := ifF hh f2
  try rw [f2]
  cbv
  replace hh := req_some hh
  obtain ⟨h3, hh⟩ := hh
  replace hh := bind_some hh
  obtain ⟨⟨e4a, e4b, e4c⟩, h5, hh⟩ := hh
  try dsimp only at hh
  refine ⟨[iA e4a, iA e4b, iA e4c], Nb h3, Gb h5, ?_⟩
  cbv
  exact Eb

theorem c_impl_later {p0 : GOcc} {p1 : Int} {r : GOcc} (hh : impl_later.f p0 p1 = some r) : FunW P 96 [.agg [iA p0.From, iA p0.To, tA (qInt p0.Ids)], iA p1] [hA, hA] (.agg [iA r.From, iA r.To, oA 1 (qInt r.Ids)]) := by
 obtain ⟨p0a, p0b, p0c⟩ := p0
 unfold impl_later.f at hh
 refine go (ts := [(4, some 63)]) (rm := [.own]) (pm := [.skip, .skip]) Tryz.func96 ?_
 intro Fn LW len cast toNat wrap add sub mul bin lt eq At set part app fz' rep nadd nmax ssize sext sget scat seq slt Wide Flat Ones Room r' post' hC hF hr hp
 cbv
 replace hh := bind_some hh
 obtain ⟨⟨x2a, x2b, x2c⟩, h1, hh⟩ := hh
 try dsimp only at hh
 have fc := c_impl_Occ_clone hQ h1
 try dsimp only at fc
 refine go_call hF fc ?_
 cbv
 exact Eb

theorem c_impl_PlusOf {k : Nat} {p0 : List GOcc} {p1 : Int} {p2 : Int} {r : (List GOcc) × Bool} (hh : impl_PlusOf.f k p0 p1 p2 = some r) : FunW P 43 [tA (qGOcc p0), iA p1, iA p2] [hA, hA, hA] (.tup [oA 3 (qGOccO r.1), bA r.2]) := by
 unfold impl_PlusOf.f at hh
 refine go (ts := [(6, none), (7, none)]) (rm := [.own, .own]) (pm := [.skip, .skip, .skip]) Tryz.func43 ?_
 intro Fn LW len cast toNat wrap add sub mul bin lt eq At set part app fz' rep nadd nmax ssize sext sget scat seq slt Wide Flat Ones Room r' post' hC hF hr hp
 cbv
 replace hh := bind_some hh
 obtain ⟨x2, h1, hh⟩ := hh
 refine go_call hF (c_impl_OccsOk hQ h1) ?_
 cbv
 replace hh := if_or hh
 rcases hh with ⟨b4, hh⟩ | ⟨b4, hh⟩
 ·
  have f5 : x2 = true := Tb b4
  have g := f5; cbv at g; try rw [f5]
  try rw [g]
  cbv
  replace hh := bind_some hh
  obtain ⟨x7, h6, hh⟩ := hh
  refine go_call hF (c_impl_in hQ h6) ?_
  cbv
  replace hh := if_or hh
  rcases hh with ⟨b9, hh⟩ | ⟨b9, hh⟩
  ·
   have f10 : x7 = true := Tb b9
   have g := f10; cbv at g; try rw [f10]
   try rw [g]
   cbv
   replace hh := bind_some hh
   obtain ⟨o1, hl1, hq1⟩ := hh
   refine loop_go4 hC eok mixed (fun n (i : (List GOcc) × Int) => impl_PlusOf.l0 k p0 p1 p2 n i.1 i.2)
    (fun ⟨s30, s31⟩ => (⟨[(1, iA p1), (2, iA p2), (8, .ref (8, 50) 1 0 (len (qGOccO s30))), (19, tA (qGOcc p0)), (20, iA (cast (len (qGOcc p0)))), (21, iA s31)], [((8, 50), .arr 1 3 (qGOccO s30))]⟩ : St))
    (fun (x51 : List GOcc) => (⟨[(8, .ref (8, 50) 1 0 (len (qGOccO x51)))], [((8, 50), .arr 1 3 (qGOccO x51))]⟩ : St)) (fun x => x) (.exit 0)
    (i0 := (_, _)) hl1 (fun _ => rfl) ?_ ?_ ?_
   ·
    rintro ⟨t0, t1⟩ e
    refine cov_of [] ?_
    cbv
    all_goals exact J2
   ·
    rintro x51 hx
    subst o1
    have hh := hq1
    cbv
    exact Eb
   ·
    rintro n ⟨s30, s31⟩ N1 D1 hh hN1 hD1 hQ1
    dsimp only at hh
    unfold impl_PlusOf.l0 at hh
    cbv
    refine bcs (fun f53 => ?_) (fun f53 => ?_)
    ·
     replace hh := ifT hh f53
     try rw [f53]
     cbv
     replace hh := req_some hh
     obtain ⟨h54, hh⟩ := hh
     replace hh := bind_some hh
     obtain ⟨⟨e55a, e55b, e55c⟩, h56, hh⟩ := hh
     try dsimp only at hh
     refine ⟨[iA e55a, iA e55b, tA (qInt e55c)], Nb h54, Gb h56, ?_⟩
     cbv
     replace hh := if_or hh
     rcases hh with ⟨b57, hh⟩ | ⟨b57, hh⟩
     ·
      have f58 : (lt 2000 p2) = true := Tb b57
      have g := f58; cbv at g; try rw [f58]
      try rw [g]
      cbv
      replace hh := if_or hh
      rcases hh with ⟨b59, hh⟩ | ⟨b59, hh⟩
      ·
       have f60 : (lt 2000 (wrap .i64 (add e55b p1))) = true := Tb b59
       have g := f60; cbv at g; try rw [f60]
       try rw [g]
       cbv
       refine hN1 (_, _) _ hh fun ⟨t0, t1⟩ e => ?_
       refine cov_of [((8, 50), (8, 50))] ?_
       cbv
       all_goals exact J2
      ·
       have f60 : (lt 2000 (wrap .i64 (add e55b p1))) = false := Fb b59
       have g := f60; cbv at g; try rw [f60]
       try rw [g]
       cbv
       replace hh := bind_some hh
       obtain ⟨⟨x62a, x62b, x62c⟩, h61, hh⟩ := hh
       try dsimp only at hh
       have fc := c_impl_later hQ h61
       try dsimp only at fc
       refine go_call hF fc ?_
       cbv
       replace hh := req_some hh
       obtain ⟨h64, hh⟩ := hh
       refine ⟨⟨Ob, Ab⟩, ?_⟩
       refine ⟨⟨Ob, Wb h64⟩, ?_⟩
       refine hN1 (_, _) _ hh fun ⟨t0, t1⟩ e => ?_
       refine cov_of [((8, 50), (37, 0))] ?_
       cbv
       all_goals exact J2
     ·
      have f58 : (lt 2000 p2) = false := Fb b57
      have g := f58; cbv at g; try rw [f58]
      try rw [g]
      cbv
      replace hh := if_or hh
      rcases hh with ⟨b65, hh⟩ | ⟨b65, hh⟩
      ·
       have f66 : (lt p2 (wrap .i64 (add e55b p1))) = true := Tb b65
       have g := f66; cbv at g; try rw [f66]
       try rw [g]
       cbv
       refine hN1 (_, _) _ hh fun ⟨t0, t1⟩ e => ?_
       refine cov_of [((8, 50), (8, 50))] ?_
       cbv
       all_goals exact J2
      ·
       have f66 : (lt p2 (wrap .i64 (add e55b p1))) = false := Fb b65
       have g := f66; cbv at g; try rw [f66]
       try rw [g]
       cbv
       replace hh := bind_some hh
       obtain ⟨⟨x68a, x68b, x68c⟩, h67, hh⟩ := hh
       try dsimp only at hh
       have fc := c_impl_later hQ h67
       try dsimp only at fc
       refine go_call hF fc ?_
       cbv
       replace hh := req_some hh
       obtain ⟨h70, hh⟩ := hh
       refine ⟨⟨Ob, Ab⟩, ?_⟩
       refine ⟨⟨Ob, Wb h70⟩, ?_⟩
       refine hN1 (_, _) _ hh fun ⟨t0, t1⟩ e => ?_
       refine cov_of [((8, 50), (37, 0))] ?_
       cbv
       all_goals exact J2
    ·
     replace hh := ifF hh f53
     try rw [f53]
     cbv
     refine hD1 _ _ hh fun t0 e => ?_
     refine cov_of [((8, 50), (8, 50))] ?_
     cbv
     all_goals exact J1
  ·
   have f10 : x7 = false := Fb b9
   have g := f10; cbv at g; try rw [f10]
   try rw [g]
   cbv
   refine ⟨3, ?_⟩
   cbv
   exact Eb
 ·
  have f5 : x2 = false := Fb b4
  have g := f5; cbv at g; try rw [f5]
  try rw [g]
  cbv
  refine ⟨3, ?_⟩
  cbv
  exact Eb

theorem c_scc77 : ∀ k : Nat, (∀ {p0 : GEx} {p1 : Int} {p2 : List GEv} {r : (List GOcc) × Bool}, impl_Ex_mean.f k p0 p1 p2 = some r → FunW P 77 [.agg [iA p0.Kind, iA p0.Sym, iA p0.N, tA (qGEx p0.Kids)], iA p1, tA (qGEv p2)] [hA, hA, hA] (.tup [oA 3 (qGOccO r.1), bA r.2])) := by
  intro k
  induction k using Nat.strongRecOn with
  | _ k ih =>
  · intro p0 p1 p2 r hh
    cases k with
    | zero => unfold impl_Ex_mean.f at hh; cases hh
    | succ k =>
    obtain ⟨p0a, p0b, p0c, p0d⟩ := p0
    unfold impl_Ex_mean.f at hh
    refine go (ts := [(6, none), (7, none)]) (rm := [.own, .own]) (pm := [.skip, .skip, .skip]) Tryz.func77 ?_
    intro Fn LW len cast toNat wrap add sub mul bin lt eq At set part app fz' rep nadd nmax ssize sext sget scat seq slt Wide Flat Ones Room r' post' hC hF hr hp
    cbv
    replace hh := bind_some hh
    obtain ⟨o1, hl1, hq1⟩ := hh
    refine loop_go4 hC eok mixed (fun n (i : (List (List GOcc)) × Int) => impl_Ex_mean.l0 k (impl_Ex_mean.f k) (⟨p0a, p0b, p0c, p0d⟩ : GEx) p1 p2 n i.1 i.2)
     (fun ⟨s12, s13⟩ => (⟨[(1, iA p1), (2, tA (qGEv p2)), (3, .mptr (3, 0) 1 0 0), (8, .ref (8, 50) 1 0 (len (qLGOccO s12))), (17, tA (qGEx p0d)), (18, iA (cast (len (qGEx p0d)))), (19, iA s13)], [((3, 0), .box 1 [iA p0a, iA p0b, iA p0c, tA (qGEx p0d)]), ((8, 50), .arr 1 1 (qLGOccO s12))]⟩ : St))
     (fun (x25 : List (List GOcc)) => (⟨[(1, iA p1), (2, tA (qGEv p2)), (3, .mptr (3, 0) 1 0 0), (8, .ref (8, 50) 1 0 (len (qLGOcc x25)))], [((3, 0), .box 1 [iA p0a, iA p0b, iA p0c, tA (qGEx p0d)]), ((8, 50), .farr 1 1 (qLGOcc x25))]⟩ : St)) .ok (.exit 0)
     (i0 := (_, _)) hl1 (fun _ => rfl) ?_ ?_ ?_
    ·
     rintro ⟨t0, t1⟩ e
     refine cov_of [((3, 0), (3, 0))] ?_
     cbv
     all_goals exact J2
    ·
     rintro x25 hx
     subst o1
     have hh := hq1
     cbv
     refine bcs (fun f38 => ?_) (fun f38 => ?_)
     ·
      replace hh := ifT hh f38
      try rw [f38]
      cbv
      replace hh := req_some hh
      obtain ⟨h39, hh⟩ := hh
      replace hh := req_some hh
      obtain ⟨h40, hh⟩ := hh
      refine ⟨Nb h39, Mb h40, ?_⟩
      replace hh := bind_some hh
      obtain ⟨e41, h42, hh⟩ := hh
      refine ⟨[tA (qGOcc e41)], Gb h42, ?_⟩
      cbv
      replace hh := req_some hh
      obtain ⟨h43, hh⟩ := hh
      replace hh := req_some hh
      obtain ⟨h44, hh⟩ := hh
      refine ⟨Nb h43, Mb h44, ?_⟩
      replace hh := bind_some hh
      obtain ⟨e45, h46, hh⟩ := hh
      refine ⟨[tA (qGOcc e45)], Gb h46, ?_⟩
      cbv
      replace hh := bind_some hh
      obtain ⟨⟨x48_0, x48_1⟩, h47, hh⟩ := hh
      try dsimp only at hh
      have fc := c_impl_OrOf hQ h47
      try dsimp only at fc
      refine go_call hF fc ?_
      cbv
      exact Eb
     ·
      replace hh := ifF hh f38
      try rw [f38]
      cbv
      refine bcs (fun f51 => ?_) (fun f51 => ?_)
      ·
       replace hh := ifT hh f51
       try rw [f51]
       cbv
       replace hh := req_some hh
       obtain ⟨h52, hh⟩ := hh
       replace hh := req_some hh
       obtain ⟨h53, hh⟩ := hh
       refine ⟨Nb h52, Mb h53, ?_⟩
       replace hh := bind_some hh
       obtain ⟨e54, h55, hh⟩ := hh
       refine ⟨[tA (qGOcc e54)], Gb h55, ?_⟩
       cbv
       replace hh := req_some hh
       obtain ⟨h56, hh⟩ := hh
       replace hh := req_some hh
       obtain ⟨h57, hh⟩ := hh
       refine ⟨Nb h56, Mb h57, ?_⟩
       replace hh := bind_some hh
       obtain ⟨e58, h59, hh⟩ := hh
       refine ⟨[tA (qGOcc e58)], Gb h59, ?_⟩
       cbv
       replace hh := bind_some hh
       obtain ⟨⟨x61_0, x61_1⟩, h60, hh⟩ := hh
       try dsimp only at hh
       have fc := c_impl_AndOf hQ h60
       try dsimp only at fc
       refine go_call hF fc ?_
       cbv
       exact Eb
      ·
       replace hh := ifF hh f51
       try rw [f51]
       cbv
       refine bcs (fun f64 => ?_) (fun f64 => ?_)
       ·
        replace hh := ifT hh f64
        try rw [f64]
        cbv
        replace hh := req_some hh
        obtain ⟨h65, hh⟩ := hh
        replace hh := req_some hh
        obtain ⟨h66, hh⟩ := hh
        refine ⟨Nb h65, Mb h66, ?_⟩
        replace hh := bind_some hh
        obtain ⟨e67, h68, hh⟩ := hh
        refine ⟨[tA (qGOcc e67)], Gb h68, ?_⟩
        cbv
        replace hh := req_some hh
        obtain ⟨h69, hh⟩ := hh
        replace hh := req_some hh
        obtain ⟨h70, hh⟩ := hh
        refine ⟨Nb h69, Mb h70, ?_⟩
        replace hh := bind_some hh
        obtain ⟨e71, h72, hh⟩ := hh
        refine ⟨[tA (qGOcc e71)], Gb h72, ?_⟩
        cbv
        replace hh := bind_some hh
        obtain ⟨⟨x74_0, x74_1⟩, h73, hh⟩ := hh
        try dsimp only at hh
        have fc := c_impl_SeqOf hQ h73
        try dsimp only at fc
        refine go_call hF fc ?_
        cbv
        exact Eb
       ·
        replace hh := ifF hh f64
        try rw [f64]
        cbv
        refine bcs (fun f77 => ?_) (fun f77 => ?_)
        ·
         replace hh := ifT hh f77
         try rw [f77]
         cbv
         replace hh := req_some hh
         obtain ⟨h78, hh⟩ := hh
         replace hh := req_some hh
         obtain ⟨h79, hh⟩ := hh
         refine ⟨Nb h78, Mb h79, ?_⟩
         replace hh := bind_some hh
         obtain ⟨e80, h81, hh⟩ := hh
         refine ⟨[tA (qGOcc e80)], Gb h81, ?_⟩
         cbv
         replace hh := req_some hh
         obtain ⟨h82, hh⟩ := hh
         replace hh := req_some hh
         obtain ⟨h83, hh⟩ := hh
         refine ⟨Nb h82, Mb h83, ?_⟩
         replace hh := bind_some hh
         obtain ⟨e84, h85, hh⟩ := hh
         refine ⟨[tA (qGOcc e84)], Gb h85, ?_⟩
         cbv
         replace hh := req_some hh
         obtain ⟨h86, hh⟩ := hh
         replace hh := req_some hh
         obtain ⟨h87, hh⟩ := hh
         refine ⟨Nb h86, Mb h87, ?_⟩
         replace hh := bind_some hh
         obtain ⟨e88, h89, hh⟩ := hh
         refine ⟨[tA (qGOcc e88)], Gb h89, ?_⟩
         cbv
         replace hh := bind_some hh
         obtain ⟨⟨x91_0, x91_1⟩, h90, hh⟩ := hh
         try dsimp only at hh
         have fc := c_impl_NotOf hQ h90
         try dsimp only at fc
         refine go_call hF fc ?_
         cbv
         exact Eb
        ·
         replace hh := ifF hh f77
         try rw [f77]
         cbv
         refine bcs (fun f94 => ?_) (fun f94 => ?_)
         ·
          replace hh := ifT hh f94
          try rw [f94]
          cbv
          replace hh := req_some hh
          obtain ⟨h95, hh⟩ := hh
          replace hh := req_some hh
          obtain ⟨h96, hh⟩ := hh
          refine ⟨Nb h95, Mb h96, ?_⟩
          replace hh := bind_some hh
          obtain ⟨e97, h98, hh⟩ := hh
          refine ⟨[tA (qGOcc e97)], Gb h98, ?_⟩
          cbv
          replace hh := req_some hh
          obtain ⟨h99, hh⟩ := hh
          replace hh := req_some hh
          obtain ⟨h100, hh⟩ := hh
          refine ⟨Nb h99, Mb h100, ?_⟩
          replace hh := bind_some hh
          obtain ⟨e101, h102, hh⟩ := hh
          refine ⟨[tA (qGOcc e101)], Gb h102, ?_⟩
          cbv
          replace hh := req_some hh
          obtain ⟨h103, hh⟩ := hh
          replace hh := req_some hh
          obtain ⟨h104, hh⟩ := hh
          refine ⟨Nb h103, Mb h104, ?_⟩
          replace hh := bind_some hh
          obtain ⟨e105, h106, hh⟩ := hh
          refine ⟨[tA (qGOcc e105)], Gb h106, ?_⟩
          cbv
          replace hh := bind_some hh
          obtain ⟨⟨x108_0, x108_1⟩, h107, hh⟩ := hh
          try dsimp only at hh
          have fc := c_impl_EachOf hQ h107
          try dsimp only at fc
          refine go_call hF fc ?_
          cbv
          exact Eb
         ·
          replace hh := ifF hh f94
          try rw [f94]
          cbv
          refine bcs (fun f111 => ?_) (fun f111 => ?_)
          ·
           replace hh := ifT hh f111
           try rw [f111]
           cbv
           replace hh := req_some hh
           obtain ⟨h112, hh⟩ := hh
           replace hh := req_some hh
           obtain ⟨h113, hh⟩ := hh
           refine ⟨Nb h112, Mb h113, ?_⟩
           replace hh := bind_some hh
           obtain ⟨e114, h115, hh⟩ := hh
           refine ⟨[tA (qGOcc e114)], Gb h115, ?_⟩
           cbv
           replace hh := bind_some hh
           obtain ⟨x117, h116, hh⟩ := hh
           refine go_call hF (c_impl_now hQ h116) ?_
           cbv
           replace hh := bind_some hh
           obtain ⟨⟨x120_0, x120_1⟩, h119, hh⟩ := hh
           try dsimp only at hh
           have fc := c_impl_PlusOf hQ h119
           try dsimp only at fc
           refine go_call hF fc ?_
           cbv
           exact Eb
          ·
           replace hh := ifF hh f111
           try rw [f111]
           cbv
           replace hh := bind_some hh
           obtain ⟨o1, hl1, hq1⟩ := hh
           refine loop_go4 hC eok mixed (fun n (i : (List GOcc) × Int) => impl_Ex_mean.l1 k (⟨p0a, p0b, p0c, p0d⟩ : GEx) p2 n i.1 i.2)
            (fun ⟨s130, s131⟩ => (⟨[(3, .mptr (3, 0) 1 0 0), (13, .ref (13, 50) 1 0 (len (qGOccO s130))), (116, tA (qGEv p2)), (117, iA (cast (len (qGEv p2)))), (118, iA s131)], [((3, 0), .box 1 [iA p0a, iA p0b, iA p0c, tA (qGEx p0d)]), ((13, 50), .arr 1 3 (qGOccO s130))]⟩ : St))
            (fun (x140 : List GOcc) => (⟨[(13, .ref (13, 50) 1 0 (len (qGOccO x140)))], [((13, 50), .arr 1 3 (qGOccO x140))]⟩ : St)) (fun x => x) (.exit 3)
            (i0 := (_, _)) hl1 (fun _ => rfl) ?_ ?_ ?_
           ·
            rintro ⟨t0, t1⟩ e
            refine cov_of [((3, 0), (3, 0))] ?_
            cbv
            all_goals exact J2
           ·
            rintro x140 hx
            subst o1
            have hh := hq1
            cbv
            exact Eb
           ·
            rintro n ⟨s130, s131⟩ N1 D1 hh hN1 hD1 hQ1
            dsimp only at hh
            unfold impl_Ex_mean.l1 at hh
            cbv
            refine bcs (fun f142 => ?_) (fun f142 => ?_)
            ·
             replace hh := ifT hh f142
             try rw [f142]
             cbv
             replace hh := req_some hh
             obtain ⟨h143, hh⟩ := hh
             replace hh := bind_some hh
             obtain ⟨⟨e144a, e144b, e144c⟩, h145, hh⟩ := hh
             try dsimp only at hh
             refine ⟨[iA e144a, iA e144b, iA e144c], Nb h143, Gb h145, ?_⟩
             cbv
             refine bcs (fun f147 => ?_) (fun f147 => ?_)
             ·
              replace hh := ifT hh f147
              try rw [f147]
              cbv
              refine ⟨Ob, ?_⟩
              replace hh := req_some hh
              obtain ⟨h148, hh⟩ := hh
              refine ⟨⟨Ob, Ab⟩, ?_⟩
              refine ⟨⟨Ob, Wb h148⟩, ?_⟩
              refine hN1 (_, _) _ hh fun ⟨t0, t1⟩ e => ?_
              refine cov_of [((3, 0), (3, 0)), ((13, 50), (137, 0))] ?_
              cbv
              all_goals exact J2
             ·
              replace hh := ifF hh f147
              try rw [f147]
              cbv
              refine hN1 (_, _) _ hh fun ⟨t0, t1⟩ e => ?_
              refine cov_of [((3, 0), (3, 0)), ((13, 50), (13, 50))] ?_
              cbv
              all_goals exact J2
            ·
             replace hh := ifF hh f142
             try rw [f142]
             cbv
             refine hD1 _ _ hh fun t0 e => ?_
             refine cov_of [((13, 50), (13, 50))] ?_
             cbv
             all_goals exact J1
    ·
     rintro n ⟨s12, s13⟩ N1 D1 hh hN1 hD1 hQ1
     dsimp only at hh
     unfold impl_Ex_mean.l0 at hh
     cbv
     refine bcs (fun f27 => ?_) (fun f27 => ?_)
     ·
      replace hh := ifT hh f27
      try rw [f27]
      cbv
      replace hh := req_some hh
      obtain ⟨h28, hh⟩ := hh
      replace hh := bind_some hh
      obtain ⟨⟨e29a, e29b, e29c, e29d⟩, h30, hh⟩ := hh
      try dsimp only at hh
      refine ⟨[iA e29a, iA e29b, iA e29c, tA (qGEx e29d)], Nb h28, Gb h30, ?_⟩
      cbv
      replace hh := bind_some hh
      obtain ⟨⟨x32_0, x32_1⟩, h31, hh⟩ := hh
      try dsimp only at hh
      have fc := (ih k (Nat.lt_succ_self k)) h31
      try dsimp only at fc
      refine go_call hF fc ?_
      cbv
      replace hh := if_or hh
      rcases hh with ⟨b34, hh⟩ | ⟨b34, hh⟩
      ·
       have f35 : x32_1 = true := Tb b34
       have g := f35; cbv at g; try rw [f35]
       try rw [g]
       cbv
       replace hh := req_some hh
       obtain ⟨h36, hh⟩ := hh
       refine ⟨⟨Ob, Ab⟩, ?_⟩
       refine ⟨⟨Ob, Wb h36⟩, ?_⟩
       refine hN1 (_, _) _ hh fun ⟨t0, t1⟩ e => ?_
       refine cov_of [((3, 0), (3, 0)), ((8, 50), (35, 0))] ?_
       cbv
       all_goals exact J2
      ·
       have f35 : x32_1 = false := Fb b34
       have g := f35; cbv at g; try rw [f35]
       try rw [g]
       cbv
       cases hh
       have hh : some _ = some _ := hq1
       refine hQ1 _ _ ?_
       cbv
       refine ⟨3, ?_⟩
       cbv
       exact Eb
     ·
      replace hh := ifF hh f27
      try rw [f27]
      cbv
      refine hD1 _ _ hh fun t0 e => ?_
      refine cov_of [((3, 0), (3, 0)), ((8, 50), (8, 50))] ?_
      cbv
      all_goals exact J1
theorem c_impl_Ex_mean {k : Nat} {p0 : GEx} {p1 : Int} {p2 : List GEv} {r : (List GOcc) × Bool} (hh : impl_Ex_mean.f k p0 p1 p2 = some r) : FunW P 77 [.agg [iA p0.Kind, iA p0.Sym, iA p0.N, tA (qGEx p0.Kids)], iA p1, tA (qGEv p2)] [hA, hA, hA] (.tup [oA 3 (qGOccO r.1), bA r.2]) := (c_scc77 hQ k) hh


theorem c_impl_MeanOf {k : Nat} {p0 : GEx} {p1 : Int} {p2 : List GEv} {r : (List GOcc) × Bool} (hh : impl_MeanOf.f k p0 p1 p2 = some r) : FunW P 27 [.agg [iA p0.Kind, iA p0.Sym, iA p0.N, tA (qGEx p0.Kids)], iA p1, tA (qGEv p2)] [hA, hA, hA] (.tup [oA 3 (qGOccO r.1), bA r.2]) := by
 obtain ⟨p0a, p0b, p0c, p0d⟩ := p0
 unfold impl_MeanOf.f at hh
 refine go (ts := [(6, none), (7, none)]) (rm := [.own, .own]) (pm := [.skip, .skip, .skip]) Tryz.func27 ?_
 intro Fn LW len cast toNat wrap add sub mul bin lt eq At set part app fz' rep nadd nmax ssize sext sget scat seq slt Wide Flat Ones Room r' post' hC hF hr hp
 cbv
 replace hh := bind_some hh
 obtain ⟨x2, h1, hh⟩ := hh
 refine go_call hF (c_impl_ExOk hQ h1) ?_
 cbv
 replace hh := if_or hh
 rcases hh with ⟨b4, hh⟩ | ⟨b4, hh⟩
 ·
  have f5 : x2 = true := Tb b4
  have g := f5; cbv at g; try rw [f5]
  try rw [g]
  cbv
  replace hh := bind_some hh
  obtain ⟨x7, h6, hh⟩ := hh
  refine go_call hF (c_impl_isMode hQ h6) ?_
  cbv
  replace hh := if_or hh
  rcases hh with ⟨b9, hh⟩ | ⟨b9, hh⟩
  ·
   have f10 : x7 = true := Tb b9
   have g := f10; cbv at g; try rw [f10]
   try rw [g]
   cbv
   replace hh := bind_some hh
   obtain ⟨x12, h11, hh⟩ := hh
   refine go_call hF (c_impl_EvsOk hQ h11) ?_
   cbv
   replace hh := if_or hh
   rcases hh with ⟨b14, hh⟩ | ⟨b14, hh⟩
   ·
    have f15 : x12 = true := Tb b14
    have g := f15; cbv at g; try rw [f15]
    try rw [g]
    cbv
    replace hh := bind_some hh
    obtain ⟨⟨x17_0, x17_1⟩, h16, hh⟩ := hh
    try dsimp only at hh
    have fc := c_impl_Ex_mean hQ h16
    try dsimp only at fc
    refine go_call hF fc ?_
    cbv
    exact Eb
   ·
    have f15 : x12 = false := Fb b14
    have g := f15; cbv at g; try rw [f15]
    try rw [g]
    cbv
    refine ⟨3, ?_⟩
    cbv
    exact Eb
  ·
   have f10 : x7 = false := Fb b9
   have g := f10; cbv at g; try rw [f10]
   try rw [g]
   cbv
   refine ⟨3, ?_⟩
   cbv
   exact Eb
 ·
  have f5 : x2 = false := Fb b4
  have g := f5; cbv at g; try rw [f5]
  try rw [g]
  cbv
  refine ⟨3, ?_⟩
  cbv
  exact Eb
theorem c_impl_MeanOf_L0_2 {k : Nat} {p0 : GEx} {p1 : Int} {p2 : List GEv} {r : (List GOcc) × Bool} (hh : impl_MeanOf.f k p0 p1 p2 = some r) : FunW P 27 [.agg [iA p0.Kind, iA p0.Sym, iA p0.N, oA 4 (qGExO p0.Kids)], iA p1, oA 3 (qGEv p2)] [.agg [iA p0.Kind, iA p0.Sym, iA p0.N, oA 4 (qGExO p0.Kids)], hA, oA 3 (qGEv p2)] (.tup [oA 3 (qGOccO r.1), bA r.2]) := by
  cases hQ; exact (c_impl_MeanOf .mk hh).lend (by simp [Vm.ownd, owndL, -r_GOccO_map, r_GOccO_ownd]) (.lend (by simp) (.same rfl (.lend (congrArg A.tree (r_GEv_fz _).symm) .nil)))

theorem c_impl_MeanAt_1 {p0 : GOcc} {c0 : Int} {r : Bool} (hh : impl_MeanAt_1.f p0 c0 = some r) : FunW P 106 [.agg [iA p0.From, iA p0.To, tA (qInt p0.Ids)], .iptr [iA c0] 0] [hA, hA] (bA r) := by
 obtain ⟨p0a, p0b, p0c⟩ := p0
 unfold impl_MeanAt_1.f at hh
 refine go (ts := [(3, none)]) (rm := [.own]) (pm := [.skip, .skip]) Tryz.func106 ?_
 intro Fn LW len cast toNat wrap add sub mul bin lt eq At set part app fz' rep nadd nmax ssize sext sget scat seq slt Wide Flat Ones Room r' post' hC hF hr hp
 cbv
 exact Eb

theorem c_impl_those_impl_MeanAt_1 {k : Nat} {g1 : GOcc → Option Bool} {cp1_0 : Int} (hg1 : ∀ {y0 : GOcc} {r : Bool}, g1 y0 = some r → FunW P 106 [.agg [iA y0.From, iA y0.To, tA (qInt y0.Ids)], .iptr [iA cp1_0] 0] [hA, hA] (bA r)) {p0 : List GOcc} {r : List GOcc} (hh : impl_those.f g1 k p0 = some r) : FunW P 105 [tA (qGOcc p0), .clo 106 [.iptr [iA cp1_0] 0]] [hA, hA] (oA 3 (qGOcc r)) := by
 unfold impl_those.f at hh
 refine go (ts := [(4, none)]) (rm := [.own]) (pm := [.skip, .skip]) Tryz.func105 ?_
 intro Fn LW len cast toNat wrap add sub mul bin lt eq At set part app fz' rep nadd nmax ssize sext sget scat seq slt Wide Flat Ones Room r' post' hC hF hr hp
 cbv
 replace hh := bind_some hh
 obtain ⟨o1, hl1, hq1⟩ := hh
 refine loop_go4 hC eok mixed (fun n (i : (List GOcc) × Int) => impl_those.l0 k g1 p0 n i.1 i.2)
  (fun ⟨s12, s13⟩ => (⟨[(1, .clo 106 [.iptr [iA cp1_0] 0]), (5, .ref (5, 50) 1 0 (len (qGOcc s12))), (8, tA (qGOcc p0)), (9, iA (cast (len (qGOcc p0)))), (10, iA s13)], [((5, 50), .arr 1 3 (qGOcc s12))]⟩ : St))
  (fun (x25 : List GOcc) => (⟨[(5, .ref (5, 50) 1 0 (len (qGOcc x25)))], [((5, 50), .arr 1 3 (qGOcc x25))]⟩ : St)) (fun x => x) (.exit 0)
  (i0 := (_, _)) hl1 (fun _ => rfl) ?_ ?_ ?_
 ·
  rintro ⟨t0, t1⟩ e
  refine cov_of [] ?_
  cbv
  all_goals exact J2
 ·
  rintro x25 hx
  subst o1
  have hh := hq1
  cbv
  exact Eb
 ·
  rintro n ⟨s12, s13⟩ N1 D1 hh hN1 hD1 hQ1
  dsimp only at hh
  unfold impl_those.l0 at hh
  cbv
  refine bcs (fun f27 => ?_) (fun f27 => ?_)
  ·
   replace hh := ifT hh f27
   try rw [f27]
   cbv
   replace hh := req_some hh
   obtain ⟨h28, hh⟩ := hh
   replace hh := bind_some hh
   obtain ⟨⟨e29a, e29b, e29c⟩, h30, hh⟩ := hh
   try dsimp only at hh
   refine ⟨[iA e29a, iA e29b, tA (qInt e29c)], Nb h28, Gb h30, ?_⟩
   cbv
   replace hh := bind_some hh
   obtain ⟨x32, h31, hh⟩ := hh
   refine go_call hF (hg1 h31) ?_
   cbv
   refine bcs (fun f35 => ?_) (fun f35 => ?_)
   ·
    replace hh := ifT hh f35
    try rw [f35]
    cbv
    replace hh := req_some hh
    obtain ⟨h36, hh⟩ := hh
    refine ⟨⟨Ob, Ab⟩, ?_⟩
    refine ⟨⟨Ob, Wb h36⟩, ?_⟩
    refine hN1 (_, _) _ hh fun ⟨t0, t1⟩ e => ?_
    refine cov_of [((5, 50), (20, 0))] ?_
    cbv
    all_goals exact J2
   ·
    replace hh := ifF hh f35
    try rw [f35]
    cbv
    refine hN1 (_, _) _ hh fun ⟨t0, t1⟩ e => ?_
    refine cov_of [((5, 50), (5, 50))] ?_
    cbv
    all_goals exact J2
  ·
   replace hh := ifF hh f27
   try rw [f27]
   cbv
   refine hD1 _ _ hh fun t0 e => ?_
   refine cov_of [((5, 50), (5, 50))] ?_
   cbv
   all_goals exact J1

theorem c_impl_MeanAt {k : Nat} {p0 : GEx} {p1 : Int} {p2 : List GEv} {p3 : Int} {r : List GOcc} (hh : impl_MeanAt.f k p0 p1 p2 p3 = some r) : FunW P 56 [.agg [iA p0.Kind, iA p0.Sym, iA p0.N, tA (qGEx p0.Kids)], iA p1, tA (qGEv p2), iA p3] [hA, hA, hA, hA] (oA 3 (qGOcc r)) := by
 obtain ⟨p0a, p0b, p0c, p0d⟩ := p0
 unfold impl_MeanAt.f at hh
 refine go (ts := [(8, none)]) (rm := [.own]) (pm := [.skip, .skip, .skip, .skip]) Tryz.func56 ?_
 intro Fn LW len cast toNat wrap add sub mul bin lt eq At set part app fz' rep nadd nmax ssize sext sget scat seq slt Wide Flat Ones Room r' post' hC hF hr hp
 cbv
 replace hh := bind_some hh
 obtain ⟨⟨x2_0, x2_1⟩, h1, hh⟩ := hh
 try dsimp only at hh
 have fc := c_impl_MeanOf hQ h1
 try dsimp only at fc
 refine go_call hF fc ?_
 cbv
 replace hh := bind_some hh
 obtain ⟨x5, h4, hh⟩ := hh
 refine ⟨Ob, ?_⟩
 refine go_call hF (c_impl_those_impl_MeanAt_1 hQ (g1 := fun y0 => impl_MeanAt_1.f y0 p3) (fun h => c_impl_MeanAt_1 hQ h) h4) ?_
 cbv
 exact Eb

theorem c_spec_l4Mode {p0 : Int} {r : Bool} (hh : spec_l4Mode.f p0 = some r) : FunW P 91 [iA p0] [hA] (bA r) := by
 unfold spec_l4Mode.f at hh
 refine go (ts := [(2, none)]) (rm := [.own]) (pm := [.skip]) Tryz.func91 ?_
 intro Fn LW len cast toNat wrap add sub mul bin lt eq At set part app fz' rep nadd nmax ssize sext sget scat seq slt Wide Flat Ones Room r' post' hC hF hr hp
 cbv
 replace hh := if_or hh
 rcases hh with ⟨b1, hh⟩ | ⟨b1, hh⟩
 ·
  have f2 : (lt p0 0) = true := Tb b1
  have g := f2; cbv at g; try rw [f2]
  try rw [g]
  cbv
  exact Eb
 ·
  have f2 : (lt p0 0) = false := Fb b1
  have g := f2; cbv at g; try rw [f2]
  try rw [g]
  cbv
  exact Eb

theorem c_spec_EvOk {p0 : GEv} {r : Bool} (hh : spec_EvOk.f p0 = some r) : FunW P 75 [.agg [iA p0.Sym, iA p0.At, iA p0.Val]] [hA] (bA r) := by
 obtain ⟨p0a, p0b, p0c⟩ := p0
 unfold spec_EvOk.f at hh
 refine go (ts := [(2, none)]) (rm := [.own]) (pm := [.skip]) Tryz.func75 ?_
 intro Fn LW len cast toNat wrap add sub mul bin lt eq At set part app fz' rep nadd nmax ssize sext sget scat seq slt Wide Flat Ones Room r' post' hC hF hr hp
 cbv
 replace hh := if_or hh
 rcases hh with ⟨b1, hh⟩ | ⟨b1, hh⟩
 ·
  have f2 : (lt p0a 0) = true := Tb b1
  have g := f2; cbv at g; try rw [f2]
  try rw [g]
  cbv
  exact Eb
 ·
  have f2 : (lt p0a 0) = false := Fb b1
  have g := f2; cbv at g; try rw [f2]
  try rw [g]
  cbv
  refine bcs (fun f4 => ?_) (fun f4 => ?_)
  ·
   replace hh := ifT hh f4
   try rw [f4]
   cbv
   replace hh := if_or hh
   rcases hh with ⟨b5, hh⟩ | ⟨b5, hh⟩
   ·
    have f6 : (lt p0b 1) = true := Tb b5
    have g := f6; cbv at g; try rw [f6]
    try rw [g]
    cbv
    exact Eb
   ·
    have f6 : (lt p0b 1) = false := Fb b5
    have g := f6; cbv at g; try rw [f6]
    try rw [g]
    cbv
    replace hh := if_or hh
    rcases hh with ⟨b7, hh⟩ | ⟨b7, hh⟩
    ·
     have f8 : (lt 1000 p0b) = true := Tb b7
     have g := f8; cbv at g; try rw [f8]
     try rw [g]
     cbv
     exact Eb
    ·
     have f8 : (lt 1000 p0b) = false := Fb b7
     have g := f8; cbv at g; try rw [f8]
     try rw [g]
     cbv
     replace hh := if_or hh
     rcases hh with ⟨b9, hh⟩ | ⟨b9, hh⟩
     ·
      have f10 : (lt p0c 0) = true := Tb b9
      have g := f10; cbv at g; try rw [f10]
      try rw [g]
      cbv
      exact Eb
     ·
      have f10 : (lt p0c 0) = false := Fb b9
      have g := f10; cbv at g; try rw [f10]
      try rw [g]
      cbv
      exact Eb
  ·
   replace hh := ifF hh f4
   try rw [f4]
   cbv
   exact Eb

theorem c_spec_EvsOk {k : Nat} {p0 : List GEv} {r : Bool} (hh : spec_EvsOk.f k p0 = some r) : FunW P 26 [tA (qGEv p0)] [hA] (bA r) := by
 unfold spec_EvsOk.f at hh
 refine go (ts := [(2, none)]) (rm := [.own]) (pm := [.skip]) Tryz.func26 ?_
 intro Fn LW len cast toNat wrap add sub mul bin lt eq At set part app fz' rep nadd nmax ssize sext sget scat seq slt Wide Flat Ones Room r' post' hC hF hr hp
 cbv
 refine bcs (fun f2 => ?_) (fun f2 => ?_)
 ·
  replace hh := ifT hh f2
  try rw [f2]
  cbv
  exact Eb
 ·
  replace hh := ifF hh f2
  try rw [f2]
  cbv
  replace hh := bind_some hh
  obtain ⟨o1, hl1, hq1⟩ := hh
  refine loop_go4 hC eok mixed (spec_EvsOk.l0 k p0)
   (fun s23 => (⟨[(0, tA (qGEv p0)), (3, iA s23)], []⟩ : St))
   (fun (_ : Unit) => (⟨[], []⟩ : St)) .ok (.exit 0)
   (i0 := _) hl1 (fun _ => rfl) ?_ ?_ ?_
  ·
   rintro t0 e
   refine cov_of [] ?_
   cbv
   all_goals exact J1
  ·
   rintro _ hx
   subst o1
   have hh := hq1
   cbv
   exact Eb
  ·
   rintro n s23 N1 D1 hh hN1 hD1 hQ1
   unfold spec_EvsOk.l0 at hh
   cbv
   refine bcs (fun f45 => ?_) (fun f45 => ?_)
   ·
    replace hh := ifT hh f45
    try rw [f45]
    cbv
    replace hh := req_some hh
    obtain ⟨h46, hh⟩ := hh
    replace hh := bind_some hh
    obtain ⟨⟨e47a, e47b, e47c⟩, h48, hh⟩ := hh
    try dsimp only at hh
    refine ⟨[iA e47a, iA e47b, iA e47c], Nb h46, Gb h48, ?_⟩
    cbv
    replace hh := bind_some hh
    obtain ⟨x50, h49, hh⟩ := hh
    refine go_call hF (c_spec_EvOk hQ h49) ?_
    cbv
    replace hh := if_or hh
    rcases hh with ⟨b52, hh⟩ | ⟨b52, hh⟩
    ·
     have f53 : x50 = true := Tb b52
     have g := f53; cbv at g; try rw [f53]
     try rw [g]
     cbv
     refine bcs (fun f55 => ?_) (fun f55 => ?_)
     ·
      replace hh := ifT hh f55
      try rw [f55]
      cbv
      replace hh := req_some hh
      obtain ⟨h56, hh⟩ := hh
      replace hh := bind_some hh
      obtain ⟨⟨e57a, e57b, e57c⟩, h58, hh⟩ := hh
      try dsimp only at hh
      refine ⟨[iA e57a, iA e57b, iA e57c], Nb h56, Gb h58, ?_⟩
      cbv
      replace hh := req_some hh
      obtain ⟨h59, hh⟩ := hh
      replace hh := bind_some hh
      obtain ⟨⟨e60a, e60b, e60c⟩, h61, hh⟩ := hh
      try dsimp only at hh
      refine ⟨[iA e60a, iA e60b, iA e60c], Nb h59, Gb h61, ?_⟩
      cbv
      replace hh := if_or hh
      rcases hh with ⟨b62, hh⟩ | ⟨b62, hh⟩
      ·
       have f63 : (lt e60b e57b) = true := Tb b62
       have g := f63; cbv at g; try rw [f63]
       try rw [g]
       cbv
       refine hN1 _ _ hh fun t0 e => ?_
       refine cov_of [] ?_
       cbv
       all_goals exact J1
      ·
       have f63 : (lt e60b e57b) = false := Fb b62
       have g := f63; cbv at g; try rw [f63]
       try rw [g]
       cbv
       cases hh
       have hh : some _ = some _ := hq1
       refine hQ1 _ _ ?_
       cbv
       exact Eb
     ·
      replace hh := ifF hh f55
      try rw [f55]
      cbv
      refine hN1 _ _ hh fun t0 e => ?_
      refine cov_of [] ?_
      cbv
      all_goals exact J1
    ·
     have f53 : x50 = false := Fb b52
     have g := f53; cbv at g; try rw [f53]
     try rw [g]
     cbv
     cases hh
     have hh : some _ = some _ := hq1
     refine hQ1 _ _ ?_
     cbv
     exact Eb
   ·
    replace hh := ifF hh f45
    try rw [f45]
    cbv
    refine hD1 () _ hh fun _ e => ?_
    refine cov_of [] ?_
    cbv
    all_goals exact J0

theorem c_spec_l6Sym {k : Nat} {p0 : Int} {p1 : List GEv} {r : List GOcc} (hh : spec_l6Sym.f k p0 p1 = some r) : FunW P 127 [iA p0, tA (qGEv p1)] [hA, hA] (oA 3 (qGOccO r)) := by
 unfold spec_l6Sym.f at hh
 refine go (ts := [(4, none)]) (rm := [.own]) (pm := [.skip, .skip]) Tryz.func127 ?_
 intro Fn LW len cast toNat wrap add sub mul bin lt eq At set part app fz' rep nadd nmax ssize sext sget scat seq slt Wide Flat Ones Room r' post' hC hF hr hp
 cbv
 replace hh := bind_some hh
 obtain ⟨o1, hl1, hq1⟩ := hh
 refine loop_go4 hC eok mixed (fun n (i : (List GOcc) × Int) => spec_l6Sym.l0 k p0 p1 n i.1 i.2)
  (fun ⟨s15, s16⟩ => (⟨[(0, iA p0), (1, tA (qGEv p1)), (5, .ref (7, 0) 1 0 (len (qGOccO s15))), (6, iA s16)], [((7, 0), .arr 1 3 (qGOccO s15))]⟩ : St))
  (fun (x31 : List GOcc) => (⟨[(5, .ref (7, 0) 1 0 (len (qGOccO x31)))], [((7, 0), .arr 1 3 (qGOccO x31))]⟩ : St)) (fun x => x) (.exit 0)
  (i0 := (_, _)) hl1 (fun _ => rfl) ?_ ?_ ?_
 ·
  rintro ⟨t0, t1⟩ e
  refine cov_of [((7, 0), (7, 0))] ?_
  cbv
  all_goals exact J2
 ·
  rintro x31 hx
  subst o1
  have hh := hq1
  cbv
  exact Eb
 ·
  rintro n ⟨s15, s16⟩ N1 D1 hh hN1 hD1 hQ1
  dsimp only at hh
  unfold spec_l6Sym.l0 at hh
  cbv
  refine bcs (fun f33 => ?_) (fun f33 => ?_)
  ·
   replace hh := ifT hh f33
   try rw [f33]
   cbv
   replace hh := req_some hh
   obtain ⟨h34, hh⟩ := hh
   replace hh := bind_some hh
   obtain ⟨⟨e35a, e35b, e35c⟩, h36, hh⟩ := hh
   try dsimp only at hh
   refine ⟨[iA e35a, iA e35b, iA e35c], Nb h34, Gb h36, ?_⟩
   cbv
   refine bcs (fun f38 => ?_) (fun f38 => ?_)
   ·
    replace hh := ifT hh f38
    try rw [f38]
    cbv
    replace hh := req_some hh
    obtain ⟨h39, hh⟩ := hh
    replace hh := bind_some hh
    obtain ⟨⟨e40a, e40b, e40c⟩, h41, hh⟩ := hh
    try dsimp only at hh
    refine ⟨[iA e40a, iA e40b, iA e40c], Nb h39, Gb h41, ?_⟩
    cbv
    replace hh := req_some hh
    obtain ⟨h42, hh⟩ := hh
    replace hh := bind_some hh
    obtain ⟨⟨e43a, e43b, e43c⟩, h44, hh⟩ := hh
    try dsimp only at hh
    refine ⟨[iA e43a, iA e43b, iA e43c], Nb h42, Gb h44, ?_⟩
    cbv
    refine ⟨Ob, ?_⟩
    replace hh := req_some hh
    obtain ⟨h45, hh⟩ := hh
    refine ⟨⟨Ob, Ab⟩, ?_⟩
    refine ⟨⟨Ob, Wb h45⟩, ?_⟩
    refine hN1 (_, _) _ hh fun ⟨t0, t1⟩ e => ?_
    refine cov_of [((7, 0), (36, 0))] ?_
    cbv
    all_goals exact J2
   ·
    replace hh := ifF hh f38
    try rw [f38]
    cbv
    refine hN1 (_, _) _ hh fun ⟨t0, t1⟩ e => ?_
    refine cov_of [((7, 0), (7, 0))] ?_
    cbv
    all_goals exact J2
  ·
   replace hh := ifF hh f33
   try rw [f33]
   cbv
   refine hD1 _ _ hh fun t0 e => ?_
   refine cov_of [((7, 0), (7, 0))] ?_
   cbv
   all_goals exact J1

theorem c_spec_OccOk {k : Nat} {p0 : GOcc} {r : Bool} (hh : spec_OccOk.f k p0 = some r) : FunW P 185 [.agg [iA p0.From, iA p0.To, tA (qInt p0.Ids)]] [hA] (bA r) := by
 obtain ⟨p0a, p0b, p0c⟩ := p0
 unfold spec_OccOk.f at hh
 refine go (ts := [(2, none)]) (rm := [.own]) (pm := [.skip]) Tryz.func185 ?_
 intro Fn LW len cast toNat wrap add sub mul bin lt eq At set part app fz' rep nadd nmax ssize sext sget scat seq slt Wide Flat Ones Room r' post' hC hF hr hp
 cbv
 refine bcs (fun f2 => ?_) (fun f2 => ?_)
 ·
  replace hh := ifT hh f2
  try rw [f2]
  cbv
  exact Eb
 ·
  replace hh := ifF hh f2
  try rw [f2]
  cbv
  refine bcs (fun f4 => ?_) (fun f4 => ?_)
  ·
   replace hh := ifT hh f4
   try rw [f4]
   cbv
   exact Eb
  ·
   replace hh := ifF hh f4
   try rw [f4]
   cbv
   refine bcs (fun f6 => ?_) (fun f6 => ?_)
   ·
    replace hh := ifT hh f6
    try rw [f6]
    cbv
    exact Eb
   ·
    replace hh := ifF hh f6
    try rw [f6]
    cbv
    refine bcs (fun f8 => ?_) (fun f8 => ?_)
    ·
     replace hh := ifT hh f8
     try rw [f8]
     cbv
     exact Eb
    ·
     replace hh := ifF hh f8
     try rw [f8]
     cbv
     refine bcs (fun f10 => ?_) (fun f10 => ?_)
     ·
      replace hh := ifT hh f10
      try rw [f10]
      cbv
      exact Eb
     ·
      replace hh := ifF hh f10
      try rw [f10]
      cbv
      replace hh := bind_some hh
      obtain ⟨o1, hl1, hq1⟩ := hh
      refine loop_go4 hC eok mixed (spec_OccOk.l0 k (⟨p0a, p0b, p0c⟩ : GOcc))
       (fun s33 => (⟨[(1, .mptr (1, 0) 1 0 0), (3, iA s33)], [((1, 0), .box 1 [iA p0a, iA p0b, tA (qInt p0c)])]⟩ : St))
       (fun (_ : Unit) => (⟨[], []⟩ : St)) .ok (.exit 0)
       (i0 := _) hl1 (fun _ => rfl) ?_ ?_ ?_
      ·
       rintro t0 e
       refine cov_of [((1, 0), (1, 0))] ?_
       cbv
       all_goals exact J1
      ·
       rintro _ hx
       subst o1
       have hh := hq1
       cbv
       exact Eb
      ·
       rintro n s33 N1 D1 hh hN1 hD1 hQ1
       unfold spec_OccOk.l0 at hh
       cbv
       refine bcs (fun f57 => ?_) (fun f57 => ?_)
       ·
        replace hh := ifT hh f57
        try rw [f57]
        cbv
        replace hh := req_some hh
        obtain ⟨h58, hh⟩ := hh
        replace hh := bind_some hh
        obtain ⟨e59, h60, hh⟩ := hh
        refine ⟨[iA e59], Nb h58, Gb h60, ?_⟩
        cbv
        refine bcs (fun f62 => ?_) (fun f62 => ?_)
        ·
         replace hh := ifT hh f62
         try rw [f62]
         cbv
         cases hh
         have hh : some _ = some _ := hq1
         refine hQ1 _ _ ?_
         cbv
         exact Eb
        ·
         replace hh := ifF hh f62
         try rw [f62]
         cbv
         replace hh := req_some hh
         obtain ⟨h63, hh⟩ := hh
         replace hh := bind_some hh
         obtain ⟨e64, h65, hh⟩ := hh
         refine ⟨[iA e64], Nb h63, Gb h65, ?_⟩
         cbv
         replace hh := if_or hh
         rcases hh with ⟨b66, hh⟩ | ⟨b66, hh⟩
         ·
          have f67 : (lt e64 24) = true := Tb b66
          have g := f67; cbv at g; try rw [f67]
          try rw [g]
          cbv
          refine bcs (fun f69 => ?_) (fun f69 => ?_)
          ·
           replace hh := ifT hh f69
           try rw [f69]
           cbv
           replace hh := req_some hh
           obtain ⟨h70, hh⟩ := hh
           replace hh := bind_some hh
           obtain ⟨e71, h72, hh⟩ := hh
           refine ⟨[iA e71], Nb h70, Gb h72, ?_⟩
           cbv
           replace hh := req_some hh
           obtain ⟨h73, hh⟩ := hh
           replace hh := bind_some hh
           obtain ⟨e74, h75, hh⟩ := hh
           refine ⟨[iA e74], Nb h73, Gb h75, ?_⟩
           cbv
           replace hh := if_or hh
           rcases hh with ⟨b76, hh⟩ | ⟨b76, hh⟩
           ·
            have f77 : (lt e74 e71) = true := Tb b76
            have g := f77; cbv at g; try rw [f77]
            try rw [g]
            cbv
            refine hN1 _ _ hh fun t0 e => ?_
            refine cov_of [((1, 0), (1, 0))] ?_
            cbv
            all_goals exact J1
           ·
            have f77 : (lt e74 e71) = false := Fb b76
            have g := f77; cbv at g; try rw [f77]
            try rw [g]
            cbv
            cases hh
            have hh : some _ = some _ := hq1
            refine hQ1 _ _ ?_
            cbv
            exact Eb
          ·
           replace hh := ifF hh f69
           try rw [f69]
           cbv
           refine hN1 _ _ hh fun t0 e => ?_
           refine cov_of [((1, 0), (1, 0))] ?_
           cbv
           all_goals exact J1
         ·
          have f67 : (lt e64 24) = false := Fb b66
          have g := f67; cbv at g; try rw [f67]
          try rw [g]
          cbv
          cases hh
          have hh : some _ = some _ := hq1
          refine hQ1 _ _ ?_
          cbv
          exact Eb
       ·
        replace hh := ifF hh f57
        try rw [f57]
        cbv
        refine hD1 () _ hh fun _ e => ?_
        refine cov_of [] ?_
        cbv
        all_goals exact J0

theorem c_spec_l3Ids {k : Nat} {p0 : List Int} {p1 : List Int} {r : Int} (hh : spec_l3Ids.f k p0 p1 = some r) : FunW P 207 [tA (qInt p0), tA (qInt p1)] [hA, hA] (iA r) := by
 unfold spec_l3Ids.f at hh
 refine go (ts := [(4, none)]) (rm := [.own]) (pm := [.skip, .skip]) Tryz.func207 ?_
 intro Fn LW len cast toNat wrap add sub mul bin lt eq At set part app fz' rep nadd nmax ssize sext sget scat seq slt Wide Flat Ones Room r' post' hC hF hr hp
 cbv
 replace hh := bind_some hh
 obtain ⟨o1, hl1, hq1⟩ := hh
 refine loop_go4 hC eok mixed (spec_l3Ids.l0 k p0 p1)
  (fun s21 => (⟨[(0, tA (qInt p0)), (1, tA (qInt p1)), (5, iA s21)], []⟩ : St))
  (fun (_ : Unit) => (⟨[(0, tA (qInt p0)), (1, tA (qInt p1))], []⟩ : St)) .ok (.exit 0)
  (i0 := _) hl1 (fun _ => rfl) ?_ ?_ ?_
 ·
  rintro t0 e
  refine cov_of [] ?_
  cbv
  all_goals exact J1
 ·
  rintro _ hx
  subst o1
  have hh := hq1
  cbv
  refine bcs (fun f63 => ?_) (fun f63 => ?_)
  ·
   replace hh := ifT hh f63
   try rw [f63]
   cbv
   exact Eb
  ·
   replace hh := ifF hh f63
   try rw [f63]
   cbv
   refine bcs (fun f65 => ?_) (fun f65 => ?_)
   ·
    replace hh := ifT hh f65
    try rw [f65]
    cbv
    exact Eb
   ·
    replace hh := ifF hh f65
    try rw [f65]
    cbv
    exact Eb
 ·
  rintro n s21 N1 D1 hh hN1 hD1 hQ1
  unfold spec_l3Ids.l0 at hh
  cbv
  refine bcs (fun f43 => ?_) (fun f43 => ?_)
  ·
   replace hh := ifT hh f43
   try rw [f43]
   cbv
   refine bcs (fun f45 => ?_) (fun f45 => ?_)
   ·
    replace hh := ifT hh f45
    try rw [f45]
    cbv
    replace hh := req_some hh
    obtain ⟨h46, hh⟩ := hh
    replace hh := bind_some hh
    obtain ⟨e47, h48, hh⟩ := hh
    refine ⟨[iA e47], Nb h46, Gb h48, ?_⟩
    cbv
    replace hh := req_some hh
    obtain ⟨h49, hh⟩ := hh
    replace hh := bind_some hh
    obtain ⟨e50, h51, hh⟩ := hh
    refine ⟨[iA e50], Nb h49, Gb h51, ?_⟩
    cbv
    refine bcs (fun f53 => ?_) (fun f53 => ?_)
    ·
     replace hh := ifT hh f53
     try rw [f53]
     cbv
     cases hh
     have hh : some _ = some _ := hq1
     refine hQ1 _ _ ?_
     cbv
     exact Eb
    ·
     replace hh := ifF hh f53
     try rw [f53]
     cbv
     replace hh := req_some hh
     obtain ⟨h54, hh⟩ := hh
     replace hh := bind_some hh
     obtain ⟨e55, h56, hh⟩ := hh
     refine ⟨[iA e55], Nb h54, Gb h56, ?_⟩
     cbv
     replace hh := req_some hh
     obtain ⟨h57, hh⟩ := hh
     replace hh := bind_some hh
     obtain ⟨e58, h59, hh⟩ := hh
     refine ⟨[iA e58], Nb h57, Gb h59, ?_⟩
     cbv
     refine bcs (fun f61 => ?_) (fun f61 => ?_)
     ·
      replace hh := ifT hh f61
      try rw [f61]
      cbv
      cases hh
      have hh : some _ = some _ := hq1
      refine hQ1 _ _ ?_
      cbv
      exact Eb
     ·
      replace hh := ifF hh f61
      try rw [f61]
      cbv
      refine hN1 _ _ hh fun t0 e => ?_
      refine cov_of [] ?_
      cbv
      all_goals exact J1
   ·
    replace hh := ifF hh f45
    try rw [f45]
    cbv
    refine hD1 () _ hh fun _ e => ?_
    refine cov_of [] ?_
    cbv
    all_goals exact J0
  ·
   replace hh := ifF hh f43
   try rw [f43]
   cbv
   refine hD1 () _ hh fun _ e => ?_
   refine cov_of [] ?_
   cbv
   all_goals exact J0

end Go.Proofs.YtdhlbpgjcfdofaaGreat
