/- The functions of this program do what the plain ones do. -/
import Derived.Test.YtdhlbpgjcfdofaaGreatC3
namespace Go.Proofs.YtdhlbpgjcfdofaaGreat
open Go Go.Vm
set_option linter.unusedVariables false
set_option maxHeartbeats 4000000
variable {qIu8 : List Int → Vm.Rows} {qInt : List Int → Vm.Rows} {qGExO : List GEx → Vm.Rows} {qGEx : List GEx → Vm.Rows} {qGEv : List GEv → Vm.Rows} {qGOccO : List GOcc → Vm.Rows} {qGOcc : List GOcc → Vm.Rows} {qLGOccO : List (List GOcc) → Vm.Rows} {qLGOcc : List (List GOcc) → Vm.Rows} {qLInt : List (List Int) → Vm.Rows} {qBool : List Bool → Vm.Rows} (hQ : EQ qIu8 qInt qGExO qGEx qGEv qGOccO qGOcc qLGOccO qLGOcc qLInt qBool)
include hQ
theorem c_spec_AndOf {k : Nat} {p0 : Int} {p1 : List GOcc} {p2 : List GOcc} {r : (List GOcc) × Bool} (hh : spec_AndOf.f k p0 p1 p2 = some r) : FunW P 129 [iA p0, tA (qGOcc p1), tA (qGOcc p2)] [hA, hA, hA] (.tup [oA 3 (qGOccO r.1), bA r.2]) := by
 unfold spec_AndOf.f at hh
 refine go (ts := [(6, none), (7, none)]) (rm := [.own, .own]) (pm := [.skip, .skip, .skip]) Tryz.func129 ?_
 intro Fn LW len cast toNat wrap add sub mul bin lt eq At set part app fz' rep nadd nmax ssize sext sget scat seq slt Wide Flat Ones Room r' post' hC hF hr hp
 cbv
 replace hh := bind_some hh
 obtain ⟨x2, h1, hh⟩ := hh
 refine go_call hF (c_spec_l4Mode hQ h1) ?_
 cbv
 replace hh := if_or hh
 rcases hh with ⟨b4, hh⟩ | ⟨b4, hh⟩
 ·
  have f5 : x2 = true := Tb b4
  have g := f5; cbv at g; try rw [f5]
  try rw [g]
  cbv
  replace hh := bind_some hh
  obtain ⟨x7, h6, hh⟩ := hh
  refine go_call hF (c_spec_OccsOk hQ h6) ?_
  cbv
  replace hh := if_or hh
  rcases hh with ⟨b9, hh⟩ | ⟨b9, hh⟩
  ·
   have f10 : x7 = true := Tb b9
   have g := f10; cbv at g; try rw [f10]
   try rw [g]
   cbv
   replace hh := bind_some hh
   obtain ⟨x12, h11, hh⟩ := hh
   refine go_call hF (c_spec_OccsOk hQ h11) ?_
   cbv
   replace hh := if_or hh
   rcases hh with ⟨b14, hh⟩ | ⟨b14, hh⟩
   ·
    have f15 : x12 = true := Tb b14
    have g := f15; cbv at g; try rw [f15]
    try rw [g]
    cbv
    replace hh := bind_some hh
    obtain ⟨x17, h16, hh⟩ := hh
    refine go_call hF (c_spec_l4Both hQ h16) ?_
    cbv
    replace hh := bind_some hh
    obtain ⟨⟨x20_0, x20_1⟩, h19, hh⟩ := hh
    try dsimp only at hh
    have fc := c_spec_l4Told_L0S hQ h19
    try dsimp only at fc
    refine go_call hF fc ?_
    cbv
    exact Eb
   ·
    have f15 : x12 = false := Fb b14
    have g := f15; cbv at g; try rw [f15]
    try rw [g]
    cbv
    exact Eb
  ·
   have f10 : x7 = false := Fb b9
   have g := f10; cbv at g; try rw [f10]
   try rw [g]
   cbv
   exact Eb
 ·
  have f5 : x2 = false := Fb b4
  have g := f5; cbv at g; try rw [f5]
  try rw [g]
  cbv
  exact Eb

theorem c_spec_SeqOf {k : Nat} {p0 : Int} {p1 : List GOcc} {p2 : List GOcc} {r : (List GOcc) × Bool} (hh : spec_SeqOf.f k p0 p1 p2 = some r) : FunW P 130 [iA p0, tA (qGOcc p1), tA (qGOcc p2)] [hA, hA, hA] (.tup [oA 3 (qGOccO r.1), bA r.2]) := by
 unfold spec_SeqOf.f at hh
 refine go (ts := [(6, none), (7, none)]) (rm := [.own, .own]) (pm := [.skip, .skip, .skip]) Tryz.func130 ?_
 intro Fn LW len cast toNat wrap add sub mul bin lt eq At set part app fz' rep nadd nmax ssize sext sget scat seq slt Wide Flat Ones Room r' post' hC hF hr hp
 cbv
 replace hh := bind_some hh
 obtain ⟨x2, h1, hh⟩ := hh
 refine go_call hF (c_spec_l4Mode hQ h1) ?_
 cbv
 replace hh := if_or hh
 rcases hh with ⟨b4, hh⟩ | ⟨b4, hh⟩
 ·
  have f5 : x2 = true := Tb b4
  have g := f5; cbv at g; try rw [f5]
  try rw [g]
  cbv
  replace hh := bind_some hh
  obtain ⟨x7, h6, hh⟩ := hh
  refine go_call hF (c_spec_OccsOk hQ h6) ?_
  cbv
  replace hh := if_or hh
  rcases hh with ⟨b9, hh⟩ | ⟨b9, hh⟩
  ·
   have f10 : x7 = true := Tb b9
   have g := f10; cbv at g; try rw [f10]
   try rw [g]
   cbv
   replace hh := bind_some hh
   obtain ⟨x12, h11, hh⟩ := hh
   refine go_call hF (c_spec_OccsOk hQ h11) ?_
   cbv
   replace hh := if_or hh
   rcases hh with ⟨b14, hh⟩ | ⟨b14, hh⟩
   ·
    have f15 : x12 = true := Tb b14
    have g := f15; cbv at g; try rw [f15]
    try rw [g]
    cbv
    replace hh := bind_some hh
    obtain ⟨x17, h16, hh⟩ := hh
    refine go_call hF (c_spec_l4Both hQ h16) ?_
    cbv
    replace hh := bind_some hh
    obtain ⟨⟨x20_0, x20_1⟩, h19, hh⟩ := hh
    try dsimp only at hh
    have fc := c_spec_l4Told_L0S hQ h19
    try dsimp only at fc
    refine go_call hF fc ?_
    cbv
    exact Eb
   ·
    have f15 : x12 = false := Fb b14
    have g := f15; cbv at g; try rw [f15]
    try rw [g]
    cbv
    exact Eb
  ·
   have f10 : x7 = false := Fb b9
   have g := f10; cbv at g; try rw [f10]
   try rw [g]
   cbv
   exact Eb
 ·
  have f5 : x2 = false := Fb b4
  have g := f5; cbv at g; try rw [f5]
  try rw [g]
  cbv
  exact Eb

theorem c_spec_SpanOk {k : Nat} {p0 : GSpan} {r : Bool} (hh : spec_SpanOk.f k p0 = some r) : FunW P 190 [.agg [tA (qGOcc p0.Left), tA (qGOcc p0.Mid)]] [hA] (bA r) := by
 obtain ⟨p0a, p0b⟩ := p0
 unfold spec_SpanOk.f at hh
 refine go (ts := [(2, none)]) (rm := [.own]) (pm := [.skip]) Tryz.func190 ?_
 intro Fn LW len cast toNat wrap add sub mul bin lt eq At set part app fz' rep nadd nmax ssize sext sget scat seq slt Wide Flat Ones Room r' post' hC hF hr hp
 cbv
 replace hh := bind_some hh
 obtain ⟨x2, h1, hh⟩ := hh
 refine go_call hF (c_spec_OccsOk hQ h1) ?_
 cbv
 refine bcs (fun f5 => ?_) (fun f5 => ?_)
 ·
  replace hh := ifT hh f5
  try rw [f5]
  cbv
  replace hh := bind_some hh
  obtain ⟨x7, h6, hh⟩ := hh
  refine go_call hF (c_spec_OccsOk hQ h6) ?_
  cbv
  exact Eb
 ·
  replace hh := ifF hh f5
  try rw [f5]
  cbv
  exact Eb

theorem c_spec_l5Fits {k : Nat} {p0 : Int} {p1 : GSpan} {p2 : List GOcc} {p3 : List GOcc} {p4 : List GOcc} {r : Bool} (hh : spec_l5Fits.f k p0 p1 p2 p3 p4 = some r) : FunW P 157 [iA p0, .agg [tA (qGOcc p1.Left), tA (qGOcc p1.Mid)], tA (qGOcc p2), tA (qGOcc p3), tA (qGOcc p4)] [hA, hA, hA, hA, hA] (bA r) := by
 obtain ⟨p1a, p1b⟩ := p1
 unfold spec_l5Fits.f at hh
 refine go (ts := [(10, none)]) (rm := [.own]) (pm := [.skip, .skip, .skip, .skip, .skip]) Tryz.func157 ?_
 intro Fn LW len cast toNat wrap add sub mul bin lt eq At set part app fz' rep nadd nmax ssize sext sget scat seq slt Wide Flat Ones Room r' post' hC hF hr hp
 cbv
 replace hh := bind_some hh
 obtain ⟨x2, h1, hh⟩ := hh
 refine go_call hF (c_spec_l4Mode hQ h1) ?_
 cbv
 refine bcs (fun f5 => ?_) (fun f5 => ?_)
 ·
  replace hh := ifT hh f5
  try rw [f5]
  cbv
  replace hh := bind_some hh
  obtain ⟨x7, h6, hh⟩ := hh
  refine go_call hF (c_spec_SpanOk hQ h6) ?_
  cbv
  refine bcs (fun f10 => ?_) (fun f10 => ?_)
  ·
   replace hh := ifT hh f10
   try rw [f10]
   cbv
   replace hh := bind_some hh
   obtain ⟨x12, h11, hh⟩ := hh
   refine go_call hF (c_spec_OccsOk hQ h11) ?_
   cbv
   refine bcs (fun f15 => ?_) (fun f15 => ?_)
   ·
    replace hh := ifT hh f15
    try rw [f15]
    cbv
    replace hh := bind_some hh
    obtain ⟨x17, h16, hh⟩ := hh
    refine go_call hF (c_spec_OccsOk hQ h16) ?_
    cbv
    refine bcs (fun f20 => ?_) (fun f20 => ?_)
    ·
     replace hh := ifT hh f20
     try rw [f20]
     cbv
     replace hh := bind_some hh
     obtain ⟨x22, h21, hh⟩ := hh
     refine go_call hF (c_spec_OccsOk hQ h21) ?_
     cbv
     exact Eb
    ·
     replace hh := ifF hh f20
     try rw [f20]
     cbv
     exact Eb
   ·
    replace hh := ifF hh f15
    try rw [f15]
    cbv
    exact Eb
  ·
   replace hh := ifF hh f10
   try rw [f10]
   cbv
   exact Eb
 ·
  replace hh := ifF hh f5
  try rw [f5]
  cbv
  exact Eb
theorem c_spec_l5Fits_L1 {k : Nat} {p0 : Int} {p1 : GSpan} {p2 : List GOcc} {p3 : List GOcc} {p4 : List GOcc} {r : Bool} (hh : spec_l5Fits.f k p0 p1 p2 p3 p4 = some r) : FunW P 157 [iA p0, .agg [oA 3 (qGOccO p1.Left), oA 3 (qGOccO p1.Mid)], tA (qGOcc p2), tA (qGOcc p3), tA (qGOcc p4)] [hA, .agg [oA 3 (qGOccO p1.Left), oA 3 (qGOccO p1.Mid)], hA, hA, hA] (bA r) := by
  cases hQ; exact (c_spec_l5Fits .mk hh).lend (rfl) (.same rfl (.lend (by simp) (.same rfl (.same rfl (.same rfl .nil)))))

theorem c_spec_l5Between {k : Nat} {p0 : List GOcc} {p1 : Int} {p2 : Int} {r : Bool} (hh : spec_l5Between.f k p0 p1 p2 = some r) : FunW P 219 [tA (qGOcc p0), iA p1, iA p2] [hA, hA, hA] (bA r) := by
 unfold spec_l5Between.f at hh
 refine go (ts := [(6, none)]) (rm := [.own]) (pm := [.skip, .skip, .skip]) Tryz.func219 ?_
 intro Fn LW len cast toNat wrap add sub mul bin lt eq At set part app fz' rep nadd nmax ssize sext sget scat seq slt Wide Flat Ones Room r' post' hC hF hr hp
 cbv
 replace hh := bind_some hh
 obtain ⟨o1, hl1, hq1⟩ := hh
 refine loop_go4 hC eok mixed (spec_l5Between.l0 k p0 p1 p2)
  (fun s13 => (⟨[(0, tA (qGOcc p0)), (1, iA p1), (2, iA p2), (7, iA s13)], []⟩ : St))
  (fun (_ : Unit) => (⟨[], []⟩ : St)) .ok (.exit 0)
  (i0 := _) hl1 (fun _ => rfl) ?_ ?_ ?_
 ·
  rintro t0 e
  refine cov_of [] ?_
  cbv
  all_goals exact J1
 ·
  rintro _ hx
  subst o1
  have hh := hq1
  cbv
  exact Eb
 ·
  rintro n s13 N1 D1 hh hN1 hD1 hQ1
  unfold spec_l5Between.l0 at hh
  cbv
  refine bcs (fun f27 => ?_) (fun f27 => ?_)
  ·
   replace hh := ifT hh f27
   try rw [f27]
   cbv
   replace hh := req_some hh
   obtain ⟨h28, hh⟩ := hh
   replace hh := bind_some hh
   obtain ⟨⟨e29a, e29b, e29c⟩, h30, hh⟩ := hh
   try dsimp only at hh
   refine ⟨[iA e29a, iA e29b, tA (qInt e29c)], Nb h28, Gb h30, ?_⟩
   cbv
   refine bcs (fun f32 => ?_) (fun f32 => ?_)
   ·
    replace hh := ifT hh f32
    try rw [f32]
    cbv
    replace hh := req_some hh
    obtain ⟨h33, hh⟩ := hh
    replace hh := bind_some hh
    obtain ⟨⟨e34a, e34b, e34c⟩, h35, hh⟩ := hh
    try dsimp only at hh
    refine ⟨[iA e34a, iA e34b, tA (qInt e34c)], Nb h33, Gb h35, ?_⟩
    cbv
    refine bcs (fun f37 => ?_) (fun f37 => ?_)
    ·
     replace hh := ifT hh f37
     try rw [f37]
     cbv
     cases hh
     have hh : some _ = some _ := hq1
     refine hQ1 _ _ ?_
     cbv
     exact Eb
    ·
     replace hh := ifF hh f37
     try rw [f37]
     cbv
     refine hN1 _ _ hh fun t0 e => ?_
     refine cov_of [] ?_
     cbv
     all_goals exact J1
   ·
    replace hh := ifF hh f32
    try rw [f32]
    cbv
    refine hN1 _ _ hh fun t0 e => ?_
    refine cov_of [] ?_
    cbv
    all_goals exact J1
  ·
   replace hh := ifF hh f27
   try rw [f27]
   cbv
   refine hD1 () _ hh fun _ e => ?_
   refine cov_of [] ?_
   cbv
   all_goals exact J0

theorem c_spec_l5Open {k : Nat} {p0 : GSpan} {p1 : GOcc} {r : List Bool} (hh : spec_l5Open.f k p0 p1 = some r) : FunW P 212 [.agg [tA (qGOcc p0.Left), tA (qGOcc p0.Mid)], .agg [iA p1.From, iA p1.To, tA (qInt p1.Ids)]] [hA, hA] (oA 1 (qBool r)) := by
 obtain ⟨p0a, p0b⟩ := p0
 obtain ⟨p1a, p1b, p1c⟩ := p1
 unfold spec_l5Open.f at hh
 refine go (ts := [(4, none)]) (rm := [.own]) (pm := [.skip, .skip]) Tryz.func212 ?_
 intro Fn LW len cast toNat wrap add sub mul bin lt eq At set part app fz' rep nadd nmax ssize sext sget scat seq slt Wide Flat Ones Room r' post' hC hF hr hp
 cbv
 replace hh := req_some hh
 obtain ⟨h1, hh⟩ := hh
 try dsimp only at h1
 replace hh := req_some hh
 obtain ⟨h2, hh⟩ := hh
 try dsimp only at h2
 replace hh := req_some hh
 obtain ⟨h3, hh⟩ := hh
 try dsimp only at h3
 refine ⟨⟨Nb h1, Nb h2, Wb h3⟩, ?_⟩
 replace hh := bind_some hh
 obtain ⟨o1, hl1, hq1⟩ := hh
 refine loop_go4 hC eok mixed (fun n (i : (List Bool) × Int) => spec_l5Open.l0 k (⟨p0a, p0b⟩ : GSpan) (⟨p1a, p1b, p1c⟩ : GOcc) n i.1 i.2)
  (fun ⟨s25, s26⟩ => (⟨[(2, .mptr (2, 0) 1 0 0), (3, .mptr (3, 0) 1 0 0), (5, .ref (10, 0) 1 0 (len (qBool s25))), (6, iA s26)], [((2, 0), .box 1 [tA (qGOcc p0a), tA (qGOcc p0b)]), ((3, 0), .box 1 [iA p1a, iA p1b, tA (qInt p1c)]), ((10, 0), .arr 1 1 (qBool s25))]⟩ : St))
  (fun (x48 : List Bool) => (⟨[(5, .ref (10, 0) 1 0 (len (qBool x48)))], [((10, 0), .arr 1 1 (qBool x48))]⟩ : St)) (fun x => x) (.exit 0)
  (i0 := (_, _)) hl1 (fun _ => rfl) ?_ ?_ ?_
 ·
  rintro ⟨t0, t1⟩ e
  refine cov_of [((2, 0), (2, 0)), ((3, 0), (3, 0)), ((10, 0), (10, 0))] ?_
  cbv
  all_goals exact J2
 ·
  rintro x48 hx
  subst o1
  have hh := hq1
  cbv
  exact Eb
 ·
  rintro n ⟨s25, s26⟩ N1 D1 hh hN1 hD1 hQ1
  dsimp only at hh
  unfold spec_l5Open.l0 at hh
  cbv
  refine bcs (fun f50 => ?_) (fun f50 => ?_)
  ·
   replace hh := ifT hh f50
   try rw [f50]
   cbv
   replace hh := req_some hh
   obtain ⟨h51, hh⟩ := hh
   replace hh := bind_some hh
   obtain ⟨⟨e52a, e52b, e52c⟩, h53, hh⟩ := hh
   try dsimp only at hh
   refine ⟨[iA e52a, iA e52b, tA (qInt e52c)], Nb h51, Gb h53, ?_⟩
   cbv
   refine bcs (fun f55 => ?_) (fun f55 => ?_)
   ·
    replace hh := ifT hh f55
    try rw [f55]
    cbv
    replace hh := req_some hh
    obtain ⟨h56, hh⟩ := hh
    replace hh := bind_some hh
    obtain ⟨⟨e57a, e57b, e57c⟩, h58, hh⟩ := hh
    try dsimp only at hh
    refine ⟨[iA e57a, iA e57b, tA (qInt e57c)], Nb h56, Gb h58, ?_⟩
    cbv
    replace hh := bind_some hh
    obtain ⟨x60, h59, hh⟩ := hh
    refine go_call hF (c_spec_l5Between hQ h59) ?_
    cbv
    replace hh := req_some hh
    obtain ⟨h62, hh⟩ := hh
    replace hh := req_some hh
    obtain ⟨h63, hh⟩ := hh
    refine ⟨Nb h62, Mb h63, ?_⟩
    replace hh := bind_some hh
    obtain ⟨e64, h65, hh⟩ := hh
    refine ⟨[bA e64], Gb h65, ?_⟩
    cbv
    refine hN1 (_, _) _ hh fun ⟨t0, t1⟩ e => ?_
    refine cov_of [((2, 0), (2, 0)), ((3, 0), (3, 0)), ((10, 0), (10, 0))] ?_
    cbv
    all_goals exact J2
   ·
    replace hh := ifF hh f55
    try rw [f55]
    cbv
    replace hh := req_some hh
    obtain ⟨h66, hh⟩ := hh
    replace hh := req_some hh
    obtain ⟨h67, hh⟩ := hh
    refine ⟨Nb h66, Mb h67, ?_⟩
    replace hh := bind_some hh
    obtain ⟨e68, h69, hh⟩ := hh
    refine ⟨[bA e68], Gb h69, ?_⟩
    cbv
    refine hN1 (_, _) _ hh fun ⟨t0, t1⟩ e => ?_
    refine cov_of [((2, 0), (2, 0)), ((3, 0), (3, 0)), ((10, 0), (10, 0))] ?_
    cbv
    all_goals exact J2
  ·
   replace hh := ifF hh f50
   try rw [f50]
   cbv
   refine hD1 _ _ hh fun t0 e => ?_
   refine cov_of [((10, 0), (10, 0))] ?_
   cbv
   all_goals exact J1
theorem c_spec_l5Open_L0S {k : Nat} {p0 : GSpan} {p1 : GOcc} {r : List Bool} (hh : spec_l5Open.f k p0 p1 = some r) : FunW P 212 [.agg [oA 3 (qGOcc p0.Left), oA 3 (qGOcc p0.Mid)], .agg [iA p1.From, iA p1.To, tA (qInt p1.Ids)]] [.agg [oA 3 (qGOcc p0.Left), oA 3 (qGOcc p0.Mid)], hA] (oA 1 (qBool r)) := by
  cases hQ; exact (c_spec_l5Open .mk hh).lend (r_Bool_ownd _) (.lend (by simp) (.same rfl .nil))
theorem c_spec_l5Open_L0 {k : Nat} {p0 : GSpan} {p1 : GOcc} {r : List Bool} (hh : spec_l5Open.f k p0 p1 = some r) : FunW P 212 [.agg [oA 3 (qGOccO p0.Left), oA 3 (qGOccO p0.Mid)], .agg [iA p1.From, iA p1.To, tA (qInt p1.Ids)]] [.agg [oA 3 (qGOccO p0.Left), oA 3 (qGOccO p0.Mid)], hA] (oA 1 (qBool r)) := by
  cases hQ; exact (c_spec_l5Open .mk hh).lend (r_Bool_ownd _) (.lend (by simp) (.same rfl .nil))

theorem c_spec_l5Not {k : Nat} {p0 : Int} {p1 : GSpan} {p2 : List GOcc} {p3 : List GOcc} {p4 : List GOcc} {r : GSpan × (List GOcc)} (hh : spec_l5Not.f k p0 p1 p2 p3 p4 = some r) : FunW P 191 [iA p0, .agg [oA 3 (qGOcc p1.Left), oA 3 (qGOcc p1.Mid)], tA (qGOcc p2), tA (qGOcc p3), tA (qGOcc p4)] [hA, hA, hA, hA, hA] (.tup [.agg [oA 3 (qGOcc r.1.Left), oA 3 (qGOcc r.1.Mid)], oA 3 (qGOcc r.2)]) := by
 obtain ⟨p1a, p1b⟩ := p1
 unfold spec_l5Not.f at hh
 refine go (ts := [(10, some 148), (11, none)]) (rm := [.own, .own]) (pm := [.skip, .skip, .skip, .skip, .skip]) Tryz.func191 ?_
 intro Fn LW len cast toNat wrap add sub mul bin lt eq At set part app fz' rep nadd nmax ssize sext sget scat seq slt Wide Flat Ones Room r' post' hC hF hr hp
 cbv
 replace hh := bind_some hh
 obtain ⟨o1, hl1, hq1⟩ := hh
 refine loop_go4 hC eok mixed (fun n (i : (List GOcc) × (List GOcc) × Int) => spec_l5Not.l0 k p0 (⟨p1a, p1b⟩ : GSpan) p4 n i.1 i.2.1 i.2.2)
  (fun ⟨s21, s22, s23⟩ => (⟨[(0, iA p0), (2, tA (qGOcc p2)), (3, tA (qGOcc p3)), (4, tA (qGOcc p4)), (6, .mptr (6, 0) 1 0 0), (10, .mptr (10, 0) 1 0 0), (12, .ref (16, 0) 1 0 (len (qGOcc s22))), (13, iA s23)], [((1, 0), .arr 1 3 (qGOcc s21)), ((1, 1), .arr 1 3 (qGOcc p1b)), ((6, 0), .box 1 [.ref (1, 0) 1 0 (len (qGOcc s21)), .ref (1, 1) 1 0 (len (qGOcc p1b))]), ((10, 0), .box 1 [.lit (.slice none 0 0), .lit (.slice none 0 0)]), ((16, 0), .arr 1 3 (qGOcc s22))]⟩ : St))
  (fun (⟨x44, x45⟩ : (List GOcc) × (List GOcc)) => (⟨[(2, tA (qGOcc p2)), (3, tA (qGOcc p3)), (6, .mptr (6, 0) 1 0 0), (10, .mptr (10, 0) 1 0 0), (12, .ref (16, 0) 1 0 (len (qGOcc x45)))], [((1, 0), .arr 1 3 (qGOcc x44)), ((1, 1), .arr 1 3 (qGOcc p1b)), ((6, 0), .box 1 [.ref (1, 0) 1 0 (len (qGOcc x44)), .ref (1, 1) 1 0 (len (qGOcc p1b))]), ((10, 0), .box 1 [.lit (.slice none 0 0), .lit (.slice none 0 0)]), ((16, 0), .arr 1 3 (qGOcc x45))]⟩ : St)) (fun x => x) (.exit 0)
  (i0 := (_, _, _)) hl1 (fun _ => rfl) ?_ ?_ ?_
 ·
  rintro ⟨t0, t1, t2⟩ e
  refine cov_of [((1, 0), (1, 0)), ((1, 1), (1, 1)), ((6, 0), (6, 0)), ((10, 0), (10, 0)), ((16, 0), (16, 0))] ?_
  cbv
  all_goals exact J3
 ·
  rintro ⟨x44, x45⟩ hx
  subst o1
  have hh := hq1
  cbv
  replace hh := bind_some hh
  obtain ⟨x67, h66, hh⟩ := hh
  refine go_call hF (c_spec_l4Merge hQ h66) ?_
  cbv
  replace hh := bind_some hh
  obtain ⟨x70, h69, hh⟩ := hh
  refine go_call hF (c_spec_l4Merge hQ h69) ?_
  cbv
  exact Eb
 ·
  rintro n ⟨s21, s22, s23⟩ N1 D1 hh hN1 hD1 hQ1
  dsimp only at hh
  unfold spec_l5Not.l0 at hh
  cbv
  refine bcs (fun f47 => ?_) (fun f47 => ?_)
  ·
   replace hh := ifT hh f47
   try rw [f47]
   cbv
   replace hh := req_some hh
   obtain ⟨h48, hh⟩ := hh
   replace hh := bind_some hh
   obtain ⟨⟨e49a, e49b, e49c⟩, h50, hh⟩ := hh
   try dsimp only at hh
   refine ⟨[iA e49a, iA e49b, tA (qInt e49c)], Nb h48, Gb h50, ?_⟩
   cbv
   replace hh := bind_some hh
   obtain ⟨x52, h51, hh⟩ := hh
   have fc := c_spec_l5Open_L0S hQ h51
   try dsimp only at fc
   refine go_call hF fc ?_
   cbv
   replace hh := bind_some hh
   obtain ⟨⟨x55_0, x55_1⟩, h54, hh⟩ := hh
   try dsimp only at hh
   refine ⟨Ob, ?_⟩
   have fc := c_spec_l4Pick hQ h54
   try dsimp only at fc
   refine go_call hF fc ?_
   cbv
   replace hh := req_some hh
   obtain ⟨h57, hh⟩ := hh
   replace hh := bind_some hh
   obtain ⟨⟨e58a, e58b, e58c⟩, h59, hh⟩ := hh
   try dsimp only at hh
   refine ⟨[iA e58a, iA e58b, tA (qInt e58c)], Nb h57, Gb h59, ?_⟩
   cbv
   replace hh := bind_some hh
   obtain ⟨x61, h60, hh⟩ := hh
   refine go_call hF (c_spec_l4Make hQ h60) ?_
   cbv
   replace hh := bind_some hh
   obtain ⟨x64, h63, hh⟩ := hh
   refine ⟨Ob, ?_⟩
   refine go_call hF (c_spec_l4Merge hQ h63) ?_
   cbv
   refine hN1 (_, _, _) _ hh fun ⟨t0, t1, t2⟩ e => ?_
   refine cov_of [((1, 0), (33, 0)), ((1, 1), (1, 1)), ((6, 0), (6, 0)), ((10, 0), (10, 0)), ((16, 0), (44, 0))] ?_
   cbv
   all_goals exact J3
  ·
   replace hh := ifF hh f47
   try rw [f47]
   cbv
   refine hD1 (_, _) _ hh fun ⟨t0, t1⟩ e => ?_
   refine cov_of [((1, 0), (1, 0)), ((1, 1), (1, 1)), ((6, 0), (6, 0)), ((10, 0), (10, 0)), ((16, 0), (16, 0))] ?_
   cbv
   all_goals exact J2

theorem c_spec_l4Pick_d1 {k : Nat} {p0 : Int} {p1 : List GOcc} {p2 : List Bool} {r : (List GOcc) × (List GOcc)} (hh : spec_l4Pick_d1.f k p0 p1 p2 = some r) : FunW P 208 [iA p0, oA 3 (qGOcc p1), tA (qBool p2)] [hA, oA 3 (qGOcc r.2), hA] (.tup [tA (qGOcc r.1), hA]) := by
 unfold spec_l4Pick_d1.f at hh
 refine go (ts := [(6, none), (7, none)]) (rm := [.val, .skip]) (pm := [.skip, .own, .skip]) Tryz.func208 ?_
 intro Fn LW len cast toNat wrap add sub mul bin lt eq At set part app fz' rep nadd nmax ssize sext sget scat seq slt Wide Flat Ones Room r' post' hC hF hr hp
 cbv
 replace hh := bind_some hh
 obtain ⟨o1, hl1, hq1⟩ := hh
 refine loop_go4 hC eok mixed (fun n (i : (List GOcc) × Int) => spec_l4Pick_d1.l0 k p1 p2 n i.1 i.2)
  (fun ⟨s13, s14⟩ => (⟨[(0, iA p0), (1, .ref (1, 0) 1 0 (len (qGOcc p1))), (2, tA (qBool p2)), (8, .ref (12, 0) 1 0 (len (qGOcc s13))), (9, .ref (13, 0) 1 0 (len (qGOcc ([] : List GOcc)))), (10, iA s14), (1000001, .ref (1, 0) 1 0 (len (qGOcc p1)))], [((1, 0), .arr 1 3 (qGOcc p1)), ((12, 0), .arr 1 3 (qGOcc s13)), ((13, 0), .arr 1 3 (qGOcc ([] : List GOcc)))]⟩ : St))
  (fun (x27 : List GOcc) => (⟨[(0, iA p0), (1, .ref (1, 0) 1 0 (len (qGOcc p1))), (2, tA (qBool p2)), (8, .ref (12, 0) 1 0 (len (qGOcc x27))), (9, .ref (13, 0) 1 0 (len (qGOcc ([] : List GOcc)))), (1000001, .ref (1, 0) 1 0 (len (qGOcc p1)))], [((1, 0), .arr 1 3 (qGOcc p1)), ((12, 0), .arr 1 3 (qGOcc x27)), ((13, 0), .arr 1 3 (qGOcc ([] : List GOcc)))]⟩ : St)) (fun x => x) (.exit 0)
  (i0 := (_, _)) hl1 (fun _ => rfl) ?_ ?_ ?_
 ·
  rintro ⟨t0, t1⟩ e
  refine cov_of [((1, 0), (1, 0)), ((12, 0), (12, 0)), ((13, 0), (13, 0))] ?_
  cbv
  all_goals exact J2
 ·
  rintro x27 hx
  subst o1
  have hh := hq1
  cbv
  refine bcs (fun f41 => ?_) (fun f41 => ?_)
  ·
   replace hh := ifT hh f41
   try rw [f41]
   cbv
   exact Eb
  ·
   replace hh := ifF hh f41
   try rw [f41]
   cbv
   refine bcs (fun f43 => ?_) (fun f43 => ?_)
   ·
    replace hh := ifT hh f43
    try rw [f43]
    cbv
    exact Eb
   ·
    replace hh := ifF hh f43
    try rw [f43]
    cbv
    refine bcs (fun f45 => ?_) (fun f45 => ?_)
    ·
     replace hh := ifT hh f45
     try rw [f45]
     cbv
     replace hh := req_some hh
     obtain ⟨h46, hh⟩ := hh
     replace hh := req_some hh
     obtain ⟨h47, hh⟩ := hh
     replace hh := req_some hh
     obtain ⟨h48, hh⟩ := hh
     refine ⟨⟨Nb h46, Nb h47, Nb h48⟩, ?_⟩
     exact Eb
    ·
     replace hh := ifF hh f45
     try rw [f45]
     cbv
     refine bcs (fun f50 => ?_) (fun f50 => ?_)
     ·
      replace hh := ifT hh f50
      try rw [f50]
      cbv
      replace hh := req_some hh
      obtain ⟨h51, hh⟩ := hh
      replace hh := req_some hh
      obtain ⟨h52, hh⟩ := hh
      replace hh := req_some hh
      obtain ⟨h53, hh⟩ := hh
      refine ⟨⟨Nb h51, Nb h52, Nb h53⟩, ?_⟩
      replace hh := bind_some hh
      obtain ⟨o1, hl1, hq1⟩ := hh
      refine loop_go4 hC eok mixed (fun n (i : (List GOcc) × Int) => spec_l4Pick_d1.l1 k p1 p2 x27 n i.1 i.2)
       (fun ⟨s82, s83⟩ => (⟨[(0, iA p0), (1, .ref (1, 0) 1 0 (len (qGOcc p1))), (2, tA (qBool p2)), (8, .ref (12, 0) 1 (nadd 0 (toNat 0)) (toNat (sub 1 0))), (9, .ref (13, 0) 1 0 (len (qGOcc s82))), (11, iA s83), (1000001, .ref (1, 0) 1 0 (len (qGOcc p1)))], [((1, 0), .arr 1 3 (qGOcc p1)), ((12, 0), .arr 1 3 (qGOcc x27)), ((13, 0), .arr 1 3 (qGOcc s82))]⟩ : St))
       (fun (x112 : List GOcc) => (⟨[(8, .ref (12, 0) 1 (nadd 0 (toNat 0)) (toNat (sub 1 0))), (9, .ref (13, 0) 1 0 (len (qGOcc x112))), (1000001, .ref (1, 0) 1 0 (len (qGOcc p1)))], [((1, 0), .arr 1 3 (qGOcc p1)), ((12, 0), .arr 1 3 (qGOcc x27)), ((13, 0), .arr 1 3 (qGOcc x112))]⟩ : St)) (fun x => x) (.exit 3)
       (i0 := (_, _)) hl1 (fun _ => rfl) ?_ ?_ ?_
      ·
       rintro ⟨t0, t1⟩ e
       refine cov_of [((1, 0), (1, 0)), ((12, 0), (12, 0)), ((13, 0), (13, 0))] ?_
       cbv
       all_goals exact J2
      ·
       rintro x112 hx
       subst o1
       have hh := hq1
       cbv
       exact Eb
      ·
       rintro n ⟨s82, s83⟩ N1 D1 hh hN1 hD1 hQ1
       dsimp only at hh
       unfold spec_l4Pick_d1.l1 at hh
       cbv
       refine bcs (fun f114 => ?_) (fun f114 => ?_)
       ·
        replace hh := ifT hh f114
        try rw [f114]
        cbv
        replace hh := req_some hh
        obtain ⟨h115, hh⟩ := hh
        replace hh := bind_some hh
        obtain ⟨e116, h117, hh⟩ := hh
        refine ⟨[bA e116], Nb h115, Gb h117, ?_⟩
        cbv
        replace hh := if_or hh
        rcases hh with ⟨b118, hh⟩ | ⟨b118, hh⟩
        ·
         have f119 : e116 = true := Tb b118
         have g := f119; cbv at g; try rw [f119]
         try rw [g]
         cbv
         first | rw [f50] | (have g := f50; cbv at g; rw [g])
         cbv
         replace hh := req_some hh
         obtain ⟨h120, hh⟩ := hh
         replace hh := req_some hh
         obtain ⟨h121, hh⟩ := hh
         refine ⟨Nb h120, Mb h121, ?_⟩
         replace hh := bind_some hh
         obtain ⟨⟨e122a, e122b, e122c⟩, h123, hh⟩ := hh
         try dsimp only at hh
         refine ⟨[iA e122a, iA e122b, tA (qInt e122c)], Gb h123, ?_⟩
         cbv
         replace hh := req_some hh
         obtain ⟨h124, hh⟩ := hh
         replace hh := req_some hh
         obtain ⟨h125, hh⟩ := hh
         refine ⟨Nb h124, Mb h125, ?_⟩
         replace hh := bind_some hh
         obtain ⟨⟨e126a, e126b, e126c⟩, h127, hh⟩ := hh
         try dsimp only at hh
         refine ⟨[iA e126a, iA e126b, tA (qInt e126c)], Gb h127, ?_⟩
         cbv
         replace hh := bind_some hh
         obtain ⟨x129, h128, hh⟩ := hh
         refine go_call hF (c_spec_l3Same hQ h128) ?_
         cbv
         replace hh := if_or hh
         rcases hh with ⟨b131, hh⟩ | ⟨b131, hh⟩
         ·
          have f132 : x129 = true := Tb b131
          have g := f132; cbv at g; try rw [f132]
          try rw [g]
          cbv
          refine hN1 (_, _) _ hh fun ⟨t0, t1⟩ e => ?_
          refine cov_of [((1, 0), (1, 0)), ((12, 0), (12, 0)), ((13, 0), (13, 0))] ?_
          cbv
          all_goals exact J2
         ·
          have f132 : x129 = false := Fb b131
          have g := f132; cbv at g; try rw [f132]
          try rw [g]
          cbv
          replace hh := req_some hh
          obtain ⟨h133, hh⟩ := hh
          replace hh := req_some hh
          obtain ⟨h134, hh⟩ := hh
          refine ⟨Nb h133, Mb h134, ?_⟩
          refine ⟨[iA e122a, iA e122b, tA (qInt e122c)], Gb h123, ?_⟩
          cbv
          replace hh := req_some hh
          obtain ⟨h135, hh⟩ := hh
          refine ⟨⟨Ob, Ab⟩, ?_⟩
          refine ⟨⟨Ob, Wb h135⟩, ?_⟩
          refine hN1 (_, _) _ hh fun ⟨t0, t1⟩ e => ?_
          refine cov_of [((1, 0), (1, 0)), ((12, 0), (12, 0)), ((13, 0), (85, 0))] ?_
          cbv
          all_goals exact J2
        ·
         have f119 : e116 = false := Fb b118
         have g := f119; cbv at g; try rw [f119]
         try rw [g]
         cbv
         replace hh := req_some hh
         obtain ⟨h136, hh⟩ := hh
         replace hh := req_some hh
         obtain ⟨h137, hh⟩ := hh
         refine ⟨Nb h136, Mb h137, ?_⟩
         replace hh := bind_some hh
         obtain ⟨⟨e138a, e138b, e138c⟩, h139, hh⟩ := hh
         try dsimp only at hh
         refine ⟨[iA e138a, iA e138b, tA (qInt e138c)], Gb h139, ?_⟩
         cbv
         replace hh := req_some hh
         obtain ⟨h140, hh⟩ := hh
         refine ⟨⟨Ob, Ab⟩, ?_⟩
         refine ⟨⟨Ob, Wb h140⟩, ?_⟩
         refine hN1 (_, _) _ hh fun ⟨t0, t1⟩ e => ?_
         refine cov_of [((1, 0), (1, 0)), ((12, 0), (12, 0)), ((13, 0), (85, 0))] ?_
         cbv
         all_goals exact J2
       ·
        replace hh := ifF hh f114
        try rw [f114]
        cbv
        refine hD1 _ _ hh fun t0 e => ?_
        refine cov_of [((1, 0), (1, 0)), ((12, 0), (12, 0)), ((13, 0), (13, 0))] ?_
        cbv
        all_goals exact J1
     ·
      replace hh := ifF hh f50
      try rw [f50]
      cbv
      replace hh := bind_some hh
      obtain ⟨o1, hl1, hq1⟩ := hh
      refine loop_go4 hC eok mixed (fun n (i : (List GOcc) × Int) => spec_l4Pick_d1.l2 k p1 p2 n i.1 i.2)
       (fun ⟨s153, s154⟩ => (⟨[(0, iA p0), (1, .ref (1, 0) 1 0 (len (qGOcc p1))), (2, tA (qBool p2)), (8, .ref (12, 0) 1 0 (len (qGOcc x27))), (9, .ref (13, 0) 1 0 (len (qGOcc s153))), (11, iA s154), (1000001, .ref (1, 0) 1 0 (len (qGOcc p1)))], [((1, 0), .arr 1 3 (qGOcc p1)), ((12, 0), .arr 1 3 (qGOcc x27)), ((13, 0), .arr 1 3 (qGOcc s153))]⟩ : St))
       (fun (x167 : List GOcc) => (⟨[(8, .ref (12, 0) 1 0 (len (qGOcc x27))), (9, .ref (13, 0) 1 0 (len (qGOcc x167))), (1000001, .ref (1, 0) 1 0 (len (qGOcc p1)))], [((1, 0), .arr 1 3 (qGOcc p1)), ((12, 0), .arr 1 3 (qGOcc x27)), ((13, 0), .arr 1 3 (qGOcc x167))]⟩ : St)) (fun x => x) (.exit 3)
       (i0 := (_, _)) hl1 (fun _ => rfl) ?_ ?_ ?_
      ·
       rintro ⟨t0, t1⟩ e
       refine cov_of [((1, 0), (1, 0)), ((12, 0), (12, 0)), ((13, 0), (13, 0))] ?_
       cbv
       all_goals exact J2
      ·
       rintro x167 hx
       subst o1
       have hh := hq1
       cbv
       exact Eb
      ·
       rintro n ⟨s153, s154⟩ N1 D1 hh hN1 hD1 hQ1
       dsimp only at hh
       unfold spec_l4Pick_d1.l2 at hh
       cbv
       refine bcs (fun f169 => ?_) (fun f169 => ?_)
       ·
        replace hh := ifT hh f169
        try rw [f169]
        cbv
        replace hh := req_some hh
        obtain ⟨h170, hh⟩ := hh
        replace hh := bind_some hh
        obtain ⟨e171, h172, hh⟩ := hh
        refine ⟨[bA e171], Nb h170, Gb h172, ?_⟩
        cbv
        replace hh := if_or hh
        rcases hh with ⟨b173, hh⟩ | ⟨b173, hh⟩
        ·
         have f174 : e171 = true := Tb b173
         have g := f174; cbv at g; try rw [f174]
         try rw [g]
         cbv
         first | rw [f50] | (have g := f50; cbv at g; rw [g])
         cbv
         refine hN1 (_, _) _ hh fun ⟨t0, t1⟩ e => ?_
         refine cov_of [((1, 0), (1, 0)), ((12, 0), (12, 0)), ((13, 0), (13, 0))] ?_
         cbv
         all_goals exact J2
        ·
         have f174 : e171 = false := Fb b173
         have g := f174; cbv at g; try rw [f174]
         try rw [g]
         cbv
         replace hh := req_some hh
         obtain ⟨h175, hh⟩ := hh
         replace hh := req_some hh
         obtain ⟨h176, hh⟩ := hh
         refine ⟨Nb h175, Mb h176, ?_⟩
         replace hh := bind_some hh
         obtain ⟨⟨e177a, e177b, e177c⟩, h178, hh⟩ := hh
         try dsimp only at hh
         refine ⟨[iA e177a, iA e177b, tA (qInt e177c)], Gb h178, ?_⟩
         cbv
         replace hh := req_some hh
         obtain ⟨h179, hh⟩ := hh
         refine ⟨⟨Ob, Ab⟩, ?_⟩
         refine ⟨⟨Ob, Wb h179⟩, ?_⟩
         refine hN1 (_, _) _ hh fun ⟨t0, t1⟩ e => ?_
         refine cov_of [((1, 0), (1, 0)), ((12, 0), (12, 0)), ((13, 0), (85, 0))] ?_
         cbv
         all_goals exact J2
       ·
        replace hh := ifF hh f169
        try rw [f169]
        cbv
        refine hD1 _ _ hh fun t0 e => ?_
        refine cov_of [((1, 0), (1, 0)), ((12, 0), (12, 0)), ((13, 0), (13, 0))] ?_
        cbv
        all_goals exact J1
 ·
  rintro n ⟨s13, s14⟩ N1 D1 hh hN1 hD1 hQ1
  dsimp only at hh
  unfold spec_l4Pick_d1.l0 at hh
  cbv
  refine bcs (fun f29 => ?_) (fun f29 => ?_)
  ·
   replace hh := ifT hh f29
   try rw [f29]
   cbv
   replace hh := req_some hh
   obtain ⟨h30, hh⟩ := hh
   replace hh := bind_some hh
   obtain ⟨e31, h32, hh⟩ := hh
   refine ⟨[bA e31], Nb h30, Gb h32, ?_⟩
   cbv
   refine bcs (fun f34 => ?_) (fun f34 => ?_)
   ·
    replace hh := ifT hh f34
    try rw [f34]
    cbv
    replace hh := req_some hh
    obtain ⟨h35, hh⟩ := hh
    replace hh := req_some hh
    obtain ⟨h36, hh⟩ := hh
    refine ⟨Nb h35, Mb h36, ?_⟩
    replace hh := bind_some hh
    obtain ⟨⟨e37a, e37b, e37c⟩, h38, hh⟩ := hh
    try dsimp only at hh
    refine ⟨[iA e37a, iA e37b, tA (qInt e37c)], Gb h38, ?_⟩
    cbv
    replace hh := req_some hh
    obtain ⟨h39, hh⟩ := hh
    refine ⟨⟨Ob, Ab⟩, ?_⟩
    refine ⟨⟨Ob, Wb h39⟩, ?_⟩
    refine hN1 (_, _) _ hh fun ⟨t0, t1⟩ e => ?_
    refine cov_of [((1, 0), (1, 0)), ((12, 0), (30, 0)), ((13, 0), (13, 0))] ?_
    cbv
    all_goals exact J2
   ·
    replace hh := ifF hh f34
    try rw [f34]
    cbv
    refine hN1 (_, _) _ hh fun ⟨t0, t1⟩ e => ?_
    refine cov_of [((1, 0), (1, 0)), ((12, 0), (12, 0)), ((13, 0), (13, 0))] ?_
    cbv
    all_goals exact J2
  ·
   replace hh := ifF hh f29
   try rw [f29]
   cbv
   refine hD1 _ _ hh fun t0 e => ?_
   refine cov_of [((1, 0), (1, 0)), ((12, 0), (12, 0)), ((13, 0), (13, 0))] ?_
   cbv
   all_goals exact J1

theorem c_spec_l5Each {k : Nat} {p0 : Int} {p1 : GSpan} {p2 : List GOcc} {p3 : List GOcc} {p4 : List GOcc} {r : GSpan × (List GOcc)} (hh : spec_l5Each.f k p0 p1 p2 p3 p4 = some r) : FunW P 192 [iA p0, .agg [oA 3 (qGOcc p1.Left), oA 3 (qGOcc p1.Mid)], tA (qGOcc p2), tA (qGOcc p3), tA (qGOcc p4)] [hA, hA, hA, hA, hA] (.tup [.agg [oA 3 (qGOcc r.1.Left), oA 3 (qGOcc r.1.Mid)], oA 3 (qGOcc r.2)]) := by
 obtain ⟨p1a, p1b⟩ := p1
 unfold spec_l5Each.f at hh
 refine go (ts := [(10, some 148), (11, none)]) (rm := [.own, .own]) (pm := [.skip, .skip, .skip, .skip, .skip]) Tryz.func192 ?_
 intro Fn LW len cast toNat wrap add sub mul bin lt eq At set part app fz' rep nadd nmax ssize sext sget scat seq slt Wide Flat Ones Room r' post' hC hF hr hp
 cbv
 replace hh := bind_some hh
 obtain ⟨o1, hl1, hq1⟩ := hh
 refine loop_go4 hC eok mixed (fun n (i : (List GOcc) × (List GOcc) × Int) => spec_l5Each.l0 k p0 (⟨p1a, p1b⟩ : GSpan) p3 n i.1 i.2.1 i.2.2)
  (fun ⟨s22, s23, s24⟩ => (⟨[(0, iA p0), (2, tA (qGOcc p2)), (3, tA (qGOcc p3)), (4, tA (qGOcc p4)), (6, .mptr (6, 0) 1 0 0), (10, .mptr (10, 0) 1 0 0), (12, .ref (16, 0) 1 0 (len (qGOcc s23))), (13, iA s24), (1000001, .agg [.ref (1, 0) 1 0 (len (qGOcc s22)), .ref (1, 1) 1 0 (len (qGOcc p1b))])], [((1, 0), .arr 1 3 (qGOcc s22)), ((1, 1), .arr 1 3 (qGOcc p1b)), ((6, 0), .box 1 [.ref (1, 0) 1 0 (len (qGOcc s22)), .ref (1, 1) 1 0 (len (qGOcc p1b))]), ((10, 0), .box 1 [.lit (.slice none 0 0), .lit (.slice none 0 0)]), ((16, 0), .arr 1 3 (qGOcc s23))]⟩ : St))
  (fun (⟨x46, x47⟩ : (List GOcc) × (List GOcc)) => (⟨[(2, tA (qGOcc p2)), (4, tA (qGOcc p4)), (6, .mptr (6, 0) 1 0 0), (10, .mptr (10, 0) 1 0 0), (12, .ref (16, 0) 1 0 (len (qGOcc x47))), (1000001, .agg [.ref (1, 0) 1 0 (len (qGOcc x46)), .ref (1, 1) 1 0 (len (qGOcc p1b))])], [((1, 0), .arr 1 3 (qGOcc x46)), ((1, 1), .arr 1 3 (qGOcc p1b)), ((6, 0), .box 1 [.ref (1, 0) 1 0 (len (qGOcc x46)), .ref (1, 1) 1 0 (len (qGOcc p1b))]), ((10, 0), .box 1 [.lit (.slice none 0 0), .lit (.slice none 0 0)]), ((16, 0), .arr 1 3 (qGOcc x47))]⟩ : St)) (fun x => x) (.exit 0)
  (i0 := (_, _, _)) hl1 (fun _ => rfl) ?_ ?_ ?_
 ·
  rintro ⟨t0, t1, t2⟩ e
  refine cov_of [((1, 0), (1, 0)), ((1, 1), (1, 1)), ((6, 0), (6, 0)), ((10, 0), (10, 0)), ((16, 0), (16, 0))] ?_
  cbv
  all_goals exact J3
 ·
  rintro ⟨x46, x47⟩ hx
  subst o1
  have hh := hq1
  cbv
  replace hh := bind_some hh
  obtain ⟨x70, h69, hh⟩ := hh
  refine go_call hF (c_spec_l4Merge hQ h69) ?_
  cbv
  replace hh := bind_some hh
  obtain ⟨x73, h72, hh⟩ := hh
  refine go_call hF (c_spec_l4Merge hQ h72) ?_
  cbv
  exact Eb
 ·
  rintro n ⟨s22, s23, s24⟩ N1 D1 hh hN1 hD1 hQ1
  dsimp only at hh
  unfold spec_l5Each.l0 at hh
  cbv
  refine bcs (fun f49 => ?_) (fun f49 => ?_)
  ·
   replace hh := ifT hh f49
   try rw [f49]
   cbv
   replace hh := req_some hh
   obtain ⟨h50, hh⟩ := hh
   replace hh := bind_some hh
   obtain ⟨⟨e51a, e51b, e51c⟩, h52, hh⟩ := hh
   try dsimp only at hh
   refine ⟨[iA e51a, iA e51b, tA (qInt e51c)], Nb h50, Gb h52, ?_⟩
   cbv
   replace hh := bind_some hh
   obtain ⟨x54, h53, hh⟩ := hh
   have fc := c_spec_l5Open_L0S hQ h53
   try dsimp only at fc
   refine go_call hF fc ?_
   cbv
   replace hh := bind_some hh
   obtain ⟨⟨x57_0, x57_1⟩, h56, hh⟩ := hh
   try dsimp only at hh
   replace hh := req_some hh
   obtain ⟨h68, hh⟩ := hh
   try dsimp only at h68
   refine ⟨Ob, ?_⟩
   have fc := c_spec_l4Pick_d1 hQ h56
   try dsimp only at fc
   refine go_call hF fc ?_
   cbv
   replace hh := req_some hh
   obtain ⟨h59, hh⟩ := hh
   replace hh := bind_some hh
   obtain ⟨⟨e60a, e60b, e60c⟩, h61, hh⟩ := hh
   try dsimp only at hh
   refine ⟨[iA e60a, iA e60b, tA (qInt e60c)], Nb h59, Gb h61, ?_⟩
   cbv
   replace hh := bind_some hh
   obtain ⟨x63, h62, hh⟩ := hh
   refine go_call hF (c_spec_l4Make hQ h62) ?_
   cbv
   replace hh := bind_some hh
   obtain ⟨x66, h65, hh⟩ := hh
   refine ⟨Ob, ?_⟩
   refine go_call hF (c_spec_l4Merge hQ h65) ?_
   cbv
   refine hN1 (_, _, _) _ hh fun ⟨t0, t1, t2⟩ e => ?_
   refine cov_of [((1, 0), (1, 0)), ((1, 1), (1, 1)), ((6, 0), (6, 0)), ((10, 0), (10, 0)), ((16, 0), (44, 0))] ?_
   cbv
   all_goals exact J3
  ·
   replace hh := ifF hh f49
   try rw [f49]
   cbv
   refine hD1 (_, _) _ hh fun ⟨t0, t1⟩ e => ?_
   refine cov_of [((1, 0), (1, 0)), ((1, 1), (1, 1)), ((6, 0), (6, 0)), ((10, 0), (10, 0)), ((16, 0), (16, 0))] ?_
   cbv
   all_goals exact J2

theorem c_spec_l5All {k : Nat} {p0 : Bool} {p1 : Int} {p2 : List GOcc} {p3 : List GOcc} {p4 : List GOcc} {r : List GOcc} (hh : spec_l5All.f k p0 p1 p2 p3 p4 = some r) : FunW P 158 [bA p0, iA p1, tA (qGOcc p2), tA (qGOcc p3), tA (qGOcc p4)] [hA, hA, hA, hA, hA] (oA 3 (qGOcc r)) := by
 unfold spec_l5All.f at hh
 refine go (ts := [(10, none)]) (rm := [.own]) (pm := [.skip, .skip, .skip, .skip, .skip]) Tryz.func158 ?_
 intro Fn LW len cast toNat wrap add sub mul bin lt eq At set part app fz' rep nadd nmax ssize sext sget scat seq slt Wide Flat Ones Room r' post' hC hF hr hp
 cbv
 replace hh := bind_some hh
 obtain ⟨x2, h1, hh⟩ := hh
 refine ⟨Ob, ?_⟩
 refine go_call hF (c_spec_l4Times_L0S hQ h1) ?_
 cbv
 replace hh := bind_some hh
 obtain ⟨o1, hl1, hq1⟩ := hh
 refine loop_go4 hC eok mixed (fun n (i : Bool × (List GOcc) × (List GOcc) × (List GOcc) × Int) => spec_l5All.l0 k p1 p2 p3 p4 x2 n i.1 i.2.1 i.2.2.1 i.2.2.2.1 i.2.2.2.2)
  (fun ⟨s42, s43, s44, s45, s46⟩ => (⟨[(0, bA s42), (1, iA p1), (2, tA (qGOcc p2)), (3, tA (qGOcc p3)), (4, tA (qGOcc p4)), (11, .mptr (11, 0) 1 0 0), (12, .ref (18, 0) 1 0 (len (qGOcc s45))), (13, .ref (23, 0) 1 0 (len (qInt x2))), (14, iA s46)], [((11, 0), .box 1 [.ref (11, 50) 1 0 (len (qGOcc s43)), .ref (11, 51) 1 0 (len (qGOcc s44))]), ((11, 50), .arr 1 3 (qGOcc s43)), ((11, 51), .arr 1 3 (qGOcc s44)), ((18, 0), .arr 1 3 (qGOcc s45)), ((23, 0), .arr 1 1 (qInt x2))]⟩ : St))
  (fun (x85 : List GOcc) => (⟨[(12, .ref (18, 0) 1 0 (len (qGOcc x85)))], [((18, 0), .arr 1 3 (qGOcc x85))]⟩ : St)) (fun x => x) (.exit 0)
  (i0 := (_, _, _, _, _)) hl1 (fun _ => rfl) ?_ ?_ ?_
 ·
  rintro ⟨t0, t1, t2, t3, t4⟩ e
  refine cov_of [((11, 0), (11, 0)), ((18, 0), (18, 0)), ((23, 0), (23, 0))] ?_
  cbv
  all_goals exact J5
 ·
  rintro x85 hx
  subst o1
  have hh := hq1
  cbv
  exact Eb
 ·
  rintro n ⟨s42, s43, s44, s45, s46⟩ N1 D1 hh hN1 hD1 hQ1
  dsimp only at hh
  unfold spec_l5All.l0 at hh
  cbv
  refine bcs (fun f87 => ?_) (fun f87 => ?_)
  ·
   replace hh := ifT hh f87
   try rw [f87]
   cbv
   replace hh := req_some hh
   obtain ⟨h88, hh⟩ := hh
   replace hh := req_some hh
   obtain ⟨h89, hh⟩ := hh
   refine ⟨Nb h88, Mb h89, ?_⟩
   replace hh := bind_some hh
   obtain ⟨e90, h91, hh⟩ := hh
   refine ⟨[iA e90], Gb h91, ?_⟩
   cbv
   refine bcs (fun f93 => ?_) (fun f93 => ?_)
   ·
    replace hh := ifT hh f93
    try rw [f93]
    cbv
    replace hh := bind_some hh
    obtain ⟨x95, h94, hh⟩ := hh
    refine go_call hF (c_spec_l4At hQ h94) ?_
    cbv
    replace hh := bind_some hh
    obtain ⟨x98, h97, hh⟩ := hh
    refine go_call hF (c_spec_l4At hQ h97) ?_
    cbv
    replace hh := bind_some hh
    obtain ⟨x101, h100, hh⟩ := hh
    refine go_call hF (c_spec_l4At hQ h100) ?_
    cbv
    replace hh := bind_some hh
    obtain ⟨⟨⟨x104_0a, x104_0b⟩, x104_1⟩, h103, hh⟩ := hh
    try dsimp only at hh
    refine ⟨Ob, ?_⟩
    refine ⟨Ob, ?_⟩
    refine ⟨Ob, ?_⟩
    have fc := c_spec_l5Not hQ h103
    try dsimp only at fc
    refine go_call hF fc ?_
    cbv
    replace hh := bind_some hh
    obtain ⟨x107, h106, hh⟩ := hh
    refine ⟨Ob, ?_⟩
    refine go_call hF (c_spec_l4Merge hQ h106) ?_
    cbv
    refine hN1 (_, _, _, _, _) _ hh fun ⟨t0, t1, t2, t3, t4⟩ e => ?_
    refine cov_of [((11, 0), (11, 0)), ((11, 50), (48, 0)), ((11, 51), (48, 1)), ((18, 0), (68, 0)), ((23, 0), (23, 0))] ?_
    cbv
    all_goals exact J5
   ·
    replace hh := ifF hh f93
    try rw [f93]
    cbv
    replace hh := bind_some hh
    obtain ⟨x110, h109, hh⟩ := hh
    refine go_call hF (c_spec_l4At hQ h109) ?_
    cbv
    replace hh := bind_some hh
    obtain ⟨x113, h112, hh⟩ := hh
    refine go_call hF (c_spec_l4At hQ h112) ?_
    cbv
    replace hh := bind_some hh
    obtain ⟨x116, h115, hh⟩ := hh
    refine go_call hF (c_spec_l4At hQ h115) ?_
    cbv
    replace hh := bind_some hh
    obtain ⟨⟨⟨x119_0a, x119_0b⟩, x119_1⟩, h118, hh⟩ := hh
    try dsimp only at hh
    refine ⟨Ob, ?_⟩
    refine ⟨Ob, ?_⟩
    refine ⟨Ob, ?_⟩
    have fc := c_spec_l5Each hQ h118
    try dsimp only at fc
    refine go_call hF fc ?_
    cbv
    replace hh := bind_some hh
    obtain ⟨x122, h121, hh⟩ := hh
    refine ⟨Ob, ?_⟩
    refine go_call hF (c_spec_l4Merge hQ h121) ?_
    cbv
    refine hN1 (_, _, _, _, _) _ hh fun ⟨t0, t1, t2, t3, t4⟩ e => ?_
    refine cov_of [((11, 0), (11, 0)), ((11, 50), (63, 0)), ((11, 51), (63, 1)), ((18, 0), (68, 0)), ((23, 0), (23, 0))] ?_
    cbv
    all_goals exact J5
  ·
   replace hh := ifF hh f87
   try rw [f87]
   cbv
   refine hD1 _ _ hh fun t0 e => ?_
   refine cov_of [((18, 0), (18, 0))] ?_
   cbv
   all_goals exact J1

theorem c_spec_NotOf {k : Nat} {p0 : Int} {p1 : List GOcc} {p2 : List GOcc} {p3 : List GOcc} {r : (List GOcc) × Bool} (hh : spec_NotOf.f k p0 p1 p2 p3 = some r) : FunW P 131 [iA p0, tA (qGOcc p1), tA (qGOcc p2), tA (qGOcc p3)] [hA, hA, hA, hA] (.tup [oA 3 (qGOccO r.1), bA r.2]) := by
 unfold spec_NotOf.f at hh
 refine go (ts := [(8, none), (9, none)]) (rm := [.own, .own]) (pm := [.skip, .skip, .skip, .skip]) Tryz.func131 ?_
 intro Fn LW len cast toNat wrap add sub mul bin lt eq At set part app fz' rep nadd nmax ssize sext sget scat seq slt Wide Flat Ones Room r' post' hC hF hr hp
 cbv
 replace hh := bind_some hh
 obtain ⟨x2, h1, hh⟩ := hh
 refine ⟨3, ?_⟩
 cbv
 refine ⟨3, ?_⟩
 cbv
 have fc := c_spec_l5Fits_L1 hQ h1
 try dsimp only at fc
 refine go_call hF fc ?_
 cbv
 replace hh := if_or hh
 rcases hh with ⟨b4, hh⟩ | ⟨b4, hh⟩
 ·
  have f5 : x2 = true := Tb b4
  have g := f5; cbv at g; try rw [f5]
  try rw [g]
  cbv
  replace hh := bind_some hh
  obtain ⟨x7, h6, hh⟩ := hh
  refine go_call hF (c_spec_l5All hQ h6) ?_
  cbv
  replace hh := bind_some hh
  obtain ⟨⟨x10_0, x10_1⟩, h9, hh⟩ := hh
  try dsimp only at hh
  have fc := c_spec_l4Told_L0S hQ h9
  try dsimp only at fc
  refine go_call hF fc ?_
  cbv
  exact Eb
 ·
  have f5 : x2 = false := Fb b4
  have g := f5; cbv at g; try rw [f5]
  try rw [g]
  cbv
  exact Eb

theorem c_spec_EachOf {k : Nat} {p0 : Int} {p1 : List GOcc} {p2 : List GOcc} {p3 : List GOcc} {r : (List GOcc) × Bool} (hh : spec_EachOf.f k p0 p1 p2 p3 = some r) : FunW P 132 [iA p0, tA (qGOcc p1), tA (qGOcc p2), tA (qGOcc p3)] [hA, hA, hA, hA] (.tup [oA 3 (qGOccO r.1), bA r.2]) := by
 unfold spec_EachOf.f at hh
 refine go (ts := [(8, none), (9, none)]) (rm := [.own, .own]) (pm := [.skip, .skip, .skip, .skip]) Tryz.func132 ?_
 intro Fn LW len cast toNat wrap add sub mul bin lt eq At set part app fz' rep nadd nmax ssize sext sget scat seq slt Wide Flat Ones Room r' post' hC hF hr hp
 cbv
 replace hh := bind_some hh
 obtain ⟨x2, h1, hh⟩ := hh
 refine ⟨3, ?_⟩
 cbv
 refine ⟨3, ?_⟩
 cbv
 have fc := c_spec_l5Fits_L1 hQ h1
 try dsimp only at fc
 refine go_call hF fc ?_
 cbv
 replace hh := if_or hh
 rcases hh with ⟨b4, hh⟩ | ⟨b4, hh⟩
 ·
  have f5 : x2 = true := Tb b4
  have g := f5; cbv at g; try rw [f5]
  try rw [g]
  cbv
  replace hh := bind_some hh
  obtain ⟨x7, h6, hh⟩ := hh
  refine go_call hF (c_spec_l5All hQ h6) ?_
  cbv
  replace hh := bind_some hh
  obtain ⟨⟨x10_0, x10_1⟩, h9, hh⟩ := hh
  try dsimp only at hh
  have fc := c_spec_l4Told_L0S hQ h9
  try dsimp only at fc
  refine go_call hF fc ?_
  cbv
  exact Eb
 ·
  have f5 : x2 = false := Fb b4
  have g := f5; cbv at g; try rw [f5]
  try rw [g]
  cbv
  exact Eb

theorem c_spec_l6End {p0 : List GEv} {r : Int} (hh : spec_l6End.f p0 = some r) : FunW P 134 [tA (qGEv p0)] [hA] (iA r) := by
 unfold spec_l6End.f at hh
 refine go (ts := [(2, none)]) (rm := [.own]) (pm := [.skip]) Tryz.func134 ?_
 intro Fn LW len cast toNat wrap add sub mul bin lt eq At set part app fz' rep nadd nmax ssize sext sget scat seq slt Wide Flat Ones Room r' post' hC hF hr hp
 cbv
 refine bcs (fun f2 => ?_) (fun f2 => ?_)
 ·
  replace hh := ifT hh f2
  try rw [f2]
  cbv
  exact Eb
 ·
  replace hh := ifF hh f2
  try rw [f2]
  cbv
  replace hh := req_some hh
  obtain ⟨h3, hh⟩ := hh
  replace hh := bind_some hh
  obtain ⟨⟨e4a, e4b, e4c⟩, h5, hh⟩ := hh
  try dsimp only at hh
  refine ⟨[iA e4a, iA e4b, iA e4c], Nb h3, Gb h5, ?_⟩
  cbv
  exact Eb

theorem c_spec_l5Later {p0 : GOcc} {p1 : Int} {r : GOcc} (hh : spec_l5Later.f p0 p1 = some r) : FunW P 160 [.agg [iA p0.From, iA p0.To, tA (qInt p0.Ids)], iA p1] [hA, hA] (.agg [iA r.From, iA r.To, oA 1 (qInt r.Ids)]) := by
 obtain ⟨p0a, p0b, p0c⟩ := p0
 unfold spec_l5Later.f at hh
 refine go (ts := [(4, some 63)]) (rm := [.own]) (pm := [.skip, .skip]) Tryz.func160 ?_
 intro Fn LW len cast toNat wrap add sub mul bin lt eq At set part app fz' rep nadd nmax ssize sext sget scat seq slt Wide Flat Ones Room r' post' hC hF hr hp
 cbv
 replace hh := bind_some hh
 obtain ⟨⟨x2a, x2b, x2c⟩, h1, hh⟩ := hh
 try dsimp only at hh
 have fc := c_spec_l3Copy hQ h1
 try dsimp only at fc
 refine go_call hF fc ?_
 cbv
 exact Eb

theorem c_spec_PlusOf {k : Nat} {p0 : List GOcc} {p1 : Int} {p2 : Int} {r : (List GOcc) × Bool} (hh : spec_PlusOf.f k p0 p1 p2 = some r) : FunW P 133 [tA (qGOcc p0), iA p1, iA p2] [hA, hA, hA] (.tup [oA 3 (qGOccO r.1), bA r.2]) := by
 unfold spec_PlusOf.f at hh
 refine go (ts := [(6, none), (7, none)]) (rm := [.own, .own]) (pm := [.skip, .skip, .skip]) Tryz.func133 ?_
 intro Fn LW len cast toNat wrap add sub mul bin lt eq At set part app fz' rep nadd nmax ssize sext sget scat seq slt Wide Flat Ones Room r' post' hC hF hr hp
 cbv
 replace hh := bind_some hh
 obtain ⟨x2, h1, hh⟩ := hh
 refine go_call hF (c_spec_OccsOk hQ h1) ?_
 cbv
 replace hh := if_or hh
 rcases hh with ⟨b4, hh⟩ | ⟨b4, hh⟩
 ·
  have f5 : x2 = true := Tb b4
  have g := f5; cbv at g; try rw [f5]
  try rw [g]
  cbv
  refine bcs (fun f7 => ?_) (fun f7 => ?_)
  ·
   replace hh := ifT hh f7
   try rw [f7]
   cbv
   exact Eb
  ·
   replace hh := ifF hh f7
   try rw [f7]
   cbv
   refine bcs (fun f9 => ?_) (fun f9 => ?_)
   ·
    replace hh := ifT hh f9
    try rw [f9]
    cbv
    exact Eb
   ·
    replace hh := ifF hh f9
    try rw [f9]
    cbv
    replace hh := bind_some hh
    obtain ⟨o1, hl1, hq1⟩ := hh
    refine loop_go4 hC eok mixed (fun n (i : (List GOcc) × Int) => spec_PlusOf.l0 k p0 p1 p2 n i.1 i.2)
     (fun ⟨s31, s32⟩ => (⟨[(0, tA (qGOcc p0)), (1, iA p1), (2, iA p2), (8, .ref (22, 0) 1 0 (len (qGOcc s31))), (9, iA s32)], [((22, 0), .arr 1 3 (qGOcc s31))]⟩ : St))
     (fun (x54 : List GOcc) => (⟨[(8, .ref (22, 0) 1 0 (len (qGOcc x54)))], [((22, 0), .arr 1 3 (qGOcc x54))]⟩ : St)) (fun x => x) (.exit 0)
     (i0 := (_, _)) hl1 (fun _ => rfl) ?_ ?_ ?_
    ·
     rintro ⟨t0, t1⟩ e
     refine cov_of [((22, 0), (22, 0))] ?_
     cbv
     all_goals exact J2
    ·
     rintro x54 hx
     subst o1
     have hh := hq1
     cbv
     replace hh := bind_some hh
     obtain ⟨⟨x77_0, x77_1⟩, h76, hh⟩ := hh
     try dsimp only at hh
     have fc := c_spec_l4Told_L0S hQ h76
     try dsimp only at fc
     refine go_call hF fc ?_
     cbv
     exact Eb
    ·
     rintro n ⟨s31, s32⟩ N1 D1 hh hN1 hD1 hQ1
     dsimp only at hh
     unfold spec_PlusOf.l0 at hh
     cbv
     refine bcs (fun f56 => ?_) (fun f56 => ?_)
     ·
      replace hh := ifT hh f56
      try rw [f56]
      cbv
      replace hh := req_some hh
      obtain ⟨h57, hh⟩ := hh
      replace hh := bind_some hh
      obtain ⟨⟨e58a, e58b, e58c⟩, h59, hh⟩ := hh
      try dsimp only at hh
      refine ⟨[iA e58a, iA e58b, tA (qInt e58c)], Nb h57, Gb h59, ?_⟩
      cbv
      replace hh := if_or hh
      rcases hh with ⟨b60, hh⟩ | ⟨b60, hh⟩
      ·
       have f61 : (lt p2 (wrap .i64 (add e58b p1))) = true := Tb b60
       have g := f61; cbv at g; try rw [f61]
       try rw [g]
       cbv
       refine hN1 (_, _) _ hh fun ⟨t0, t1⟩ e => ?_
       refine cov_of [((22, 0), (22, 0))] ?_
       cbv
       all_goals exact J2
      ·
       have f61 : (lt p2 (wrap .i64 (add e58b p1))) = false := Fb b60
       have g := f61; cbv at g; try rw [f61]
       try rw [g]
       cbv
       replace hh := req_some hh
       obtain ⟨h62, hh⟩ := hh
       replace hh := bind_some hh
       obtain ⟨⟨e63a, e63b, e63c⟩, h64, hh⟩ := hh
       try dsimp only at hh
       refine ⟨[iA e63a, iA e63b, tA (qInt e63c)], Nb h62, Gb h64, ?_⟩
       cbv
       replace hh := if_or hh
       rcases hh with ⟨b65, hh⟩ | ⟨b65, hh⟩
       ·
        have f66 : (lt 2000 (wrap .i64 (add e63b p1))) = true := Tb b65
        have g := f66; cbv at g; try rw [f66]
        try rw [g]
        cbv
        refine hN1 (_, _) _ hh fun ⟨t0, t1⟩ e => ?_
        refine cov_of [((22, 0), (22, 0))] ?_
        cbv
        all_goals exact J2
       ·
        have f66 : (lt 2000 (wrap .i64 (add e63b p1))) = false := Fb b65
        have g := f66; cbv at g; try rw [f66]
        try rw [g]
        cbv
        replace hh := req_some hh
        obtain ⟨h67, hh⟩ := hh
        replace hh := bind_some hh
        obtain ⟨⟨e68a, e68b, e68c⟩, h69, hh⟩ := hh
        try dsimp only at hh
        refine ⟨[iA e68a, iA e68b, tA (qInt e68c)], Nb h67, Gb h69, ?_⟩
        cbv
        replace hh := bind_some hh
        obtain ⟨⟨x71a, x71b, x71c⟩, h70, hh⟩ := hh
        try dsimp only at hh
        have fc := c_spec_l5Later hQ h70
        try dsimp only at fc
        refine go_call hF fc ?_
        cbv
        replace hh := bind_some hh
        obtain ⟨x74, h73, hh⟩ := hh
        refine ⟨Ob, ?_⟩
        refine go_call hF (c_spec_l3Put hQ h73) ?_
        cbv
        refine hN1 (_, _) _ hh fun ⟨t0, t1⟩ e => ?_
        refine cov_of [((22, 0), (55, 0))] ?_
        cbv
        all_goals exact J2
     ·
      replace hh := ifF hh f56
      try rw [f56]
      cbv
      refine hD1 _ _ hh fun t0 e => ?_
      refine cov_of [((22, 0), (22, 0))] ?_
      cbv
      all_goals exact J1
 ·
  have f5 : x2 = false := Fb b4
  have g := f5; cbv at g; try rw [f5]
  try rw [g]
  cbv
  exact Eb

theorem c_scc92 : ∀ k : Nat, (∀ {p0 : GEx} {p1 : Int} {p2 : List GEv} {r : (List GOcc) × Bool}, spec_l6Mean.f k p0 p1 p2 = some r → FunW P 92 [.agg [iA p0.Kind, iA p0.Sym, iA p0.N, tA (qGEx p0.Kids)], iA p1, tA (qGEv p2)] [hA, hA, hA] (.tup [oA 3 (qGOccO r.1), bA r.2])) := by
  intro k
  induction k using Nat.strongRecOn with
  | _ k ih =>
  · intro p0 p1 p2 r hh
    cases k with
    | zero => unfold spec_l6Mean.f at hh; cases hh
    | succ k =>
    obtain ⟨p0a, p0b, p0c, p0d⟩ := p0
    unfold spec_l6Mean.f at hh
    refine go (ts := [(6, none), (7, none)]) (rm := [.own, .own]) (pm := [.skip, .skip, .skip]) Tryz.func92 ?_
    intro Fn LW len cast toNat wrap add sub mul bin lt eq At set part app fz' rep nadd nmax ssize sext sget scat seq slt Wide Flat Ones Room r' post' hC hF hr hp
    cbv
    refine bcs (fun f2 => ?_) (fun f2 => ?_)
    ·
     replace hh := ifT hh f2
     try rw [f2]
     cbv
     replace hh := bind_some hh
     obtain ⟨x4, h3, hh⟩ := hh
     refine go_call hF (c_spec_l6Sym hQ h3) ?_
     cbv
     exact Eb
    ·
     replace hh := ifF hh f2
     try rw [f2]
     cbv
     replace hh := bind_some hh
     obtain ⟨o1, hl1, hq1⟩ := hh
     refine loop_go4 hC eok mixed (fun n (i : (List (List GOcc)) × Int) => spec_l6Mean.l0 k (spec_l6Mean.f k) (⟨p0a, p0b, p0c, p0d⟩ : GEx) p1 p2 n i.1 i.2)
      (fun ⟨s17, s18⟩ => (⟨[(1, iA p1), (2, tA (qGEv p2)), (3, .mptr (3, 0) 1 0 0), (8, .ref (19, 0) 1 0 (len (qLGOccO s17))), (9, iA s18)], [((3, 0), .box 1 [iA p0a, iA p0b, iA p0c, tA (qGEx p0d)]), ((19, 0), .arr 1 1 (qLGOccO s17))]⟩ : St))
      (fun (x30 : List (List GOcc)) => (⟨[(1, iA p1), (2, tA (qGEv p2)), (3, .mptr (3, 0) 1 0 0), (8, .ref (19, 0) 1 0 (len (qLGOcc x30)))], [((3, 0), .box 1 [iA p0a, iA p0b, iA p0c, tA (qGEx p0d)]), ((19, 0), .farr 1 1 (qLGOcc x30))]⟩ : St)) .ok (.exit 0)
      (i0 := (_, _)) hl1 (fun _ => rfl) ?_ ?_ ?_
     ·
      rintro ⟨t0, t1⟩ e
      refine cov_of [((3, 0), (3, 0)), ((19, 0), (19, 0))] ?_
      cbv
      all_goals exact J2
     ·
      rintro x30 hx
      subst o1
      have hh := hq1
      cbv
      refine bcs (fun f43 => ?_) (fun f43 => ?_)
      ·
       replace hh := ifT hh f43
       try rw [f43]
       cbv
       replace hh := req_some hh
       obtain ⟨h44, hh⟩ := hh
       replace hh := req_some hh
       obtain ⟨h45, hh⟩ := hh
       refine ⟨Nb h44, Mb h45, ?_⟩
       replace hh := bind_some hh
       obtain ⟨e46, h47, hh⟩ := hh
       refine ⟨[tA (qGOcc e46)], Gb h47, ?_⟩
       cbv
       replace hh := req_some hh
       obtain ⟨h48, hh⟩ := hh
       replace hh := req_some hh
       obtain ⟨h49, hh⟩ := hh
       refine ⟨Nb h48, Mb h49, ?_⟩
       replace hh := bind_some hh
       obtain ⟨e50, h51, hh⟩ := hh
       refine ⟨[tA (qGOcc e50)], Gb h51, ?_⟩
       cbv
       replace hh := bind_some hh
       obtain ⟨⟨x53_0, x53_1⟩, h52, hh⟩ := hh
       try dsimp only at hh
       have fc := c_spec_OrOf hQ h52
       try dsimp only at fc
       refine go_call hF fc ?_
       cbv
       exact Eb
      ·
       replace hh := ifF hh f43
       try rw [f43]
       cbv
       refine bcs (fun f56 => ?_) (fun f56 => ?_)
       ·
        replace hh := ifT hh f56
        try rw [f56]
        cbv
        replace hh := req_some hh
        obtain ⟨h57, hh⟩ := hh
        replace hh := req_some hh
        obtain ⟨h58, hh⟩ := hh
        refine ⟨Nb h57, Mb h58, ?_⟩
        replace hh := bind_some hh
        obtain ⟨e59, h60, hh⟩ := hh
        refine ⟨[tA (qGOcc e59)], Gb h60, ?_⟩
        cbv
        replace hh := req_some hh
        obtain ⟨h61, hh⟩ := hh
        replace hh := req_some hh
        obtain ⟨h62, hh⟩ := hh
        refine ⟨Nb h61, Mb h62, ?_⟩
        replace hh := bind_some hh
        obtain ⟨e63, h64, hh⟩ := hh
        refine ⟨[tA (qGOcc e63)], Gb h64, ?_⟩
        cbv
        replace hh := bind_some hh
        obtain ⟨⟨x66_0, x66_1⟩, h65, hh⟩ := hh
        try dsimp only at hh
        have fc := c_spec_AndOf hQ h65
        try dsimp only at fc
        refine go_call hF fc ?_
        cbv
        exact Eb
       ·
        replace hh := ifF hh f56
        try rw [f56]
        cbv
        refine bcs (fun f69 => ?_) (fun f69 => ?_)
        ·
         replace hh := ifT hh f69
         try rw [f69]
         cbv
         replace hh := req_some hh
         obtain ⟨h70, hh⟩ := hh
         replace hh := req_some hh
         obtain ⟨h71, hh⟩ := hh
         refine ⟨Nb h70, Mb h71, ?_⟩
         replace hh := bind_some hh
         obtain ⟨e72, h73, hh⟩ := hh
         refine ⟨[tA (qGOcc e72)], Gb h73, ?_⟩
         cbv
         replace hh := req_some hh
         obtain ⟨h74, hh⟩ := hh
         replace hh := req_some hh
         obtain ⟨h75, hh⟩ := hh
         refine ⟨Nb h74, Mb h75, ?_⟩
         replace hh := bind_some hh
         obtain ⟨e76, h77, hh⟩ := hh
         refine ⟨[tA (qGOcc e76)], Gb h77, ?_⟩
         cbv
         replace hh := bind_some hh
         obtain ⟨⟨x79_0, x79_1⟩, h78, hh⟩ := hh
         try dsimp only at hh
         have fc := c_spec_SeqOf hQ h78
         try dsimp only at fc
         refine go_call hF fc ?_
         cbv
         exact Eb
        ·
         replace hh := ifF hh f69
         try rw [f69]
         cbv
         refine bcs (fun f82 => ?_) (fun f82 => ?_)
         ·
          replace hh := ifT hh f82
          try rw [f82]
          cbv
          replace hh := req_some hh
          obtain ⟨h83, hh⟩ := hh
          replace hh := req_some hh
          obtain ⟨h84, hh⟩ := hh
          refine ⟨Nb h83, Mb h84, ?_⟩
          replace hh := bind_some hh
          obtain ⟨e85, h86, hh⟩ := hh
          refine ⟨[tA (qGOcc e85)], Gb h86, ?_⟩
          cbv
          replace hh := req_some hh
          obtain ⟨h87, hh⟩ := hh
          replace hh := req_some hh
          obtain ⟨h88, hh⟩ := hh
          refine ⟨Nb h87, Mb h88, ?_⟩
          replace hh := bind_some hh
          obtain ⟨e89, h90, hh⟩ := hh
          refine ⟨[tA (qGOcc e89)], Gb h90, ?_⟩
          cbv
          replace hh := req_some hh
          obtain ⟨h91, hh⟩ := hh
          replace hh := req_some hh
          obtain ⟨h92, hh⟩ := hh
          refine ⟨Nb h91, Mb h92, ?_⟩
          replace hh := bind_some hh
          obtain ⟨e93, h94, hh⟩ := hh
          refine ⟨[tA (qGOcc e93)], Gb h94, ?_⟩
          cbv
          replace hh := bind_some hh
          obtain ⟨⟨x96_0, x96_1⟩, h95, hh⟩ := hh
          try dsimp only at hh
          have fc := c_spec_NotOf hQ h95
          try dsimp only at fc
          refine go_call hF fc ?_
          cbv
          exact Eb
         ·
          replace hh := ifF hh f82
          try rw [f82]
          cbv
          refine bcs (fun f99 => ?_) (fun f99 => ?_)
          ·
           replace hh := ifT hh f99
           try rw [f99]
           cbv
           replace hh := req_some hh
           obtain ⟨h100, hh⟩ := hh
           replace hh := req_some hh
           obtain ⟨h101, hh⟩ := hh
           refine ⟨Nb h100, Mb h101, ?_⟩
           replace hh := bind_some hh
           obtain ⟨e102, h103, hh⟩ := hh
           refine ⟨[tA (qGOcc e102)], Gb h103, ?_⟩
           cbv
           replace hh := req_some hh
           obtain ⟨h104, hh⟩ := hh
           replace hh := req_some hh
           obtain ⟨h105, hh⟩ := hh
           refine ⟨Nb h104, Mb h105, ?_⟩
           replace hh := bind_some hh
           obtain ⟨e106, h107, hh⟩ := hh
           refine ⟨[tA (qGOcc e106)], Gb h107, ?_⟩
           cbv
           replace hh := req_some hh
           obtain ⟨h108, hh⟩ := hh
           replace hh := req_some hh
           obtain ⟨h109, hh⟩ := hh
           refine ⟨Nb h108, Mb h109, ?_⟩
           replace hh := bind_some hh
           obtain ⟨e110, h111, hh⟩ := hh
           refine ⟨[tA (qGOcc e110)], Gb h111, ?_⟩
           cbv
           replace hh := bind_some hh
           obtain ⟨⟨x113_0, x113_1⟩, h112, hh⟩ := hh
           try dsimp only at hh
           have fc := c_spec_EachOf hQ h112
           try dsimp only at fc
           refine go_call hF fc ?_
           cbv
           exact Eb
          ·
           replace hh := ifF hh f99
           try rw [f99]
           cbv
           replace hh := req_some hh
           obtain ⟨h115, hh⟩ := hh
           replace hh := req_some hh
           obtain ⟨h116, hh⟩ := hh
           refine ⟨Nb h115, Mb h116, ?_⟩
           replace hh := bind_some hh
           obtain ⟨e117, h118, hh⟩ := hh
           refine ⟨[tA (qGOcc e117)], Gb h118, ?_⟩
           cbv
           replace hh := bind_some hh
           obtain ⟨x120, h119, hh⟩ := hh
           refine go_call hF (c_spec_l6End hQ h119) ?_
           cbv
           replace hh := bind_some hh
           obtain ⟨⟨x123_0, x123_1⟩, h122, hh⟩ := hh
           try dsimp only at hh
           have fc := c_spec_PlusOf hQ h122
           try dsimp only at fc
           refine go_call hF fc ?_
           cbv
           exact Eb
     ·
      rintro n ⟨s17, s18⟩ N1 D1 hh hN1 hD1 hQ1
      dsimp only at hh
      unfold spec_l6Mean.l0 at hh
      cbv
      refine bcs (fun f32 => ?_) (fun f32 => ?_)
      ·
       replace hh := ifT hh f32
       try rw [f32]
       cbv
       replace hh := req_some hh
       obtain ⟨h33, hh⟩ := hh
       replace hh := bind_some hh
       obtain ⟨⟨e34a, e34b, e34c, e34d⟩, h35, hh⟩ := hh
       try dsimp only at hh
       refine ⟨[iA e34a, iA e34b, iA e34c, tA (qGEx e34d)], Nb h33, Gb h35, ?_⟩
       cbv
       replace hh := bind_some hh
       obtain ⟨⟨x37_0, x37_1⟩, h36, hh⟩ := hh
       try dsimp only at hh
       have fc := (ih k (Nat.lt_succ_self k)) h36
       try dsimp only at fc
       refine go_call hF fc ?_
       cbv
       replace hh := if_or hh
       rcases hh with ⟨b39, hh⟩ | ⟨b39, hh⟩
       ·
        have f40 : x37_1 = true := Tb b39
        have g := f40; cbv at g; try rw [f40]
        try rw [g]
        cbv
        replace hh := req_some hh
        obtain ⟨h41, hh⟩ := hh
        refine ⟨⟨Ob, Ab⟩, ?_⟩
        refine ⟨⟨Ob, Wb h41⟩, ?_⟩
        refine hN1 (_, _) _ hh fun ⟨t0, t1⟩ e => ?_
        refine cov_of [((3, 0), (3, 0)), ((19, 0), (44, 0))] ?_
        cbv
        all_goals exact J2
       ·
        have f40 : x37_1 = false := Fb b39
        have g := f40; cbv at g; try rw [f40]
        try rw [g]
        cbv
        cases hh
        have hh : some _ = some _ := hq1
        refine hQ1 _ _ ?_
        cbv
        exact Eb
      ·
       replace hh := ifF hh f32
       try rw [f32]
       cbv
       refine hD1 _ _ hh fun t0 e => ?_
       refine cov_of [((3, 0), (3, 0)), ((19, 0), (19, 0))] ?_
       cbv
       all_goals exact J1
theorem c_spec_l6Mean {k : Nat} {p0 : GEx} {p1 : Int} {p2 : List GEv} {r : (List GOcc) × Bool} (hh : spec_l6Mean.f k p0 p1 p2 = some r) : FunW P 92 [.agg [iA p0.Kind, iA p0.Sym, iA p0.N, tA (qGEx p0.Kids)], iA p1, tA (qGEv p2)] [hA, hA, hA] (.tup [oA 3 (qGOccO r.1), bA r.2]) := (c_scc92 hQ k) hh


theorem c_spec_MeanOf {k : Nat} {p0 : GEx} {p1 : Int} {p2 : List GEv} {r : (List GOcc) × Bool} (hh : spec_MeanOf.f k p0 p1 p2 = some r) : FunW P 40 [.agg [iA p0.Kind, iA p0.Sym, iA p0.N, tA (qGEx p0.Kids)], iA p1, tA (qGEv p2)] [hA, hA, hA] (.tup [oA 3 (qGOccO r.1), bA r.2]) := by
 obtain ⟨p0a, p0b, p0c, p0d⟩ := p0
 unfold spec_MeanOf.f at hh
 refine go (ts := [(6, none), (7, none)]) (rm := [.own, .own]) (pm := [.skip, .skip, .skip]) Tryz.func40 ?_
 intro Fn LW len cast toNat wrap add sub mul bin lt eq At set part app fz' rep nadd nmax ssize sext sget scat seq slt Wide Flat Ones Room r' post' hC hF hr hp
 cbv
 replace hh := bind_some hh
 obtain ⟨x2, h1, hh⟩ := hh
 refine go_call hF (c_spec_ExOk hQ h1) ?_
 cbv
 replace hh := if_or hh
 rcases hh with ⟨b4, hh⟩ | ⟨b4, hh⟩
 ·
  have f5 : x2 = true := Tb b4
  have g := f5; cbv at g; try rw [f5]
  try rw [g]
  cbv
  replace hh := bind_some hh
  obtain ⟨x7, h6, hh⟩ := hh
  refine go_call hF (c_spec_l4Mode hQ h6) ?_
  cbv
  replace hh := if_or hh
  rcases hh with ⟨b9, hh⟩ | ⟨b9, hh⟩
  ·
   have f10 : x7 = true := Tb b9
   have g := f10; cbv at g; try rw [f10]
   try rw [g]
   cbv
   replace hh := bind_some hh
   obtain ⟨x12, h11, hh⟩ := hh
   refine go_call hF (c_spec_EvsOk hQ h11) ?_
   cbv
   replace hh := if_or hh
   rcases hh with ⟨b14, hh⟩ | ⟨b14, hh⟩
   ·
    have f15 : x12 = true := Tb b14
    have g := f15; cbv at g; try rw [f15]
    try rw [g]
    cbv
    replace hh := bind_some hh
    obtain ⟨⟨x17_0, x17_1⟩, h16, hh⟩ := hh
    try dsimp only at hh
    have fc := c_spec_l6Mean hQ h16
    try dsimp only at fc
    refine go_call hF fc ?_
    cbv
    exact Eb
   ·
    have f15 : x12 = false := Fb b14
    have g := f15; cbv at g; try rw [f15]
    try rw [g]
    cbv
    exact Eb
  ·
   have f10 : x7 = false := Fb b9
   have g := f10; cbv at g; try rw [f10]
   try rw [g]
   cbv
   exact Eb
 ·
  have f5 : x2 = false := Fb b4
  have g := f5; cbv at g; try rw [f5]
  try rw [g]
  cbv
  exact Eb

theorem c_spec_MeanAt {k : Nat} {p0 : GEx} {p1 : Int} {p2 : List GEv} {p3 : Int} {r : List GOcc} (hh : spec_MeanAt.f k p0 p1 p2 p3 = some r) : FunW P 57 [.agg [iA p0.Kind, iA p0.Sym, iA p0.N, tA (qGEx p0.Kids)], iA p1, tA (qGEv p2), iA p3] [hA, hA, hA, hA] (oA 3 (qGOccO r)) := by
 obtain ⟨p0a, p0b, p0c, p0d⟩ := p0
 unfold spec_MeanAt.f at hh
 refine go (ts := [(8, none)]) (rm := [.own]) (pm := [.skip, .skip, .skip, .skip]) Tryz.func57 ?_
 intro Fn LW len cast toNat wrap add sub mul bin lt eq At set part app fz' rep nadd nmax ssize sext sget scat seq slt Wide Flat Ones Room r' post' hC hF hr hp
 cbv
 replace hh := bind_some hh
 obtain ⟨⟨x2_0, x2_1⟩, h1, hh⟩ := hh
 try dsimp only at hh
 have fc := c_spec_MeanOf hQ h1
 try dsimp only at fc
 refine go_call hF fc ?_
 cbv
 replace hh := bind_some hh
 obtain ⟨x5, h4, hh⟩ := hh
 refine ⟨Ob, ?_⟩
 refine go_call hF (c_spec_l4At hQ h4) ?_
 cbv
 replace hh := bind_some hh
 obtain ⟨x8, h7, hh⟩ := hh
 refine go_call hF (c_spec_l3List_L0S hQ h7) ?_
 cbv
 exact Eb

theorem c_impl_OccsSame_1 {k : Nat} {p0 : GOcc} {p1 : GOcc} {r : Bool} (hh : impl_OccsSame_1.f k p0 p1 = some r) : FunW P 79 [.agg [iA p0.From, iA p0.To, tA (qInt p0.Ids)], .agg [iA p1.From, iA p1.To, tA (qInt p1.Ids)]] [hA, hA] (bA r) := by
 obtain ⟨p0a, p0b, p0c⟩ := p0
 obtain ⟨p1a, p1b, p1c⟩ := p1
 unfold impl_OccsSame_1.f at hh
 refine go (ts := [(4, none)]) (rm := [.own]) (pm := [.skip, .skip]) Tryz.func79 ?_
 intro Fn LW len cast toNat wrap add sub mul bin lt eq At set part app fz' rep nadd nmax ssize sext sget scat seq slt Wide Flat Ones Room r' post' hC hF hr hp
 cbv
 replace hh := bind_some hh
 obtain ⟨x2, h1, hh⟩ := hh
 refine go_call hF (c_impl_compare hQ h1) ?_
 cbv
 exact Eb

theorem c_slices_EqualFunc_impl_OccsSame_1 {k : Nat} {g2 : GOcc → GOcc → Option Bool} (hg2 : ∀ {y0 : GOcc} {y1 : GOcc} {r : Bool}, g2 y0 y1 = some r → FunW P 79 [.agg [iA y0.From, iA y0.To, tA (qInt y0.Ids)], .agg [iA y1.From, iA y1.To, tA (qInt y1.Ids)]] [hA, hA] (bA r)) {p0 : List GOcc} {p1 : List GOcc} {r : Bool} (hh : slices_EqualFunc.f g2 k p0 p1 = some r) : FunW P 78 [tA (qGOcc p0), tA (qGOcc p1), .clo 79 []] [hA, hA, hA] (bA r) := by
 unfold slices_EqualFunc.f at hh
 refine go (ts := [(6, none)]) (rm := [.own]) (pm := [.skip, .skip, .skip]) Tryz.func78 ?_
 intro Fn LW len cast toNat wrap add sub mul bin lt eq At set part app fz' rep nadd nmax ssize sext sget scat seq slt Wide Flat Ones Room r' post' hC hF hr hp
 cbv
 replace hh := if_or hh
 rcases hh with ⟨b1, hh⟩ | ⟨b1, hh⟩
 ·
  have f2 : (eq (cast (len (qGOcc p0))) (cast (len (qGOcc p1)))) = true := Tb b1
  have g := f2; cbv at g; try rw [f2]
  try rw [g]
  cbv
  replace hh := bind_some hh
  obtain ⟨o1, hl1, hq1⟩ := hh
  refine loop_go4 hC eok mixed (slices_EqualFunc.l0 k g2 p0 p1)
   (fun s16 => (⟨[(1, tA (qGOcc p1)), (2, .clo 79 []), (15, tA (qGOcc p0)), (16, iA (cast (len (qGOcc p0)))), (17, iA s16)], []⟩ : St))
   (fun (_ : Unit) => (⟨[], []⟩ : St)) .ok (.exit 0)
   (i0 := _) hl1 (fun _ => rfl) ?_ ?_ ?_
  ·
   rintro t0 e
   refine cov_of [] ?_
   cbv
   all_goals exact J1
  ·
   rintro _ hx
   subst o1
   have hh := hq1
   cbv
   exact Eb
  ·
   rintro n s16 N1 D1 hh hN1 hD1 hQ1
   unfold slices_EqualFunc.l0 at hh
   cbv
   refine bcs (fun f31 => ?_) (fun f31 => ?_)
   ·
    replace hh := ifT hh f31
    try rw [f31]
    cbv
    replace hh := req_some hh
    obtain ⟨h32, hh⟩ := hh
    replace hh := bind_some hh
    obtain ⟨⟨e33a, e33b, e33c⟩, h34, hh⟩ := hh
    try dsimp only at hh
    refine ⟨[iA e33a, iA e33b, tA (qInt e33c)], Nb h32, Gb h34, ?_⟩
    cbv
    replace hh := req_some hh
    obtain ⟨h35, hh⟩ := hh
    replace hh := bind_some hh
    obtain ⟨⟨e36a, e36b, e36c⟩, h37, hh⟩ := hh
    try dsimp only at hh
    refine ⟨[iA e36a, iA e36b, tA (qInt e36c)], Nb h35, Gb h37, ?_⟩
    cbv
    replace hh := bind_some hh
    obtain ⟨x39, h38, hh⟩ := hh
    refine go_call hF (hg2 h38) ?_
    cbv
    replace hh := if_or hh
    rcases hh with ⟨b41, hh⟩ | ⟨b41, hh⟩
    ·
     have f42 : x39 = true := Tb b41
     have g := f42; cbv at g; try rw [f42]
     try rw [g]
     cbv
     refine hN1 _ _ hh fun t0 e => ?_
     refine cov_of [] ?_
     cbv
     all_goals exact J1
    ·
     have f42 : x39 = false := Fb b41
     have g := f42; cbv at g; try rw [f42]
     try rw [g]
     cbv
     cases hh
     have hh : some _ = some _ := hq1
     refine hQ1 _ _ ?_
     cbv
     exact Eb
   ·
    replace hh := ifF hh f31
    try rw [f31]
    cbv
    refine hD1 () _ hh fun _ e => ?_
    refine cov_of [] ?_
    cbv
    all_goals exact J0
 ·
  have f2 : (eq (cast (len (qGOcc p0))) (cast (len (qGOcc p1)))) = false := Fb b1
  have g := f2; cbv at g; try rw [f2]
  try rw [g]
  cbv
  exact Eb

theorem c_impl_OccsSame {k : Nat} {p0 : List GOcc} {p1 : List GOcc} {r : Bool} (hh : impl_OccsSame.f k p0 p1 = some r) : FunW P 28 [tA (qGOcc p0), tA (qGOcc p1)] [hA, hA] (bA r) := by
 unfold impl_OccsSame.f at hh
 refine go (ts := [(4, none)]) (rm := [.own]) (pm := [.skip, .skip]) Tryz.func28 ?_
 intro Fn LW len cast toNat wrap add sub mul bin lt eq At set part app fz' rep nadd nmax ssize sext sget scat seq slt Wide Flat Ones Room r' post' hC hF hr hp
 cbv
 replace hh := bind_some hh
 obtain ⟨x2, h1, hh⟩ := hh
 refine go_call hF (c_slices_EqualFunc_impl_OccsSame_1 hQ (g2 := fun y0 y1 => impl_OccsSame_1.f k y0 y1) (fun h => c_impl_OccsSame_1 hQ h) h1) ?_
 cbv
 exact Eb
theorem c_impl_OccsSame_L0S_1 {k : Nat} {p0 : List GOcc} {p1 : List GOcc} {r : Bool} (hh : impl_OccsSame.f k p0 p1 = some r) : FunW P 28 [oA 3 (qGOcc p0), oA 3 (qGOccO p1)] [oA 3 (qGOcc p0), oA 3 (qGOccO p1)] (bA r) := by
  cases hQ; exact (c_impl_OccsSame .mk hh).lend (rfl) (.lend (congrArg A.tree (r_GOcc_fz _).symm) (.lend (congrArg A.tree (r_GOccO_fz _).symm) .nil))

theorem c_impl_MeanFirst {k : Nat} {p0 : GEx} {p1 : Int} {p2 : List GEv} {r : Int} (hh : impl_MeanFirst.f k p0 p1 p2 = some r) : FunW P 37 [.agg [iA p0.Kind, iA p0.Sym, iA p0.N, tA (qGEx p0.Kids)], iA p1, tA (qGEv p2)] [hA, hA, hA] (iA r) := by
 obtain ⟨p0a, p0b, p0c, p0d⟩ := p0
 unfold impl_MeanFirst.f at hh
 refine go (ts := [(6, none)]) (rm := [.own]) (pm := [.skip, .skip, .skip]) Tryz.func37 ?_
 intro Fn LW len cast toNat wrap add sub mul bin lt eq At set part app fz' rep nadd nmax ssize sext sget scat seq slt Wide Flat Ones Room r' post' hC hF hr hp
 cbv
 replace hh := bind_some hh
 obtain ⟨⟨x2_0, x2_1⟩, h1, hh⟩ := hh
 try dsimp only at hh
 have fc := c_impl_MeanOf hQ h1
 try dsimp only at fc
 refine go_call hF fc ?_
 cbv
 refine bcs (fun f5 => ?_) (fun f5 => ?_)
 ·
  replace hh := ifT hh f5
  try rw [f5]
  cbv
  exact Eb
 ·
  replace hh := ifF hh f5
  try rw [f5]
  cbv
  replace hh := req_some hh
  obtain ⟨h6, hh⟩ := hh
  replace hh := req_some hh
  obtain ⟨h7, hh⟩ := hh
  try dsimp only at h7
  refine ⟨Nb h6, Mb h7, ?_⟩
  replace hh := bind_some hh
  obtain ⟨⟨e8a, e8b, e8c⟩, h9, hh⟩ := hh
  try dsimp only at hh
  refine ⟨[iA e8a, iA e8b, oA 1 (qInt e8c)], Gb h9, ?_⟩
  cbv
  exact Eb

theorem c_impl_MeanUsed {k : Nat} {p0 : GEx} {p1 : Int} {p2 : List GEv} {r : List Int} (hh : impl_MeanUsed.f k p0 p1 p2 = some r) : FunW P 49 [.agg [iA p0.Kind, iA p0.Sym, iA p0.N, tA (qGEx p0.Kids)], iA p1, tA (qGEv p2)] [hA, hA, hA] (oA 1 (qInt r)) := by
 obtain ⟨p0a, p0b, p0c, p0d⟩ := p0
 unfold impl_MeanUsed.f at hh
 refine go (ts := [(6, none)]) (rm := [.own]) (pm := [.skip, .skip, .skip]) Tryz.func49 ?_
 intro Fn LW len cast toNat wrap add sub mul bin lt eq At set part app fz' rep nadd nmax ssize sext sget scat seq slt Wide Flat Ones Room r' post' hC hF hr hp
 cbv
 replace hh := bind_some hh
 obtain ⟨⟨x2_0, x2_1⟩, h1, hh⟩ := hh
 try dsimp only at hh
 have fc := c_impl_MeanOf hQ h1
 try dsimp only at fc
 refine go_call hF fc ?_
 cbv
 replace hh := bind_some hh
 obtain ⟨o1, hl1, hq1⟩ := hh
 refine loop_go4 hC eok mixed (fun n (i : (List Int) × (List GOcc) × Int) => impl_MeanUsed.l0 k (⟨x2_0, x2_1⟩ : (List GOcc) × Bool) n i.1 i.2.1 i.2.2)
  (fun ⟨s11, s12, s13⟩ => (⟨[(9, .ref (9, 50) 1 0 (len (qInt s11))), (19, .ref (16, 0) 1 0 (len (qGOccO s12))), (20, iA (cast (len (qGOccO x2_0)))), (21, iA s13)], [((9, 50), .arr 1 1 (qInt s11)), ((16, 0), .arr 1 3 (qGOccO s12))]⟩ : St))
  (fun (x21 : List Int) => (⟨[(9, .ref (9, 50) 1 0 (len (qInt x21)))], [((9, 50), .arr 1 1 (qInt x21))]⟩ : St)) (fun x => x) (.exit 0)
  (i0 := (_, _, _)) hl1 (fun _ => rfl) ?_ ?_ ?_
 ·
  rintro ⟨t0, t1, t2⟩ e
  refine cov_of [((16, 0), (16, 0))] ?_
  cbv
  all_goals exact J3
 ·
  rintro x21 hx
  subst o1
  have hh := hq1
  cbv
  replace hh := bind_some hh
  obtain ⟨x30, h29, hh⟩ := hh
  replace hh := req_some hh
  obtain ⟨h36, hh⟩ := hh
  refine go_call hF (c_slices_Sort hQ h29) ?_
  cbv
  replace hh := bind_some hh
  obtain ⟨x33, h32, hh⟩ := hh
  refine ⟨Ob, ?_⟩
  refine go_call hF (c_slices_Compact hQ h32) ?_
  cbv
  replace hh := req_some hh
  obtain ⟨h35, hh⟩ := hh
  refine ⟨⟨Ab, Ab⟩, ?_⟩
  refine ⟨Wb h35, ?_⟩
  exact Eb
 ·
  rintro n ⟨s11, s12, s13⟩ N1 D1 hh hN1 hD1 hQ1
  dsimp only at hh
  unfold impl_MeanUsed.l0 at hh
  cbv
  refine bcs (fun f23 => ?_) (fun f23 => ?_)
  ·
   replace hh := ifT hh f23
   try rw [f23]
   cbv
   replace hh := req_some hh
   obtain ⟨h24, hh⟩ := hh
   replace hh := req_some hh
   obtain ⟨h25, hh⟩ := hh
   refine ⟨Nb h24, Mb h25, ?_⟩
   replace hh := bind_some hh
   obtain ⟨⟨e26a, e26b, e26c⟩, h27, hh⟩ := hh
   try dsimp only at hh
   refine ⟨[iA e26a, iA e26b, oA 1 (qInt e26c)], Gb h27, ?_⟩
   cbv
   replace hh := req_some hh
   obtain ⟨h28, hh⟩ := hh
   try dsimp only at h28
   refine ⟨⟨Ob, Ab, Ab⟩, ?_⟩
   refine ⟨⟨Ob, Wb h28⟩, ?_⟩
   refine hN1 (_, _, _) _ hh fun ⟨t0, t1, t2⟩ e => ?_
   refine cov_shut hC (16, 0) ?_
   cbv
   refine cov_of [((9, 50), (28, 0)), ((16, 0), (16, 0))] ?_
   cbv
   all_goals exact J3
  ·
   replace hh := ifF hh f23
   try rw [f23]
   cbv
   refine hD1 _ _ hh fun t0 e => ?_
   refine cov_of [((9, 50), (9, 50))] ?_
   cbv
   all_goals exact J1

theorem c_spec_MeanFirst {k : Nat} {p0 : GEx} {p1 : Int} {p2 : List GEv} {r : Int} (hh : spec_MeanFirst.f k p0 p1 p2 = some r) : FunW P 34 [.agg [iA p0.Kind, iA p0.Sym, iA p0.N, tA (qGEx p0.Kids)], iA p1, tA (qGEv p2)] [hA, hA, hA] (iA r) := by
 obtain ⟨p0a, p0b, p0c, p0d⟩ := p0
 unfold spec_MeanFirst.f at hh
 refine go (ts := [(6, none)]) (rm := [.own]) (pm := [.skip, .skip, .skip]) Tryz.func34 ?_
 intro Fn LW len cast toNat wrap add sub mul bin lt eq At set part app fz' rep nadd nmax ssize sext sget scat seq slt Wide Flat Ones Room r' post' hC hF hr hp
 cbv
 replace hh := bind_some hh
 obtain ⟨⟨x2_0, x2_1⟩, h1, hh⟩ := hh
 try dsimp only at hh
 have fc := c_spec_MeanOf hQ h1
 try dsimp only at fc
 refine go_call hF fc ?_
 cbv
 refine bcs (fun f5 => ?_) (fun f5 => ?_)
 ·
  replace hh := ifT hh f5
  try rw [f5]
  cbv
  exact Eb
 ·
  replace hh := ifF hh f5
  try rw [f5]
  cbv
  replace hh := req_some hh
  obtain ⟨h6, hh⟩ := hh
  replace hh := req_some hh
  obtain ⟨h7, hh⟩ := hh
  try dsimp only at h7
  refine ⟨Nb h6, Mb h7, ?_⟩
  replace hh := bind_some hh
  obtain ⟨⟨e8a, e8b, e8c⟩, h9, hh⟩ := hh
  try dsimp only at hh
  refine ⟨[iA e8a, iA e8b, oA 1 (qInt e8c)], Gb h9, ?_⟩
  cbv
  exact Eb

theorem c_spec_MeanUsed {k : Nat} {p0 : GEx} {p1 : Int} {p2 : List GEv} {r : List Int} (hh : spec_MeanUsed.f k p0 p1 p2 = some r) : FunW P 48 [.agg [iA p0.Kind, iA p0.Sym, iA p0.N, tA (qGEx p0.Kids)], iA p1, tA (qGEv p2)] [hA, hA, hA] (oA 1 (qInt r)) := by
 obtain ⟨p0a, p0b, p0c, p0d⟩ := p0
 unfold spec_MeanUsed.f at hh
 refine go (ts := [(6, none)]) (rm := [.own]) (pm := [.skip, .skip, .skip]) Tryz.func48 ?_
 intro Fn LW len cast toNat wrap add sub mul bin lt eq At set part app fz' rep nadd nmax ssize sext sget scat seq slt Wide Flat Ones Room r' post' hC hF hr hp
 cbv
 replace hh := bind_some hh
 obtain ⟨⟨x2_0, x2_1⟩, h1, hh⟩ := hh
 try dsimp only at hh
 have fc := c_spec_MeanOf hQ h1
 try dsimp only at fc
 refine go_call hF fc ?_
 cbv
 replace hh := bind_some hh
 obtain ⟨o1, hl1, hq1⟩ := hh
 refine loop_go4 hC eok mixed (fun n (i : (List GOcc) × (List Int) × Int) => spec_MeanUsed.l0 k n i.1 i.2.1 i.2.2)
  (fun ⟨s13, s14, s15⟩ => (⟨[(7, .ref (15, 0) 1 0 (len (qGOccO s13))), (9, .ref (18, 0) 1 0 (len (qInt s14))), (10, iA s15)], [((15, 0), .arr 1 3 (qGOccO s13)), ((18, 0), .arr 1 1 (qInt s14))]⟩ : St))
  (fun (x25 : List Int) => (⟨[(9, .ref (18, 0) 1 0 (len (qInt x25)))], [((18, 0), .arr 1 1 (qInt x25))]⟩ : St)) (fun x => x) (.exit 0)
  (i0 := (_, _, _)) hl1 (fun _ => rfl) ?_ ?_ ?_
 ·
  rintro ⟨t0, t1, t2⟩ e
  refine cov_of [((15, 0), (15, 0)), ((18, 0), (18, 0))] ?_
  cbv
  all_goals exact J3
 ·
  rintro x25 hx
  subst o1
  have hh := hq1
  cbv
  exact Eb
 ·
  rintro n ⟨s13, s14, s15⟩ N1 D1 hh hN1 hD1 hQ1
  dsimp only at hh
  unfold spec_MeanUsed.l0 at hh
  cbv
  refine bcs (fun f27 => ?_) (fun f27 => ?_)
  ·
   replace hh := ifT hh f27
   try rw [f27]
   cbv
   replace hh := req_some hh
   obtain ⟨h28, hh⟩ := hh
   replace hh := req_some hh
   obtain ⟨h29, hh⟩ := hh
   refine ⟨Nb h28, Mb h29, ?_⟩
   replace hh := bind_some hh
   obtain ⟨⟨e30a, e30b, e30c⟩, h31, hh⟩ := hh
   try dsimp only at hh
   refine ⟨[iA e30a, iA e30b, oA 1 (qInt e30c)], Gb h31, ?_⟩
   cbv
   replace hh := bind_some hh
   obtain ⟨x33, h32, hh⟩ := hh
   refine go_call hF (c_spec_l3Union_L0_1 hQ h32) ?_
   cbv
   refine hN1 (_, _, _) _ hh fun ⟨t0, t1, t2⟩ e => ?_
   refine cov_shut hC (15, 0) ?_
   cbv
   refine cov_of [((15, 0), (15, 0)), ((18, 0), (31, 0))] ?_
   cbv
   all_goals exact J3
  ·
   replace hh := ifF hh f27
   try rw [f27]
   cbv
   refine hD1 _ _ hh fun t0 e => ?_
   refine cov_of [((18, 0), (18, 0))] ?_
   cbv
   all_goals exact J1

end Go.Proofs.YtdhlbpgjcfdofaaGreat
