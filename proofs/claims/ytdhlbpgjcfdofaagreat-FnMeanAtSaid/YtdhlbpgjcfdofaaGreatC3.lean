/- The functions of this program do what the plain ones do. -/
import Derived.Test.YtdhlbpgjcfdofaaGreatC2
namespace Go.Proofs.YtdhlbpgjcfdofaaGreat
open Go Go.Vm
set_option linter.unusedVariables false
set_option maxHeartbeats 4000000
variable {qIu8 : List Int → Vm.Rows} {qInt : List Int → Vm.Rows} {qGExO : List GEx → Vm.Rows} {qGEx : List GEx → Vm.Rows} {qGEv : List GEv → Vm.Rows} {qGOccO : List GOcc → Vm.Rows} {qGOcc : List GOcc → Vm.Rows} {qLGOccO : List (List GOcc) → Vm.Rows} {qLGOcc : List (List GOcc) → Vm.Rows} {qLInt : List (List Int) → Vm.Rows} {qBool : List Bool → Vm.Rows} (hQ : EQ qIu8 qInt qGExO qGEx qGEv qGOccO qGOcc qLGOccO qLGOcc qLInt qBool)
include hQ
theorem c_spec_OccLess {k : Nat} {p0 : GOcc} {p1 : GOcc} {r : Bool} (hh : spec_OccLess.f k p0 p1 = some r) : FunW P 186 [.agg [iA p0.From, iA p0.To, tA (qInt p0.Ids)], .agg [iA p1.From, iA p1.To, tA (qInt p1.Ids)]] [hA, hA] (bA r) := by
 obtain ⟨p0a, p0b, p0c⟩ := p0
 obtain ⟨p1a, p1b, p1c⟩ := p1
 unfold spec_OccLess.f at hh
 refine go (ts := [(4, none)]) (rm := [.own]) (pm := [.skip, .skip]) Tryz.func186 ?_
 intro Fn LW len cast toNat wrap add sub mul bin lt eq At set part app fz' rep nadd nmax ssize sext sget scat seq slt Wide Flat Ones Room r' post' hC hF hr hp
 cbv
 replace hh := if_or hh
 rcases hh with ⟨b1, hh⟩ | ⟨b1, hh⟩
 ·
  have f2 : (eq p0b p1b) = true := Tb b1
  have g := f2; cbv at g; try rw [f2]
  try rw [g]
  cbv
  replace hh := if_or hh
  rcases hh with ⟨b3, hh⟩ | ⟨b3, hh⟩
  ·
   have f4 : (eq p0a p1a) = true := Tb b3
   have g := f4; cbv at g; try rw [f4]
   try rw [g]
   cbv
   replace hh := bind_some hh
   obtain ⟨x6, h5, hh⟩ := hh
   refine go_call hF (c_spec_l3Ids hQ h5) ?_
   cbv
   exact Eb
  ·
   have f4 : (eq p0a p1a) = false := Fb b3
   have g := f4; cbv at g; try rw [f4]
   try rw [g]
   cbv
   exact Eb
 ·
  have f2 : (eq p0b p1b) = false := Fb b1
  have g := f2; cbv at g; try rw [f2]
  try rw [g]
  cbv
  exact Eb
theorem c_spec_OccLess_L0 {k : Nat} {p0 : GOcc} {p1 : GOcc} {r : Bool} (hh : spec_OccLess.f k p0 p1 = some r) : FunW P 186 [.agg [iA p0.From, iA p0.To, oA 1 (qInt p0.Ids)], .agg [iA p1.From, iA p1.To, tA (qInt p1.Ids)]] [.agg [iA p0.From, iA p0.To, oA 1 (qInt p0.Ids)], hA] (bA r) := by
  cases hQ; exact (c_spec_OccLess .mk hh).lend (rfl) (.lend (by simp) (.same rfl .nil))

theorem c_spec_OccsOk {k : Nat} {p0 : List GOcc} {r : Bool} (hh : spec_OccsOk.f k p0 = some r) : FunW P 153 [tA (qGOcc p0)] [hA] (bA r) := by
 unfold spec_OccsOk.f at hh
 refine go (ts := [(2, none)]) (rm := [.own]) (pm := [.skip]) Tryz.func153 ?_
 intro Fn LW len cast toNat wrap add sub mul bin lt eq At set part app fz' rep nadd nmax ssize sext sget scat seq slt Wide Flat Ones Room r' post' hC hF hr hp
 cbv
 refine bcs (fun f2 => ?_) (fun f2 => ?_)
 ·
  replace hh := ifT hh f2
  try rw [f2]
  cbv
  exact Eb
 ·
  replace hh := ifF hh f2
  try rw [f2]
  cbv
  replace hh := bind_some hh
  obtain ⟨o1, hl1, hq1⟩ := hh
  refine loop_go4 hC eok mixed (spec_OccsOk.l0 k p0)
   (fun s26 => (⟨[(0, tA (qGOcc p0)), (3, iA s26)], []⟩ : St))
   (fun (_ : Unit) => (⟨[], []⟩ : St)) .ok (.exit 0)
   (i0 := _) hl1 (fun _ => rfl) ?_ ?_ ?_
  ·
   rintro t0 e
   refine cov_of [] ?_
   cbv
   all_goals exact J1
  ·
   rintro _ hx
   subst o1
   have hh := hq1
   cbv
   exact Eb
  ·
   rintro n s26 N1 D1 hh hN1 hD1 hQ1
   unfold spec_OccsOk.l0 at hh
   cbv
   refine bcs (fun f51 => ?_) (fun f51 => ?_)
   ·
    replace hh := ifT hh f51
    try rw [f51]
    cbv
    replace hh := req_some hh
    obtain ⟨h52, hh⟩ := hh
    replace hh := bind_some hh
    obtain ⟨⟨e53a, e53b, e53c⟩, h54, hh⟩ := hh
    try dsimp only at hh
    refine ⟨[iA e53a, iA e53b, tA (qInt e53c)], Nb h52, Gb h54, ?_⟩
    cbv
    replace hh := bind_some hh
    obtain ⟨x56, h55, hh⟩ := hh
    refine go_call hF (c_spec_OccOk hQ h55) ?_
    cbv
    replace hh := if_or hh
    rcases hh with ⟨b58, hh⟩ | ⟨b58, hh⟩
    ·
     have f59 : x56 = true := Tb b58
     have g := f59; cbv at g; try rw [f59]
     try rw [g]
     cbv
     refine bcs (fun f61 => ?_) (fun f61 => ?_)
     ·
      replace hh := ifT hh f61
      try rw [f61]
      cbv
      replace hh := req_some hh
      obtain ⟨h62, hh⟩ := hh
      replace hh := bind_some hh
      obtain ⟨⟨e63a, e63b, e63c⟩, h64, hh⟩ := hh
      try dsimp only at hh
      refine ⟨[iA e63a, iA e63b, tA (qInt e63c)], Nb h62, Gb h64, ?_⟩
      cbv
      replace hh := req_some hh
      obtain ⟨h65, hh⟩ := hh
      replace hh := bind_some hh
      obtain ⟨⟨e66a, e66b, e66c⟩, h67, hh⟩ := hh
      try dsimp only at hh
      refine ⟨[iA e66a, iA e66b, tA (qInt e66c)], Nb h65, Gb h67, ?_⟩
      cbv
      replace hh := bind_some hh
      obtain ⟨x69, h68, hh⟩ := hh
      refine go_call hF (c_spec_OccLess hQ h68) ?_
      cbv
      replace hh := if_or hh
      rcases hh with ⟨b71, hh⟩ | ⟨b71, hh⟩
      ·
       have f72 : x69 = true := Tb b71
       have g := f72; cbv at g; try rw [f72]
       try rw [g]
       cbv
       refine hN1 _ _ hh fun t0 e => ?_
       refine cov_of [] ?_
       cbv
       all_goals exact J1
      ·
       have f72 : x69 = false := Fb b71
       have g := f72; cbv at g; try rw [f72]
       try rw [g]
       cbv
       cases hh
       have hh : some _ = some _ := hq1
       refine hQ1 _ _ ?_
       cbv
       exact Eb
     ·
      replace hh := ifF hh f61
      try rw [f61]
      cbv
      refine hN1 _ _ hh fun t0 e => ?_
      refine cov_of [] ?_
      cbv
      all_goals exact J1
    ·
     have f59 : x56 = false := Fb b58
     have g := f59; cbv at g; try rw [f59]
     try rw [g]
     cbv
     cases hh
     have hh : some _ = some _ := hq1
     refine hQ1 _ _ ?_
     cbv
     exact Eb
   ·
    replace hh := ifF hh f51
    try rw [f51]
    cbv
    refine hD1 () _ hh fun _ e => ?_
    refine cov_of [] ?_
    cbv
    all_goals exact J0

theorem c_spec_l3Copy {p0 : GOcc} {r : GOcc} (hh : spec_l3Copy.f p0 = some r) : FunW P 144 [.agg [iA p0.From, iA p0.To, tA (qInt p0.Ids)]] [hA] (.agg [iA r.From, iA r.To, oA 1 (qInt r.Ids)]) := by
 obtain ⟨p0a, p0b, p0c⟩ := p0
 unfold spec_l3Copy.f at hh
 refine go (ts := [(2, some 63)]) (rm := [.own]) (pm := [.skip]) Tryz.func144 ?_
 intro Fn LW len cast toNat wrap add sub mul bin lt eq At set part app fz' rep nadd nmax ssize sext sget scat seq slt Wide Flat Ones Room r' post' hC hF hr hp
 cbv
 replace hh := req_some hh
 obtain ⟨h1, hh⟩ := hh
 try dsimp only at h1
 refine ⟨⟨Ab, Ab⟩, ?_⟩
 refine ⟨⟨Ob, Wb h1⟩, ?_⟩
 exact Eb

theorem c_spec_l3List {k : Nat} {p0 : List GOcc} {r : List GOcc} (hh : spec_l3List.f k p0 = some r) : FunW P 107 [tA (qGOcc p0)] [hA] (oA 3 (qGOccO r)) := by
 unfold spec_l3List.f at hh
 refine go (ts := [(2, none)]) (rm := [.own]) (pm := [.skip]) Tryz.func107 ?_
 intro Fn LW len cast toNat wrap add sub mul bin lt eq At set part app fz' rep nadd nmax ssize sext sget scat seq slt Wide Flat Ones Room r' post' hC hF hr hp
 cbv
 replace hh := bind_some hh
 obtain ⟨o1, hl1, hq1⟩ := hh
 refine loop_go4 hC eok mixed (fun n (i : (List GOcc) × Int) => spec_l3List.l0 k p0 n i.1 i.2)
  (fun ⟨s10, s11⟩ => (⟨[(0, tA (qGOcc p0)), (3, .ref (5, 0) 1 0 (len (qGOccO s10))), (4, iA s11)], [((5, 0), .arr 1 3 (qGOccO s10))]⟩ : St))
  (fun (x21 : List GOcc) => (⟨[(3, .ref (5, 0) 1 0 (len (qGOccO x21)))], [((5, 0), .arr 1 3 (qGOccO x21))]⟩ : St)) (fun x => x) (.exit 0)
  (i0 := (_, _)) hl1 (fun _ => rfl) ?_ ?_ ?_
 ·
  rintro ⟨t0, t1⟩ e
  refine cov_of [((5, 0), (5, 0))] ?_
  cbv
  all_goals exact J2
 ·
  rintro x21 hx
  subst o1
  have hh := hq1
  cbv
  exact Eb
 ·
  rintro n ⟨s10, s11⟩ N1 D1 hh hN1 hD1 hQ1
  dsimp only at hh
  unfold spec_l3List.l0 at hh
  cbv
  refine bcs (fun f23 => ?_) (fun f23 => ?_)
  ·
   replace hh := ifT hh f23
   try rw [f23]
   cbv
   replace hh := req_some hh
   obtain ⟨h24, hh⟩ := hh
   replace hh := bind_some hh
   obtain ⟨⟨e25a, e25b, e25c⟩, h26, hh⟩ := hh
   try dsimp only at hh
   refine ⟨[iA e25a, iA e25b, tA (qInt e25c)], Nb h24, Gb h26, ?_⟩
   cbv
   replace hh := bind_some hh
   obtain ⟨⟨x28a, x28b, x28c⟩, h27, hh⟩ := hh
   try dsimp only at hh
   have fc := c_spec_l3Copy hQ h27
   try dsimp only at fc
   refine go_call hF fc ?_
   cbv
   replace hh := req_some hh
   obtain ⟨h30, hh⟩ := hh
   refine ⟨⟨Ob, Ab⟩, ?_⟩
   refine ⟨⟨Ob, Wb h30⟩, ?_⟩
   refine hN1 (_, _) _ hh fun ⟨t0, t1⟩ e => ?_
   refine cov_of [((5, 0), (19, 0))] ?_
   cbv
   all_goals exact J2
  ·
   replace hh := ifF hh f23
   try rw [f23]
   cbv
   refine hD1 _ _ hh fun t0 e => ?_
   refine cov_of [((5, 0), (5, 0))] ?_
   cbv
   all_goals exact J1
theorem c_spec_l3List_L0S {k : Nat} {p0 : List GOcc} {r : List GOcc} (hh : spec_l3List.f k p0 = some r) : FunW P 107 [oA 3 (qGOcc p0)] [oA 3 (qGOcc p0)] (oA 3 (qGOccO r)) := by
  cases hQ; exact (c_spec_l3List .mk hh).lend (r_GOccO_ownd _) (.lend (congrArg A.tree (r_GOcc_fz _).symm) .nil)

theorem c_spec_l3Same {k : Nat} {p0 : GOcc} {p1 : GOcc} {r : Bool} (hh : spec_l3Same.f k p0 p1 = some r) : FunW P 193 [.agg [iA p0.From, iA p0.To, tA (qInt p0.Ids)], .agg [iA p1.From, iA p1.To, tA (qInt p1.Ids)]] [hA, hA] (bA r) := by
 obtain ⟨p0a, p0b, p0c⟩ := p0
 obtain ⟨p1a, p1b, p1c⟩ := p1
 unfold spec_l3Same.f at hh
 refine go (ts := [(4, none)]) (rm := [.own]) (pm := [.skip, .skip]) Tryz.func193 ?_
 intro Fn LW len cast toNat wrap add sub mul bin lt eq At set part app fz' rep nadd nmax ssize sext sget scat seq slt Wide Flat Ones Room r' post' hC hF hr hp
 cbv
 refine bcs (fun f2 => ?_) (fun f2 => ?_)
 ·
  replace hh := ifT hh f2
  try rw [f2]
  cbv
  refine bcs (fun f4 => ?_) (fun f4 => ?_)
  ·
   replace hh := ifT hh f4
   try rw [f4]
   cbv
   refine bcs (fun f6 => ?_) (fun f6 => ?_)
   ·
    replace hh := ifT hh f6
    try rw [f6]
    cbv
    replace hh := bind_some hh
    obtain ⟨x8, h7, hh⟩ := hh
    refine go_call hF (c_spec_l3Ids hQ h7) ?_
    cbv
    exact Eb
   ·
    replace hh := ifF hh f6
    try rw [f6]
    cbv
    exact Eb
  ·
   replace hh := ifF hh f4
   try rw [f4]
   cbv
   exact Eb
 ·
  replace hh := ifF hh f2
  try rw [f2]
  cbv
  exact Eb
theorem c_spec_l3Same_L0 {k : Nat} {p0 : GOcc} {p1 : GOcc} {r : Bool} (hh : spec_l3Same.f k p0 p1 = some r) : FunW P 193 [.agg [iA p0.From, iA p0.To, oA 1 (qInt p0.Ids)], .agg [iA p1.From, iA p1.To, tA (qInt p1.Ids)]] [.agg [iA p0.From, iA p0.To, oA 1 (qInt p0.Ids)], hA] (bA r) := by
  cases hQ; exact (c_spec_l3Same .mk hh).lend (rfl) (.lend (by simp) (.same rfl .nil))

theorem c_spec_l3Put {k : Nat} {p0 : List GOcc} {p1 : GOcc} {r : List GOcc} (hh : spec_l3Put.f k p0 p1 = some r) : FunW P 159 [oA 3 (qGOcc p0), .agg [iA p1.From, iA p1.To, tA (qInt p1.Ids)]] [hA, hA] (oA 3 (qGOcc r)) := by
 obtain ⟨p1a, p1b, p1c⟩ := p1
 unfold spec_l3Put.f at hh
 refine go (ts := [(4, none)]) (rm := [.own]) (pm := [.skip, .skip]) Tryz.func159 ?_
 intro Fn LW len cast toNat wrap add sub mul bin lt eq At set part app fz' rep nadd nmax ssize sext sget scat seq slt Wide Flat Ones Room r' post' hC hF hr hp
 cbv
 replace hh := bind_some hh
 obtain ⟨o1, hl1, hq1⟩ := hh
 refine loop_go4 hC eok mixed (spec_l3Put.l0 k p0 (⟨p1a, p1b, p1c⟩ : GOcc))
  (fun s12 => (⟨[(0, .ref (0, 0) 1 0 (len (qGOcc p0))), (3, .mptr (3, 0) 1 0 0), (5, iA s12), (1000000, .ref (0, 0) 1 0 (len (qGOcc p0)))], [((0, 0), .arr 1 3 (qGOcc p0)), ((3, 0), .box 1 [iA p1a, iA p1b, tA (qInt p1c)])]⟩ : St))
  (fun (x24 : Int) => (⟨[(0, .ref (0, 0) 1 0 (len (qGOcc p0))), (3, .mptr (3, 0) 1 0 0), (5, iA x24), (1000000, .ref (0, 0) 1 0 (len (qGOcc p0)))], [((0, 0), .arr 1 3 (qGOcc p0)), ((3, 0), .box 1 [iA p1a, iA p1b, tA (qInt p1c)])]⟩ : St)) (fun x => x) (.exit 0)
  (i0 := _) hl1 (fun _ => rfl) ?_ ?_ ?_
 ·
  rintro t0 e
  refine cov_of [((0, 0), (0, 0)), ((3, 0), (3, 0))] ?_
  cbv
  all_goals exact J1
 ·
  rintro x24 hx
  subst o1
  have hh := hq1
  cbv
  refine bcs (fun f37 => ?_) (fun f37 => ?_)
  ·
   replace hh := ifT hh f37
   try rw [f37]
   cbv
   replace hh := req_some hh
   obtain ⟨h38, hh⟩ := hh
   replace hh := req_some hh
   obtain ⟨h39, hh⟩ := hh
   refine ⟨Nb h38, Mb h39, ?_⟩
   replace hh := bind_some hh
   obtain ⟨⟨e40a, e40b, e40c⟩, h41, hh⟩ := hh
   try dsimp only at hh
   refine ⟨[iA e40a, iA e40b, tA (qInt e40c)], Gb h41, ?_⟩
   cbv
   replace hh := bind_some hh
   obtain ⟨x43, h42, hh⟩ := hh
   refine go_call hF (c_spec_l3Same hQ h42) ?_
   cbv
   refine bcs (fun f46 => ?_) (fun f46 => ?_)
   ·
    replace hh := ifT hh f46
    try rw [f46]
    cbv
    exact Eb
   ·
    replace hh := ifF hh f46
    try rw [f46]
    cbv
    replace hh := req_some hh
    obtain ⟨h47, hh⟩ := hh
    replace hh := req_some hh
    obtain ⟨h48, hh⟩ := hh
    replace hh := req_some hh
    obtain ⟨h49, hh⟩ := hh
    refine ⟨⟨Nb h47, Nb h48, Nb h49⟩, ?_⟩
    replace hh := req_some hh
    obtain ⟨h50, hh⟩ := hh
    refine ⟨⟨Ob, Ab, Ab⟩, ?_⟩
    refine ⟨⟨Ob, Wb h50⟩, ?_⟩
    replace hh := req_some hh
    obtain ⟨h51, hh⟩ := hh
    replace hh := req_some hh
    obtain ⟨h52, hh⟩ := hh
    replace hh := req_some hh
    obtain ⟨h53, hh⟩ := hh
    refine ⟨⟨Nb h51, Nb h52, Nb h53⟩, ?_⟩
    replace hh := bind_some hh
    obtain ⟨⟨x55a, x55b, x55c⟩, h54, hh⟩ := hh
    try dsimp only at hh
    have fc := FunW.frz (r' := .agg [iA x55a, iA x55b, tA (qInt x55c)]) (c_spec_l3Copy hQ h54) (by cases hQ; simp)
    try dsimp only at fc
    refine go_call hF fc ?_
    cbv
    replace hh := req_some hh
    obtain ⟨h57, hh⟩ := hh
    rw [if_pos (show (nadd 0 (toNat 0)) = 0 ∧ True from ⟨by cases hC; rfl, trivial⟩)]
    cbv
    refine ⟨⟨Ob, Ab⟩, ?_⟩
    refine ⟨⟨Ob, Wb h57⟩, ?_⟩
    replace hh := req_some hh
    obtain ⟨h58, hh⟩ := hh
    refine ⟨⟨Ob, Ab, Ab⟩, ?_⟩
    refine ⟨⟨Ob, Wb h58⟩, ?_⟩
    exact Eb
  ·
   replace hh := ifF hh f37
   try rw [f37]
   cbv
   replace hh := req_some hh
   obtain ⟨h59, hh⟩ := hh
   replace hh := req_some hh
   obtain ⟨h60, hh⟩ := hh
   replace hh := req_some hh
   obtain ⟨h61, hh⟩ := hh
   refine ⟨⟨Nb h59, Nb h60, Nb h61⟩, ?_⟩
   replace hh := req_some hh
   obtain ⟨h62, hh⟩ := hh
   refine ⟨⟨Ob, Ab, Ab⟩, ?_⟩
   refine ⟨⟨Ob, Wb h62⟩, ?_⟩
   replace hh := req_some hh
   obtain ⟨h63, hh⟩ := hh
   replace hh := req_some hh
   obtain ⟨h64, hh⟩ := hh
   replace hh := req_some hh
   obtain ⟨h65, hh⟩ := hh
   refine ⟨⟨Nb h63, Nb h64, Nb h65⟩, ?_⟩
   replace hh := bind_some hh
   obtain ⟨⟨x67a, x67b, x67c⟩, h66, hh⟩ := hh
   try dsimp only at hh
   have fc := FunW.frz (r' := .agg [iA x67a, iA x67b, tA (qInt x67c)]) (c_spec_l3Copy hQ h66) (by cases hQ; simp)
   try dsimp only at fc
   refine go_call hF fc ?_
   cbv
   replace hh := req_some hh
   obtain ⟨h69, hh⟩ := hh
   rw [if_pos (show (nadd 0 (toNat 0)) = 0 ∧ True from ⟨by cases hC; rfl, trivial⟩)]
   cbv
   refine ⟨⟨Ob, Ab⟩, ?_⟩
   refine ⟨⟨Ob, Wb h69⟩, ?_⟩
   replace hh := req_some hh
   obtain ⟨h70, hh⟩ := hh
   refine ⟨⟨Ob, Ab, Ab⟩, ?_⟩
   refine ⟨⟨Ob, Wb h70⟩, ?_⟩
   exact Eb
 ·
  rintro n s12 N1 D1 hh hN1 hD1 hQ1
  unfold spec_l3Put.l0 at hh
  cbv
  refine bcs (fun f26 => ?_) (fun f26 => ?_)
  ·
   replace hh := ifT hh f26
   try rw [f26]
   cbv
   replace hh := req_some hh
   obtain ⟨h27, hh⟩ := hh
   replace hh := req_some hh
   obtain ⟨h28, hh⟩ := hh
   refine ⟨Nb h27, Mb h28, ?_⟩
   replace hh := bind_some hh
   obtain ⟨⟨e29a, e29b, e29c⟩, h30, hh⟩ := hh
   try dsimp only at hh
   refine ⟨[iA e29a, iA e29b, tA (qInt e29c)], Gb h30, ?_⟩
   cbv
   replace hh := bind_some hh
   obtain ⟨x32, h31, hh⟩ := hh
   refine go_call hF (c_spec_OccLess hQ h31) ?_
   cbv
   refine bcs (fun f35 => ?_) (fun f35 => ?_)
   ·
    replace hh := ifT hh f35
    try rw [f35]
    cbv
    refine hN1 _ _ hh fun t0 e => ?_
    refine cov_of [((0, 0), (0, 0)), ((3, 0), (3, 0))] ?_
    cbv
    all_goals exact J1
   ·
    replace hh := ifF hh f35
    try rw [f35]
    cbv
    refine hD1 _ _ hh fun t0 e => ?_
    refine cov_of [((0, 0), (0, 0)), ((3, 0), (3, 0))] ?_
    cbv
    all_goals exact J1
  ·
   replace hh := ifF hh f26
   try rw [f26]
   cbv
   refine hD1 _ _ hh fun t0 e => ?_
   refine cov_of [((0, 0), (0, 0)), ((3, 0), (3, 0))] ?_
   cbv
   all_goals exact J1

theorem c_spec_l4Merge {k : Nat} {p0 : List GOcc} {p1 : List GOcc} {r : List GOcc} (hh : spec_l4Merge.f k p0 p1 = some r) : FunW P 155 [oA 3 (qGOcc p0), tA (qGOcc p1)] [hA, hA] (oA 3 (qGOcc r)) := by
 unfold spec_l4Merge.f at hh
 refine go (ts := [(4, none)]) (rm := [.own]) (pm := [.skip, .skip]) Tryz.func155 ?_
 intro Fn LW len cast toNat wrap add sub mul bin lt eq At set part app fz' rep nadd nmax ssize sext sget scat seq slt Wide Flat Ones Room r' post' hC hF hr hp
 cbv
 replace hh := bind_some hh
 obtain ⟨o1, hl1, hq1⟩ := hh
 refine loop_go4 hC eok mixed (fun n (i : (List GOcc) × Int) => spec_l4Merge.l0 k p1 n i.1 i.2)
  (fun ⟨s9, s10⟩ => (⟨[(0, .ref (0, 0) 1 0 (len (qGOcc s9))), (1, tA (qGOcc p1)), (5, iA s10)], [((0, 0), .arr 1 3 (qGOcc s9))]⟩ : St))
  (fun (x19 : List GOcc) => (⟨[(0, .ref (0, 0) 1 0 (len (qGOcc x19)))], [((0, 0), .arr 1 3 (qGOcc x19))]⟩ : St)) (fun x => x) (.exit 0)
  (i0 := (_, _)) hl1 (fun _ => rfl) ?_ ?_ ?_
 ·
  rintro ⟨t0, t1⟩ e
  refine cov_of [((0, 0), (0, 0))] ?_
  cbv
  all_goals exact J2
 ·
  rintro x19 hx
  subst o1
  have hh := hq1
  cbv
  exact Eb
 ·
  rintro n ⟨s9, s10⟩ N1 D1 hh hN1 hD1 hQ1
  dsimp only at hh
  unfold spec_l4Merge.l0 at hh
  cbv
  refine bcs (fun f21 => ?_) (fun f21 => ?_)
  ·
   replace hh := ifT hh f21
   try rw [f21]
   cbv
   replace hh := req_some hh
   obtain ⟨h22, hh⟩ := hh
   replace hh := bind_some hh
   obtain ⟨⟨e23a, e23b, e23c⟩, h24, hh⟩ := hh
   try dsimp only at hh
   refine ⟨[iA e23a, iA e23b, tA (qInt e23c)], Nb h22, Gb h24, ?_⟩
   cbv
   replace hh := bind_some hh
   obtain ⟨x26, h25, hh⟩ := hh
   refine go_call hF (c_spec_l3Put hQ h25) ?_
   cbv
   refine hN1 (_, _) _ hh fun ⟨t0, t1⟩ e => ?_
   refine cov_of [((0, 0), (17, 0))] ?_
   cbv
   all_goals exact J2
  ·
   replace hh := ifF hh f21
   try rw [f21]
   cbv
   refine hD1 _ _ hh fun t0 e => ?_
   refine cov_of [((0, 0), (0, 0))] ?_
   cbv
   all_goals exact J1

theorem c_spec_l4Told {k : Nat} {p0 : List GOcc} {r : (List GOcc) × Bool} (hh : spec_l4Told.f k p0 = some r) : FunW P 154 [tA (qGOcc p0)] [hA] (.tup [oA 3 (qGOccO r.1), bA r.2]) := by
 unfold spec_l4Told.f at hh
 refine go (ts := [(2, none), (3, none)]) (rm := [.own, .own]) (pm := [.skip]) Tryz.func154 ?_
 intro Fn LW len cast toNat wrap add sub mul bin lt eq At set part app fz' rep nadd nmax ssize sext sget scat seq slt Wide Flat Ones Room r' post' hC hF hr hp
 cbv
 refine bcs (fun f2 => ?_) (fun f2 => ?_)
 ·
  replace hh := ifT hh f2
  try rw [f2]
  cbv
  exact Eb
 ·
  replace hh := ifF hh f2
  try rw [f2]
  cbv
  replace hh := bind_some hh
  obtain ⟨x4, h3, hh⟩ := hh
  refine go_call hF (c_spec_l3List hQ h3) ?_
  cbv
  exact Eb
theorem c_spec_l4Told_L0S {k : Nat} {p0 : List GOcc} {r : (List GOcc) × Bool} (hh : spec_l4Told.f k p0 = some r) : FunW P 154 [oA 3 (qGOcc p0)] [oA 3 (qGOcc p0)] (.tup [oA 3 (qGOccO r.1), bA r.2]) := by
  cases hQ; exact (c_spec_l4Told .mk hh).lend (by simp [Vm.ownd, owndL, -r_GOccO_map, r_GOccO_ownd]) (.lend (congrArg A.tree (r_GOcc_fz _).symm) .nil)

theorem c_spec_OrOf {k : Nat} {p0 : List GOcc} {p1 : List GOcc} {r : (List GOcc) × Bool} (hh : spec_OrOf.f k p0 p1 = some r) : FunW P 128 [tA (qGOcc p0), tA (qGOcc p1)] [hA, hA] (.tup [oA 3 (qGOccO r.1), bA r.2]) := by
 unfold spec_OrOf.f at hh
 refine go (ts := [(4, none), (5, none)]) (rm := [.own, .own]) (pm := [.skip, .skip]) Tryz.func128 ?_
 intro Fn LW len cast toNat wrap add sub mul bin lt eq At set part app fz' rep nadd nmax ssize sext sget scat seq slt Wide Flat Ones Room r' post' hC hF hr hp
 cbv
 replace hh := bind_some hh
 obtain ⟨x2, h1, hh⟩ := hh
 refine go_call hF (c_spec_OccsOk hQ h1) ?_
 cbv
 replace hh := if_or hh
 rcases hh with ⟨b4, hh⟩ | ⟨b4, hh⟩
 ·
  have f5 : x2 = true := Tb b4
  have g := f5; cbv at g; try rw [f5]
  try rw [g]
  cbv
  replace hh := bind_some hh
  obtain ⟨x7, h6, hh⟩ := hh
  refine go_call hF (c_spec_OccsOk hQ h6) ?_
  cbv
  replace hh := if_or hh
  rcases hh with ⟨b9, hh⟩ | ⟨b9, hh⟩
  ·
   have f10 : x7 = true := Tb b9
   have g := f10; cbv at g; try rw [f10]
   try rw [g]
   cbv
   replace hh := bind_some hh
   obtain ⟨x12, h11, hh⟩ := hh
   refine go_call hF (FunW.frzIn (r' := oA 3 (qGOcc x12)) (c_spec_l3List hQ h11) (by cases hQ; simp)) ?_
   cbv
   replace hh := bind_some hh
   obtain ⟨x15, h14, hh⟩ := hh
   refine go_call hF (c_spec_l4Merge hQ h14) ?_
   cbv
   replace hh := bind_some hh
   obtain ⟨⟨x18_0, x18_1⟩, h17, hh⟩ := hh
   try dsimp only at hh
   have fc := c_spec_l4Told_L0S hQ h17
   try dsimp only at fc
   refine go_call hF fc ?_
   cbv
   exact Eb
  ·
   have f10 : x7 = false := Fb b9
   have g := f10; cbv at g; try rw [f10]
   try rw [g]
   cbv
   exact Eb
 ·
  have f5 : x2 = false := Fb b4
  have g := f5; cbv at g; try rw [f5]
  try rw [g]
  cbv
  exact Eb

theorem c_spec_l4Times {k : Nat} {p0 : List (List GOcc)} {r : List Int} (hh : spec_l4Times.f k p0 = some r) : FunW P 187 [tA (qLGOcc p0)] [hA] (oA 1 (qInt r)) := by
 unfold spec_l4Times.f at hh
 refine go (ts := [(2, none)]) (rm := [.own]) (pm := [.skip]) Tryz.func187 ?_
 intro Fn LW len cast toNat wrap add sub mul bin lt eq At set part app fz' rep nadd nmax ssize sext sget scat seq slt Wide Flat Ones Room r' post' hC hF hr hp
 cbv
 replace hh := bind_some hh
 obtain ⟨o1, hl1, hq1⟩ := hh
 refine loop_go4 hC eok mixed (fun n (i : (List Int) × Int) => spec_l4Times.l8 k p0 n i.1 i.2)
  (fun ⟨s139, s140⟩ => (⟨[(0, tA (qLGOcc p0)), (3, .ref (8, 0) 1 0 (len (qInt s139))), (4, iA s140)], [((8, 0), .arr 1 1 (qInt s139))]⟩ : St))
  (fun (x279 : List Int) => (⟨[(3, .ref (8, 0) 1 0 (len (qInt x279)))], [((8, 0), .arr 1 1 (qInt x279))]⟩ : St)) (fun x => x) (.exit 0)
  (i0 := (_, _)) hl1 (fun _ => rfl) ?_ ?_ ?_
 ·
  rintro ⟨t0, t1⟩ e
  refine cov_of [((8, 0), (8, 0))] ?_
  cbv
  all_goals exact J2
 ·
  rintro x279 hx
  subst o1
  have hh := hq1
  cbv
  exact Eb
 ·
  rintro n ⟨s139, s140⟩ N1 D1 hh hN1 hD1 hQ1
  dsimp only at hh
  unfold spec_l4Times.l8 at hh
  cbv
  replace hh := if_or hh
  rcases hh with ⟨b280, hh⟩ | ⟨b280, hh⟩
  ·
   have f281 : (lt 2000 s140) = true := Tb b280
   have g := f281; cbv at g; try rw [f281]
   try rw [g]
   cbv
   refine hD1 _ _ hh fun t0 e => ?_
   refine cov_of [((8, 0), (8, 0))] ?_
   cbv
   all_goals exact J1
  ·
   have f281 : (lt 2000 s140) = false := Fb b280
   have g := f281; cbv at g; try rw [f281]
   try rw [g]
   cbv
   replace hh := bind_some hh
   obtain ⟨o2, hl2, hq2⟩ := hh
   refine loop_go4 hC eok mixed (fun n (i : Bool × Int) => spec_l4Times.l11 k p0 s140 n i.1 i.2)
    (fun ⟨s324, s325⟩ => (⟨[(0, tA (qLGOcc p0)), (3, .ref (8, 0) 1 0 (len (qInt s139))), (4, iA s140), (5, bA s324), (6, iA s325)], [((8, 0), .arr 1 1 (qInt s139))]⟩ : St))
    (fun (x370 : Bool) => (⟨[(0, tA (qLGOcc p0)), (3, .ref (8, 0) 1 0 (len (qInt s139))), (4, iA s140), (5, bA x370)], [((8, 0), .arr 1 1 (qInt s139))]⟩ : St)) (fun x => x) (.exit 2)
    (i0 := (_, _)) hl2 (fun _ => rfl) ?_ ?_ ?_
   ·
    rintro ⟨t0, t1⟩ e
    refine cov_of [((8, 0), (8, 0))] ?_
    cbv
    all_goals exact J2
   ·
    rintro x370 hx
    subst o2
    have hh := hq2
    cbv
    refine bcs (fun f416 => ?_) (fun f416 => ?_)
    ·
     replace hh := ifT hh f416
     try rw [f416]
     cbv
     replace hh := req_some hh
     obtain ⟨h417, hh⟩ := hh
     refine ⟨⟨Ob, Ab⟩, ?_⟩
     refine ⟨⟨Ob, Wb h417⟩, ?_⟩
     refine hN1 (_, _) _ hh fun ⟨t0, t1⟩ e => ?_
     refine cov_of [((8, 0), (45, 0))] ?_
     cbv
     all_goals exact J2
    ·
     replace hh := ifF hh f416
     try rw [f416]
     cbv
     refine hN1 (_, _) _ hh fun ⟨t0, t1⟩ e => ?_
     refine cov_of [((8, 0), (8, 0))] ?_
     cbv
     all_goals exact J2
   ·
    rintro n ⟨s324, s325⟩ N2 D2 hh hN2 hD2 hQ2
    dsimp only at hh
    unfold spec_l4Times.l11 at hh
    cbv
    refine bcs (fun f372 => ?_) (fun f372 => ?_)
    ·
     replace hh := ifT hh f372
     try rw [f372]
     cbv
     replace hh := bind_some hh
     obtain ⟨o3, hl3, hq3⟩ := hh
     refine loop_go4 hC eok mixed (fun n (i : Bool × Int) => spec_l4Times.l12 k p0 s140 s325 n i.1 i.2)
      (fun ⟨s386, s387⟩ => (⟨[(0, tA (qLGOcc p0)), (3, .ref (8, 0) 1 0 (len (qInt s139))), (4, iA s140), (5, bA s386), (6, iA s325), (7, iA s387)], [((8, 0), .arr 1 1 (qInt s139))]⟩ : St))
      (fun (x401 : Bool) => (⟨[(0, tA (qLGOcc p0)), (3, .ref (8, 0) 1 0 (len (qInt s139))), (4, iA s140), (5, bA x401), (6, iA s325)], [((8, 0), .arr 1 1 (qInt s139))]⟩ : St)) (fun x => x) (.exit 4)
      (i0 := (_, _)) hl3 (fun _ => rfl) ?_ ?_ ?_
     ·
      rintro ⟨t0, t1⟩ e
      refine cov_of [((8, 0), (8, 0))] ?_
      cbv
      all_goals exact J2
     ·
      rintro x401 hx
      subst o3
      have hh := hq3
      cbv
      refine hN2 (_, _) _ hh fun ⟨t0, t1⟩ e => ?_
      refine cov_of [((8, 0), (8, 0))] ?_
      cbv
      all_goals exact J2
     ·
      rintro n ⟨s386, s387⟩ N3 D3 hh hN3 hD3 hQ3
      dsimp only at hh
      unfold spec_l4Times.l12 at hh
      cbv
      replace hh := req_some hh
      obtain ⟨h402, hh⟩ := hh
      replace hh := bind_some hh
      obtain ⟨e403, h404, hh⟩ := hh
      refine ⟨[tA (qGOcc e403)], Nb h402, Gb h404, ?_⟩
      cbv
      refine bcs (fun f406 => ?_) (fun f406 => ?_)
      ·
       replace hh := ifT hh f406
       try rw [f406]
       cbv
       refine bcs (fun f408 => ?_) (fun f408 => ?_)
       ·
        replace hh := ifT hh f408
        try rw [f408]
        cbv
        refine hN3 (_, _) _ hh fun ⟨t0, t1⟩ e => ?_
        refine cov_of [((8, 0), (8, 0))] ?_
        cbv
        all_goals exact J2
       ·
        replace hh := ifF hh f408
        try rw [f408]
        cbv
        replace hh := req_some hh
        obtain ⟨h409, hh⟩ := hh
        replace hh := bind_some hh
        obtain ⟨e410, h411, hh⟩ := hh
        refine ⟨[tA (qGOcc e410)], Nb h409, Gb h411, ?_⟩
        cbv
        replace hh := req_some hh
        obtain ⟨h412, hh⟩ := hh
        replace hh := bind_some hh
        obtain ⟨⟨e413a, e413b, e413c⟩, h414, hh⟩ := hh
        try dsimp only at hh
        refine ⟨[iA e413a, iA e413b, tA (qInt e413c)], Nb h412, Gb h414, ?_⟩
        cbv
        refine hN3 (_, _) _ hh fun ⟨t0, t1⟩ e => ?_
        refine cov_of [((8, 0), (8, 0))] ?_
        cbv
        all_goals exact J2
      ·
       replace hh := ifF hh f406
       try rw [f406]
       cbv
       refine hD3 _ _ hh fun t0 e => ?_
       refine cov_of [((8, 0), (8, 0))] ?_
       cbv
       all_goals exact J1
    ·
     replace hh := ifF hh f372
     try rw [f372]
     cbv
     refine hD2 _ _ hh fun t0 e => ?_
     refine cov_of [((8, 0), (8, 0))] ?_
     cbv
     all_goals exact J1
theorem c_spec_l4Times_L0S {k : Nat} {p0 : List (List GOcc)} {r : List Int} (hh : spec_l4Times.f k p0 = some r) : FunW P 187 [oA 1 (qLGOcc p0)] [oA 1 (qLGOcc p0)] (oA 1 (qInt r)) := by
  cases hQ; exact (c_spec_l4Times .mk hh).lend (r_Int_ownd _) (.lend (congrArg A.tree (r_LGOcc_fz _).symm) .nil)

theorem c_spec_l4At {k : Nat} {p0 : List GOcc} {p1 : Int} {r : List GOcc} (hh : spec_l4At.f k p0 p1 = some r) : FunW P 108 [tA (qGOcc p0), iA p1] [hA, hA] (oA 3 (qGOcc r)) := by
 unfold spec_l4At.f at hh
 refine go (ts := [(4, none)]) (rm := [.own]) (pm := [.skip, .skip]) Tryz.func108 ?_
 intro Fn LW len cast toNat wrap add sub mul bin lt eq At set part app fz' rep nadd nmax ssize sext sget scat seq slt Wide Flat Ones Room r' post' hC hF hr hp
 cbv
 replace hh := bind_some hh
 obtain ⟨o1, hl1, hq1⟩ := hh
 refine loop_go4 hC eok mixed (fun n (i : (List GOcc) × Int) => spec_l4At.l0 k p0 p1 n i.1 i.2)
  (fun ⟨s12, s13⟩ => (⟨[(0, tA (qGOcc p0)), (1, iA p1), (5, .ref (7, 0) 1 0 (len (qGOcc s12))), (6, iA s13)], [((7, 0), .arr 1 3 (qGOcc s12))]⟩ : St))
  (fun (x25 : List GOcc) => (⟨[(5, .ref (7, 0) 1 0 (len (qGOcc x25)))], [((7, 0), .arr 1 3 (qGOcc x25))]⟩ : St)) (fun x => x) (.exit 0)
  (i0 := (_, _)) hl1 (fun _ => rfl) ?_ ?_ ?_
 ·
  rintro ⟨t0, t1⟩ e
  refine cov_of [((7, 0), (7, 0))] ?_
  cbv
  all_goals exact J2
 ·
  rintro x25 hx
  subst o1
  have hh := hq1
  cbv
  exact Eb
 ·
  rintro n ⟨s12, s13⟩ N1 D1 hh hN1 hD1 hQ1
  dsimp only at hh
  unfold spec_l4At.l0 at hh
  cbv
  refine bcs (fun f27 => ?_) (fun f27 => ?_)
  ·
   replace hh := ifT hh f27
   try rw [f27]
   cbv
   replace hh := req_some hh
   obtain ⟨h28, hh⟩ := hh
   replace hh := bind_some hh
   obtain ⟨⟨e29a, e29b, e29c⟩, h30, hh⟩ := hh
   try dsimp only at hh
   refine ⟨[iA e29a, iA e29b, tA (qInt e29c)], Nb h28, Gb h30, ?_⟩
   cbv
   refine bcs (fun f32 => ?_) (fun f32 => ?_)
   ·
    replace hh := ifT hh f32
    try rw [f32]
    cbv
    replace hh := req_some hh
    obtain ⟨h33, hh⟩ := hh
    replace hh := bind_some hh
    obtain ⟨⟨e34a, e34b, e34c⟩, h35, hh⟩ := hh
    try dsimp only at hh
    refine ⟨[iA e34a, iA e34b, tA (qInt e34c)], Nb h33, Gb h35, ?_⟩
    cbv
    replace hh := req_some hh
    obtain ⟨h36, hh⟩ := hh
    refine ⟨⟨Ob, Ab⟩, ?_⟩
    refine ⟨⟨Ob, Wb h36⟩, ?_⟩
    refine hN1 (_, _) _ hh fun ⟨t0, t1⟩ e => ?_
    refine cov_of [((7, 0), (27, 0))] ?_
    cbv
    all_goals exact J2
   ·
    replace hh := ifF hh f32
    try rw [f32]
    cbv
    refine hN1 (_, _) _ hh fun ⟨t0, t1⟩ e => ?_
    refine cov_of [((7, 0), (7, 0))] ?_
    cbv
    all_goals exact J2
  ·
   replace hh := ifF hh f27
   try rw [f27]
   cbv
   refine hD1 _ _ hh fun t0 e => ?_
   refine cov_of [((7, 0), (7, 0))] ?_
   cbv
   all_goals exact J1

theorem c_spec_l4Before {k : Nat} {p0 : List GOcc} {p1 : GOcc} {r : List Bool} (hh : spec_l4Before.f k p0 p1 = some r) : FunW P 209 [tA (qGOcc p0), .agg [iA p1.From, iA p1.To, tA (qInt p1.Ids)]] [hA, hA] (oA 1 (qBool r)) := by
 obtain ⟨p1a, p1b, p1c⟩ := p1
 unfold spec_l4Before.f at hh
 refine go (ts := [(4, none)]) (rm := [.own]) (pm := [.skip, .skip]) Tryz.func209 ?_
 intro Fn LW len cast toNat wrap add sub mul bin lt eq At set part app fz' rep nadd nmax ssize sext sget scat seq slt Wide Flat Ones Room r' post' hC hF hr hp
 cbv
 replace hh := req_some hh
 obtain ⟨h1, hh⟩ := hh
 replace hh := req_some hh
 obtain ⟨h2, hh⟩ := hh
 replace hh := req_some hh
 obtain ⟨h3, hh⟩ := hh
 refine ⟨⟨Nb h1, Nb h2, Wb h3⟩, ?_⟩
 replace hh := bind_some hh
 obtain ⟨o1, hl1, hq1⟩ := hh
 refine loop_go4 hC eok mixed (fun n (i : (List Bool) × Int) => spec_l4Before.l0 k p0 (⟨p1a, p1b, p1c⟩ : GOcc) n i.1 i.2)
  (fun ⟨s13, s14⟩ => (⟨[(0, tA (qGOcc p0)), (3, .mptr (3, 0) 1 0 0), (5, .ref (9, 0) 1 0 (len (qBool s13))), (6, iA s14)], [((3, 0), .box 1 [iA p1a, iA p1b, tA (qInt p1c)]), ((9, 0), .arr 1 1 (qBool s13))]⟩ : St))
  (fun (x24 : List Bool) => (⟨[(5, .ref (9, 0) 1 0 (len (qBool x24)))], [((9, 0), .arr 1 1 (qBool x24))]⟩ : St)) (fun x => x) (.exit 0)
  (i0 := (_, _)) hl1 (fun _ => rfl) ?_ ?_ ?_
 ·
  rintro ⟨t0, t1⟩ e
  refine cov_of [((3, 0), (3, 0)), ((9, 0), (9, 0))] ?_
  cbv
  all_goals exact J2
 ·
  rintro x24 hx
  subst o1
  have hh := hq1
  cbv
  exact Eb
 ·
  rintro n ⟨s13, s14⟩ N1 D1 hh hN1 hD1 hQ1
  dsimp only at hh
  unfold spec_l4Before.l0 at hh
  cbv
  refine bcs (fun f26 => ?_) (fun f26 => ?_)
  ·
   replace hh := ifT hh f26
   try rw [f26]
   cbv
   replace hh := req_some hh
   obtain ⟨h27, hh⟩ := hh
   replace hh := bind_some hh
   obtain ⟨⟨e28a, e28b, e28c⟩, h29, hh⟩ := hh
   try dsimp only at hh
   refine ⟨[iA e28a, iA e28b, tA (qInt e28c)], Nb h27, Gb h29, ?_⟩
   cbv
   replace hh := req_some hh
   obtain ⟨h30, hh⟩ := hh
   replace hh := req_some hh
   obtain ⟨h31, hh⟩ := hh
   refine ⟨Nb h30, Mb h31, ?_⟩
   replace hh := bind_some hh
   obtain ⟨e32, h33, hh⟩ := hh
   refine ⟨[bA e32], Gb h33, ?_⟩
   cbv
   refine hN1 (_, _) _ hh fun ⟨t0, t1⟩ e => ?_
   refine cov_of [((3, 0), (3, 0)), ((9, 0), (9, 0))] ?_
   cbv
   all_goals exact J2
  ·
   replace hh := ifF hh f26
   try rw [f26]
   cbv
   refine hD1 _ _ hh fun t0 e => ?_
   refine cov_of [((9, 0), (9, 0))] ?_
   cbv
   all_goals exact J1
theorem c_spec_l4Before_L0S {k : Nat} {p0 : List GOcc} {p1 : GOcc} {r : List Bool} (hh : spec_l4Before.f k p0 p1 = some r) : FunW P 209 [oA 3 (qGOcc p0), .agg [iA p1.From, iA p1.To, tA (qInt p1.Ids)]] [oA 3 (qGOcc p0), hA] (oA 1 (qBool r)) := by
  cases hQ; exact (c_spec_l4Before .mk hh).lend (r_Bool_ownd _) (.lend (congrArg A.tree (r_GOcc_fz _).symm) (.same rfl .nil))
theorem c_spec_l4Before_L0 {k : Nat} {p0 : List GOcc} {p1 : GOcc} {r : List Bool} (hh : spec_l4Before.f k p0 p1 = some r) : FunW P 209 [oA 3 (qGOccO p0), .agg [iA p1.From, iA p1.To, tA (qInt p1.Ids)]] [oA 3 (qGOccO p0), hA] (oA 1 (qBool r)) := by
  cases hQ; exact (c_spec_l4Before .mk hh).lend (r_Bool_ownd _) (.lend (congrArg A.tree (r_GOccO_fz _).symm) (.same rfl .nil))

theorem c_spec_l4Pick {k : Nat} {p0 : Int} {p1 : List GOcc} {p2 : List Bool} {r : (List GOcc) × (List GOcc)} (hh : spec_l4Pick.f k p0 p1 p2 = some r) : FunW P 208 [iA p0, oA 3 (qGOcc p1), tA (qBool p2)] [hA, hA, hA] (.tup [tA (qGOcc r.1), oA 3 (qGOcc r.2)]) := by
 unfold spec_l4Pick.f at hh
 refine go (ts := [(6, none), (7, none)]) (rm := [.val, .own]) (pm := [.skip, .skip, .skip]) Tryz.func208 ?_
 intro Fn LW len cast toNat wrap add sub mul bin lt eq At set part app fz' rep nadd nmax ssize sext sget scat seq slt Wide Flat Ones Room r' post' hC hF hr hp
 cbv
 replace hh := bind_some hh
 obtain ⟨o1, hl1, hq1⟩ := hh
 refine loop_go4 hC eok mixed (fun n (i : (List GOcc) × Int) => spec_l4Pick.l0 k p1 p2 n i.1 i.2)
  (fun ⟨s13, s14⟩ => (⟨[(0, iA p0), (1, .ref (1, 0) 1 0 (len (qGOcc p1))), (2, tA (qBool p2)), (8, .ref (12, 0) 1 0 (len (qGOcc s13))), (9, .ref (13, 0) 1 0 (len (qGOcc ([] : List GOcc)))), (10, iA s14), (1000001, .ref (1, 0) 1 0 (len (qGOcc p1)))], [((1, 0), .arr 1 3 (qGOcc p1)), ((12, 0), .arr 1 3 (qGOcc s13)), ((13, 0), .arr 1 3 (qGOcc ([] : List GOcc)))]⟩ : St))
  (fun (x27 : List GOcc) => (⟨[(0, iA p0), (1, .ref (1, 0) 1 0 (len (qGOcc p1))), (2, tA (qBool p2)), (8, .ref (12, 0) 1 0 (len (qGOcc x27))), (9, .ref (13, 0) 1 0 (len (qGOcc ([] : List GOcc)))), (1000001, .ref (1, 0) 1 0 (len (qGOcc p1)))], [((1, 0), .arr 1 3 (qGOcc p1)), ((12, 0), .arr 1 3 (qGOcc x27)), ((13, 0), .arr 1 3 (qGOcc ([] : List GOcc)))]⟩ : St)) (fun x => x) (.exit 0)
  (i0 := (_, _)) hl1 (fun _ => rfl) ?_ ?_ ?_
 ·
  rintro ⟨t0, t1⟩ e
  refine cov_of [((1, 0), (1, 0)), ((12, 0), (12, 0)), ((13, 0), (13, 0))] ?_
  cbv
  all_goals exact J2
 ·
  rintro x27 hx
  subst o1
  have hh := hq1
  cbv
  refine bcs (fun f41 => ?_) (fun f41 => ?_)
  ·
   replace hh := ifT hh f41
   try rw [f41]
   cbv
   exact Eb
  ·
   replace hh := ifF hh f41
   try rw [f41]
   cbv
   refine bcs (fun f43 => ?_) (fun f43 => ?_)
   ·
    replace hh := ifT hh f43
    try rw [f43]
    cbv
    exact Eb
   ·
    replace hh := ifF hh f43
    try rw [f43]
    cbv
    refine bcs (fun f45 => ?_) (fun f45 => ?_)
    ·
     replace hh := ifT hh f45
     try rw [f45]
     cbv
     replace hh := req_some hh
     obtain ⟨h46, hh⟩ := hh
     replace hh := req_some hh
     obtain ⟨h47, hh⟩ := hh
     replace hh := req_some hh
     obtain ⟨h48, hh⟩ := hh
     refine ⟨⟨Nb h46, Nb h47, Nb h48⟩, ?_⟩
     exact Eb
    ·
     replace hh := ifF hh f45
     try rw [f45]
     cbv
     refine bcs (fun f50 => ?_) (fun f50 => ?_)
     ·
      replace hh := ifT hh f50
      try rw [f50]
      cbv
      replace hh := req_some hh
      obtain ⟨h51, hh⟩ := hh
      replace hh := req_some hh
      obtain ⟨h52, hh⟩ := hh
      replace hh := req_some hh
      obtain ⟨h53, hh⟩ := hh
      refine ⟨⟨Nb h51, Nb h52, Nb h53⟩, ?_⟩
      replace hh := bind_some hh
      obtain ⟨o1, hl1, hq1⟩ := hh
      refine loop_go4 hC eok mixed (fun n (i : (List GOcc) × Int) => spec_l4Pick.l1 k p1 p2 x27 n i.1 i.2)
       (fun ⟨s82, s83⟩ => (⟨[(0, iA p0), (1, .ref (1, 0) 1 0 (len (qGOcc p1))), (2, tA (qBool p2)), (8, .ref (12, 0) 1 (nadd 0 (toNat 0)) (toNat (sub 1 0))), (9, .ref (13, 0) 1 0 (len (qGOcc s82))), (11, iA s83), (1000001, .ref (1, 0) 1 0 (len (qGOcc p1)))], [((1, 0), .arr 1 3 (qGOcc p1)), ((12, 0), .arr 1 3 (qGOcc x27)), ((13, 0), .arr 1 3 (qGOcc s82))]⟩ : St))
       (fun (x112 : List GOcc) => (⟨[(8, .ref (12, 0) 1 (nadd 0 (toNat 0)) (toNat (sub 1 0))), (9, .ref (13, 0) 1 0 (len (qGOcc x112))), (1000001, .ref (1, 0) 1 0 (len (qGOcc p1)))], [((1, 0), .arr 1 3 (qGOcc p1)), ((12, 0), .arr 1 3 (qGOcc x27)), ((13, 0), .arr 1 3 (qGOcc x112))]⟩ : St)) (fun x => x) (.exit 3)
       (i0 := (_, _)) hl1 (fun _ => rfl) ?_ ?_ ?_
      ·
       rintro ⟨t0, t1⟩ e
       refine cov_of [((1, 0), (1, 0)), ((12, 0), (12, 0)), ((13, 0), (13, 0))] ?_
       cbv
       all_goals exact J2
      ·
       rintro x112 hx
       subst o1
       have hh := hq1
       cbv
       exact Eb
      ·
       rintro n ⟨s82, s83⟩ N1 D1 hh hN1 hD1 hQ1
       dsimp only at hh
       unfold spec_l4Pick.l1 at hh
       cbv
       refine bcs (fun f114 => ?_) (fun f114 => ?_)
       ·
        replace hh := ifT hh f114
        try rw [f114]
        cbv
        replace hh := req_some hh
        obtain ⟨h115, hh⟩ := hh
        replace hh := bind_some hh
        obtain ⟨e116, h117, hh⟩ := hh
        refine ⟨[bA e116], Nb h115, Gb h117, ?_⟩
        cbv
        replace hh := if_or hh
        rcases hh with ⟨b118, hh⟩ | ⟨b118, hh⟩
        ·
         have f119 : e116 = true := Tb b118
         have g := f119; cbv at g; try rw [f119]
         try rw [g]
         cbv
         first | rw [f50] | (have g := f50; cbv at g; rw [g])
         cbv
         replace hh := req_some hh
         obtain ⟨h120, hh⟩ := hh
         replace hh := req_some hh
         obtain ⟨h121, hh⟩ := hh
         refine ⟨Nb h120, Mb h121, ?_⟩
         replace hh := bind_some hh
         obtain ⟨⟨e122a, e122b, e122c⟩, h123, hh⟩ := hh
         try dsimp only at hh
         refine ⟨[iA e122a, iA e122b, tA (qInt e122c)], Gb h123, ?_⟩
         cbv
         replace hh := req_some hh
         obtain ⟨h124, hh⟩ := hh
         replace hh := req_some hh
         obtain ⟨h125, hh⟩ := hh
         refine ⟨Nb h124, Mb h125, ?_⟩
         replace hh := bind_some hh
         obtain ⟨⟨e126a, e126b, e126c⟩, h127, hh⟩ := hh
         try dsimp only at hh
         refine ⟨[iA e126a, iA e126b, tA (qInt e126c)], Gb h127, ?_⟩
         cbv
         replace hh := bind_some hh
         obtain ⟨x129, h128, hh⟩ := hh
         refine go_call hF (c_spec_l3Same hQ h128) ?_
         cbv
         replace hh := if_or hh
         rcases hh with ⟨b131, hh⟩ | ⟨b131, hh⟩
         ·
          have f132 : x129 = true := Tb b131
          have g := f132; cbv at g; try rw [f132]
          try rw [g]
          cbv
          refine hN1 (_, _) _ hh fun ⟨t0, t1⟩ e => ?_
          refine cov_of [((1, 0), (1, 0)), ((12, 0), (12, 0)), ((13, 0), (13, 0))] ?_
          cbv
          all_goals exact J2
         ·
          have f132 : x129 = false := Fb b131
          have g := f132; cbv at g; try rw [f132]
          try rw [g]
          cbv
          replace hh := req_some hh
          obtain ⟨h133, hh⟩ := hh
          replace hh := req_some hh
          obtain ⟨h134, hh⟩ := hh
          refine ⟨Nb h133, Mb h134, ?_⟩
          refine ⟨[iA e122a, iA e122b, tA (qInt e122c)], Gb h123, ?_⟩
          cbv
          replace hh := req_some hh
          obtain ⟨h135, hh⟩ := hh
          refine ⟨⟨Ob, Ab⟩, ?_⟩
          refine ⟨⟨Ob, Wb h135⟩, ?_⟩
          refine hN1 (_, _) _ hh fun ⟨t0, t1⟩ e => ?_
          refine cov_of [((1, 0), (1, 0)), ((12, 0), (12, 0)), ((13, 0), (85, 0))] ?_
          cbv
          all_goals exact J2
        ·
         have f119 : e116 = false := Fb b118
         have g := f119; cbv at g; try rw [f119]
         try rw [g]
         cbv
         replace hh := req_some hh
         obtain ⟨h136, hh⟩ := hh
         replace hh := req_some hh
         obtain ⟨h137, hh⟩ := hh
         refine ⟨Nb h136, Mb h137, ?_⟩
         replace hh := bind_some hh
         obtain ⟨⟨e138a, e138b, e138c⟩, h139, hh⟩ := hh
         try dsimp only at hh
         refine ⟨[iA e138a, iA e138b, tA (qInt e138c)], Gb h139, ?_⟩
         cbv
         replace hh := req_some hh
         obtain ⟨h140, hh⟩ := hh
         refine ⟨⟨Ob, Ab⟩, ?_⟩
         refine ⟨⟨Ob, Wb h140⟩, ?_⟩
         refine hN1 (_, _) _ hh fun ⟨t0, t1⟩ e => ?_
         refine cov_of [((1, 0), (1, 0)), ((12, 0), (12, 0)), ((13, 0), (85, 0))] ?_
         cbv
         all_goals exact J2
       ·
        replace hh := ifF hh f114
        try rw [f114]
        cbv
        refine hD1 _ _ hh fun t0 e => ?_
        refine cov_of [((1, 0), (1, 0)), ((12, 0), (12, 0)), ((13, 0), (13, 0))] ?_
        cbv
        all_goals exact J1
     ·
      replace hh := ifF hh f50
      try rw [f50]
      cbv
      replace hh := bind_some hh
      obtain ⟨o1, hl1, hq1⟩ := hh
      refine loop_go4 hC eok mixed (fun n (i : (List GOcc) × Int) => spec_l4Pick.l2 k p1 p2 n i.1 i.2)
       (fun ⟨s153, s154⟩ => (⟨[(0, iA p0), (1, .ref (1, 0) 1 0 (len (qGOcc p1))), (2, tA (qBool p2)), (8, .ref (12, 0) 1 0 (len (qGOcc x27))), (9, .ref (13, 0) 1 0 (len (qGOcc s153))), (11, iA s154), (1000001, .ref (1, 0) 1 0 (len (qGOcc p1)))], [((1, 0), .arr 1 3 (qGOcc p1)), ((12, 0), .arr 1 3 (qGOcc x27)), ((13, 0), .arr 1 3 (qGOcc s153))]⟩ : St))
       (fun (x167 : List GOcc) => (⟨[(8, .ref (12, 0) 1 0 (len (qGOcc x27))), (9, .ref (13, 0) 1 0 (len (qGOcc x167))), (1000001, .ref (1, 0) 1 0 (len (qGOcc p1)))], [((1, 0), .arr 1 3 (qGOcc p1)), ((12, 0), .arr 1 3 (qGOcc x27)), ((13, 0), .arr 1 3 (qGOcc x167))]⟩ : St)) (fun x => x) (.exit 3)
       (i0 := (_, _)) hl1 (fun _ => rfl) ?_ ?_ ?_
      ·
       rintro ⟨t0, t1⟩ e
       refine cov_of [((1, 0), (1, 0)), ((12, 0), (12, 0)), ((13, 0), (13, 0))] ?_
       cbv
       all_goals exact J2
      ·
       rintro x167 hx
       subst o1
       have hh := hq1
       cbv
       exact Eb
      ·
       rintro n ⟨s153, s154⟩ N1 D1 hh hN1 hD1 hQ1
       dsimp only at hh
       unfold spec_l4Pick.l2 at hh
       cbv
       refine bcs (fun f169 => ?_) (fun f169 => ?_)
       ·
        replace hh := ifT hh f169
        try rw [f169]
        cbv
        replace hh := req_some hh
        obtain ⟨h170, hh⟩ := hh
        replace hh := bind_some hh
        obtain ⟨e171, h172, hh⟩ := hh
        refine ⟨[bA e171], Nb h170, Gb h172, ?_⟩
        cbv
        replace hh := if_or hh
        rcases hh with ⟨b173, hh⟩ | ⟨b173, hh⟩
        ·
         have f174 : e171 = true := Tb b173
         have g := f174; cbv at g; try rw [f174]
         try rw [g]
         cbv
         first | rw [f50] | (have g := f50; cbv at g; rw [g])
         cbv
         refine hN1 (_, _) _ hh fun ⟨t0, t1⟩ e => ?_
         refine cov_of [((1, 0), (1, 0)), ((12, 0), (12, 0)), ((13, 0), (13, 0))] ?_
         cbv
         all_goals exact J2
        ·
         have f174 : e171 = false := Fb b173
         have g := f174; cbv at g; try rw [f174]
         try rw [g]
         cbv
         replace hh := req_some hh
         obtain ⟨h175, hh⟩ := hh
         replace hh := req_some hh
         obtain ⟨h176, hh⟩ := hh
         refine ⟨Nb h175, Mb h176, ?_⟩
         replace hh := bind_some hh
         obtain ⟨⟨e177a, e177b, e177c⟩, h178, hh⟩ := hh
         try dsimp only at hh
         refine ⟨[iA e177a, iA e177b, tA (qInt e177c)], Gb h178, ?_⟩
         cbv
         replace hh := req_some hh
         obtain ⟨h179, hh⟩ := hh
         refine ⟨⟨Ob, Ab⟩, ?_⟩
         refine ⟨⟨Ob, Wb h179⟩, ?_⟩
         refine hN1 (_, _) _ hh fun ⟨t0, t1⟩ e => ?_
         refine cov_of [((1, 0), (1, 0)), ((12, 0), (12, 0)), ((13, 0), (85, 0))] ?_
         cbv
         all_goals exact J2
       ·
        replace hh := ifF hh f169
        try rw [f169]
        cbv
        refine hD1 _ _ hh fun t0 e => ?_
        refine cov_of [((1, 0), (1, 0)), ((12, 0), (12, 0)), ((13, 0), (13, 0))] ?_
        cbv
        all_goals exact J1
 ·
  rintro n ⟨s13, s14⟩ N1 D1 hh hN1 hD1 hQ1
  dsimp only at hh
  unfold spec_l4Pick.l0 at hh
  cbv
  refine bcs (fun f29 => ?_) (fun f29 => ?_)
  ·
   replace hh := ifT hh f29
   try rw [f29]
   cbv
   replace hh := req_some hh
   obtain ⟨h30, hh⟩ := hh
   replace hh := bind_some hh
   obtain ⟨e31, h32, hh⟩ := hh
   refine ⟨[bA e31], Nb h30, Gb h32, ?_⟩
   cbv
   refine bcs (fun f34 => ?_) (fun f34 => ?_)
   ·
    replace hh := ifT hh f34
    try rw [f34]
    cbv
    replace hh := req_some hh
    obtain ⟨h35, hh⟩ := hh
    replace hh := req_some hh
    obtain ⟨h36, hh⟩ := hh
    refine ⟨Nb h35, Mb h36, ?_⟩
    replace hh := bind_some hh
    obtain ⟨⟨e37a, e37b, e37c⟩, h38, hh⟩ := hh
    try dsimp only at hh
    refine ⟨[iA e37a, iA e37b, tA (qInt e37c)], Gb h38, ?_⟩
    cbv
    replace hh := req_some hh
    obtain ⟨h39, hh⟩ := hh
    refine ⟨⟨Ob, Ab⟩, ?_⟩
    refine ⟨⟨Ob, Wb h39⟩, ?_⟩
    refine hN1 (_, _) _ hh fun ⟨t0, t1⟩ e => ?_
    refine cov_of [((1, 0), (1, 0)), ((12, 0), (30, 0)), ((13, 0), (13, 0))] ?_
    cbv
    all_goals exact J2
   ·
    replace hh := ifF hh f34
    try rw [f34]
    cbv
    refine hN1 (_, _) _ hh fun ⟨t0, t1⟩ e => ?_
    refine cov_of [((1, 0), (1, 0)), ((12, 0), (12, 0)), ((13, 0), (13, 0))] ?_
    cbv
    all_goals exact J2
  ·
   replace hh := ifF hh f29
   try rw [f29]
   cbv
   refine hD1 _ _ hh fun t0 e => ?_
   refine cov_of [((1, 0), (1, 0)), ((12, 0), (12, 0)), ((13, 0), (13, 0))] ?_
   cbv
   all_goals exact J1

theorem c_spec_l1Min {p0 : Int} {p1 : Int} {r : Int} (hh : spec_l1Min.f p0 p1 = some r) : FunW P 221 [iA p0, iA p1] [hA, hA] (iA r) := by
 unfold spec_l1Min.f at hh
 refine go (ts := [(4, none)]) (rm := [.own]) (pm := [.skip, .skip]) Tryz.func221 ?_
 intro Fn LW len cast toNat wrap add sub mul bin lt eq At set part app fz' rep nadd nmax ssize sext sget scat seq slt Wide Flat Ones Room r' post' hC hF hr hp
 cbv
 refine bcs (fun f2 => ?_) (fun f2 => ?_)
 ·
  replace hh := ifT hh f2
  try rw [f2]
  cbv
  exact Eb
 ·
  replace hh := ifF hh f2
  try rw [f2]
  cbv
  exact Eb

theorem c_spec_l1Max {p0 : Int} {p1 : Int} {r : Int} (hh : spec_l1Max.f p0 p1 = some r) : FunW P 222 [iA p0, iA p1] [hA, hA] (iA r) := by
 unfold spec_l1Max.f at hh
 refine go (ts := [(4, none)]) (rm := [.own]) (pm := [.skip, .skip]) Tryz.func222 ?_
 intro Fn LW len cast toNat wrap add sub mul bin lt eq At set part app fz' rep nadd nmax ssize sext sget scat seq slt Wide Flat Ones Room r' post' hC hF hr hp
 cbv
 refine bcs (fun f2 => ?_) (fun f2 => ?_)
 ·
  replace hh := ifT hh f2
  try rw [f2]
  cbv
  exact Eb
 ·
  replace hh := ifF hh f2
  try rw [f2]
  cbv
  exact Eb

theorem c_spec_l3Union {k : Nat} {p0 : List Int} {p1 : List Int} {r : List Int} (hh : spec_l3Union.f k p0 p1 = some r) : FunW P 102 [tA (qInt p0), tA (qInt p1)] [hA, hA] (oA 1 (qInt r)) := by
 unfold spec_l3Union.f at hh
 refine go (ts := [(4, none)]) (rm := [.own]) (pm := [.skip, .skip]) Tryz.func102 ?_
 intro Fn LW len cast toNat wrap add sub mul bin lt eq At set part app fz' rep nadd nmax ssize sext sget scat seq slt Wide Flat Ones Room r' post' hC hF hr hp
 cbv
 replace hh := bind_some hh
 obtain ⟨o1, hl1, hq1⟩ := hh
 refine loop_go4 hC eok mixed (fun n (i : (List Int) × Int × Int) => spec_l3Union.l0 k p0 p1 n i.1 i.2.1 i.2.2)
  (fun ⟨s43, s44, s45⟩ => (⟨[(0, tA (qInt p0)), (1, tA (qInt p1)), (5, .ref (8, 0) 1 0 (len (qInt s43))), (6, iA s44), (7, iA s45)], [((8, 0), .arr 1 1 (qInt s43))]⟩ : St))
  (fun (x88 : List Int) => (⟨[(5, .ref (8, 0) 1 0 (len (qInt x88)))], [((8, 0), .arr 1 1 (qInt x88))]⟩ : St)) (fun x => x) (.exit 0)
  (i0 := (_, _, _)) hl1 (fun _ => rfl) ?_ ?_ ?_
 ·
  rintro ⟨t0, t1, t2⟩ e
  refine cov_of [((8, 0), (8, 0))] ?_
  cbv
  all_goals exact J3
 ·
  rintro x88 hx
  subst o1
  have hh := hq1
  cbv
  exact Eb
 ·
  rintro n ⟨s43, s44, s45⟩ N1 D1 hh hN1 hD1 hQ1
  dsimp only at hh
  unfold spec_l3Union.l0 at hh
  cbv
  refine bcs (fun f90 => ?_) (fun f90 => ?_)
  ·
   replace hh := ifT hh f90
   try rw [f90]
   cbv
   replace hh := if_or hh
   rcases hh with ⟨b91, hh⟩ | ⟨b91, hh⟩
   ·
    have f92 : (lt s45 (cast (len (qInt p1)))) = true := Tb b91
    have g := f92; cbv at g; try rw [f92]
    try rw [g]
    cbv
    first | rw [f90] | (have g := f90; cbv at g; rw [g])
    cbv
    replace hh := req_some hh
    obtain ⟨h93, hh⟩ := hh
    replace hh := bind_some hh
    obtain ⟨e94, h95, hh⟩ := hh
    refine ⟨[iA e94], Nb h93, Gb h95, ?_⟩
    cbv
    replace hh := req_some hh
    obtain ⟨h96, hh⟩ := hh
    replace hh := bind_some hh
    obtain ⟨e97, h98, hh⟩ := hh
    refine ⟨[iA e97], Nb h96, Gb h98, ?_⟩
    cbv
    refine bcs (fun f100 => ?_) (fun f100 => ?_)
    ·
     replace hh := ifT hh f100
     try rw [f100]
     cbv
     replace hh := req_some hh
     obtain ⟨h101, hh⟩ := hh
     replace hh := bind_some hh
     obtain ⟨e102, h103, hh⟩ := hh
     refine ⟨[iA e102], Nb h101, Gb h103, ?_⟩
     cbv
     replace hh := req_some hh
     obtain ⟨h104, hh⟩ := hh
     refine ⟨⟨Ob, Ab⟩, ?_⟩
     refine ⟨⟨Ob, Wb h104⟩, ?_⟩
     refine hN1 (_, _, _) _ hh fun ⟨t0, t1, t2⟩ e => ?_
     refine cov_of [((8, 0), (46, 0))] ?_
     cbv
     all_goals exact J3
    ·
     replace hh := ifF hh f100
     try rw [f100]
     cbv
     first | rw [f90] | (have g := f90; cbv at g; rw [g])
     cbv
     replace hh := req_some hh
     obtain ⟨h105, hh⟩ := hh
     replace hh := bind_some hh
     obtain ⟨e106, h107, hh⟩ := hh
     refine ⟨[iA e106], Nb h105, Gb h107, ?_⟩
     cbv
     replace hh := req_some hh
     obtain ⟨h108, hh⟩ := hh
     replace hh := bind_some hh
     obtain ⟨e109, h110, hh⟩ := hh
     refine ⟨[iA e109], Nb h108, Gb h110, ?_⟩
     cbv
     refine bcs (fun f112 => ?_) (fun f112 => ?_)
     ·
      replace hh := ifT hh f112
      try rw [f112]
      cbv
      replace hh := req_some hh
      obtain ⟨h113, hh⟩ := hh
      replace hh := bind_some hh
      obtain ⟨e114, h115, hh⟩ := hh
      refine ⟨[iA e114], Nb h113, Gb h115, ?_⟩
      cbv
      replace hh := req_some hh
      obtain ⟨h116, hh⟩ := hh
      refine ⟨⟨Ob, Ab⟩, ?_⟩
      refine ⟨⟨Ob, Wb h116⟩, ?_⟩
      refine hN1 (_, _, _) _ hh fun ⟨t0, t1, t2⟩ e => ?_
      refine cov_of [((8, 0), (72, 0))] ?_
      cbv
      all_goals exact J3
     ·
      replace hh := ifF hh f112
      try rw [f112]
      cbv
      replace hh := req_some hh
      obtain ⟨h117, hh⟩ := hh
      replace hh := bind_some hh
      obtain ⟨e118, h119, hh⟩ := hh
      refine ⟨[iA e118], Nb h117, Gb h119, ?_⟩
      cbv
      replace hh := req_some hh
      obtain ⟨h120, hh⟩ := hh
      refine ⟨⟨Ob, Ab⟩, ?_⟩
      refine ⟨⟨Ob, Wb h120⟩, ?_⟩
      refine hN1 (_, _, _) _ hh fun ⟨t0, t1, t2⟩ e => ?_
      refine cov_of [((8, 0), (72, 0))] ?_
      cbv
      all_goals exact J3
   ·
    have f92 : (lt s45 (cast (len (qInt p1)))) = false := Fb b91
    have g := f92; cbv at g; try rw [f92]
    try rw [g]
    cbv
    replace hh := req_some hh
    obtain ⟨h121, hh⟩ := hh
    replace hh := bind_some hh
    obtain ⟨e122, h123, hh⟩ := hh
    refine ⟨[iA e122], Nb h121, Gb h123, ?_⟩
    cbv
    replace hh := req_some hh
    obtain ⟨h124, hh⟩ := hh
    refine ⟨⟨Ob, Ab⟩, ?_⟩
    refine ⟨⟨Ob, Wb h124⟩, ?_⟩
    refine hN1 (_, _, _) _ hh fun ⟨t0, t1, t2⟩ e => ?_
    refine cov_of [((8, 0), (46, 0))] ?_
    cbv
    all_goals exact J3
  ·
   replace hh := ifF hh f90
   try rw [f90]
   cbv
   refine bcs (fun f126 => ?_) (fun f126 => ?_)
   ·
    replace hh := ifT hh f126
    try rw [f126]
    cbv
    first | rw [f126] | (have g := f126; cbv at g; rw [g])
    cbv
    first | rw [f90] | (have g := f90; cbv at g; rw [g])
    cbv
    first | rw [f90] | (have g := f90; cbv at g; rw [g])
    cbv
    replace hh := req_some hh
    obtain ⟨h127, hh⟩ := hh
    replace hh := bind_some hh
    obtain ⟨e128, h129, hh⟩ := hh
    refine ⟨[iA e128], Nb h127, Gb h129, ?_⟩
    cbv
    replace hh := req_some hh
    obtain ⟨h130, hh⟩ := hh
    refine ⟨⟨Ob, Ab⟩, ?_⟩
    refine ⟨⟨Ob, Wb h130⟩, ?_⟩
    refine hN1 (_, _, _) _ hh fun ⟨t0, t1, t2⟩ e => ?_
    refine cov_of [((8, 0), (72, 0))] ?_
    cbv
    all_goals exact J3
   ·
    replace hh := ifF hh f126
    try rw [f126]
    cbv
    refine hD1 _ _ hh fun t0 e => ?_
    refine cov_of [((8, 0), (8, 0))] ?_
    cbv
    all_goals exact J1
theorem c_spec_l3Union_L0_1 {k : Nat} {p0 : List Int} {p1 : List Int} {r : List Int} (hh : spec_l3Union.f k p0 p1 = some r) : FunW P 102 [oA 1 (qInt p0), oA 1 (qInt p1)] [oA 1 (qInt p0), oA 1 (qInt p1)] (oA 1 (qInt r)) := by
  cases hQ; exact (c_spec_l3Union .mk hh).lend (r_Int_ownd _) (.lend (congrArg A.tree (r_Int_fz _).symm) (.lend (congrArg A.tree (r_Int_fz _).symm) .nil))

theorem c_spec_l3Join {k : Nat} {p0 : GOcc} {p1 : GOcc} {r : GOcc} (hh : spec_l3Join.f k p0 p1 = some r) : FunW P 217 [.agg [iA p0.From, iA p0.To, tA (qInt p0.Ids)], .agg [iA p1.From, iA p1.To, tA (qInt p1.Ids)]] [hA, hA] (.agg [iA r.From, iA r.To, oA 1 (qInt r.Ids)]) := by
 obtain ⟨p0a, p0b, p0c⟩ := p0
 obtain ⟨p1a, p1b, p1c⟩ := p1
 unfold spec_l3Join.f at hh
 refine go (ts := [(4, some 63)]) (rm := [.own]) (pm := [.skip, .skip]) Tryz.func217 ?_
 intro Fn LW len cast toNat wrap add sub mul bin lt eq At set part app fz' rep nadd nmax ssize sext sget scat seq slt Wide Flat Ones Room r' post' hC hF hr hp
 cbv
 replace hh := bind_some hh
 obtain ⟨x2, h1, hh⟩ := hh
 refine go_call hF (c_spec_l1Min hQ h1) ?_
 cbv
 replace hh := bind_some hh
 obtain ⟨x5, h4, hh⟩ := hh
 refine go_call hF (c_spec_l1Max hQ h4) ?_
 cbv
 replace hh := bind_some hh
 obtain ⟨x8, h7, hh⟩ := hh
 refine go_call hF (c_spec_l3Union hQ h7) ?_
 cbv
 exact Eb

theorem c_spec_l4Make {k : Nat} {p0 : Int} {p1 : List GOcc} {p2 : GOcc} {r : List GOcc} (hh : spec_l4Make.f k p0 p1 p2 = some r) : FunW P 210 [iA p0, tA (qGOcc p1), .agg [iA p2.From, iA p2.To, tA (qInt p2.Ids)]] [hA, hA, hA] (oA 3 (qGOcc r)) := by
 obtain ⟨p2a, p2b, p2c⟩ := p2
 unfold spec_l4Make.f at hh
 refine go (ts := [(6, none)]) (rm := [.own]) (pm := [.skip, .skip, .skip]) Tryz.func210 ?_
 intro Fn LW len cast toNat wrap add sub mul bin lt eq At set part app fz' rep nadd nmax ssize sext sget scat seq slt Wide Flat Ones Room r' post' hC hF hr hp
 cbv
 refine bcs (fun f2 => ?_) (fun f2 => ?_)
 ·
  replace hh := ifT hh f2
  try rw [f2]
  cbv
  exact Eb
 ·
  replace hh := ifF hh f2
  try rw [f2]
  cbv
  refine bcs (fun f4 => ?_) (fun f4 => ?_)
  ·
   replace hh := ifT hh f4
   try rw [f4]
   cbv
   replace hh := bind_some hh
   obtain ⟨o1, hl1, hq1⟩ := hh
   refine loop_go4 hC eok mixed (fun n (i : Int × Int × (List Int) × Int) => spec_l4Make.l0 k p1 n i.1 i.2.1 i.2.2.1 i.2.2.2)
    (fun ⟨s13, s14, s15, s16⟩ => (⟨[(1, tA (qGOcc p1)), (7, .ref (11, 0) 1 0 (len (qGOcc ([] : List GOcc)))), (8, .mptr (8, 0) 1 0 0), (9, iA s16)], [((8, 0), .box 1 [iA s13, iA s14, tA (qInt s15)]), ((11, 0), .arr 1 3 (qGOcc ([] : List GOcc)))]⟩ : St))
    (fun (⟨x25, x26, x27⟩ : Int × Int × (List Int)) => (⟨[(7, .ref (11, 0) 1 0 (len (qGOcc ([] : List GOcc)))), (8, .mptr (8, 0) 1 0 0)], [((8, 0), .box 1 [iA x25, iA x26, tA (qInt x27)]), ((11, 0), .arr 1 3 (qGOcc ([] : List GOcc)))]⟩ : St)) (fun x => x) (.exit 0)
    (i0 := (_, _, _, _)) hl1 (fun _ => rfl) ?_ ?_ ?_
   ·
    rintro ⟨t0, t1, t2, t3⟩ e
    refine cov_of [((8, 0), (8, 0)), ((11, 0), (11, 0))] ?_
    cbv
    all_goals exact J4
   ·
    rintro ⟨x25, x26, x27⟩ hx
    subst o1
    have hh := hq1
    cbv
    replace hh := req_some hh
    obtain ⟨h36, hh⟩ := hh
    refine ⟨⟨Ob, Ab⟩, ?_⟩
    refine ⟨⟨Ob, Wb h36⟩, ?_⟩
    exact Eb
   ·
    rintro n ⟨s13, s14, s15, s16⟩ N1 D1 hh hN1 hD1 hQ1
    dsimp only at hh
    unfold spec_l4Make.l0 at hh
    cbv
    refine bcs (fun f29 => ?_) (fun f29 => ?_)
    ·
     replace hh := ifT hh f29
     try rw [f29]
     cbv
     replace hh := req_some hh
     obtain ⟨h30, hh⟩ := hh
     replace hh := bind_some hh
     obtain ⟨⟨e31a, e31b, e31c⟩, h32, hh⟩ := hh
     try dsimp only at hh
     refine ⟨[iA e31a, iA e31b, tA (qInt e31c)], Nb h30, Gb h32, ?_⟩
     cbv
     replace hh := bind_some hh
     obtain ⟨⟨x34a, x34b, x34c⟩, h33, hh⟩ := hh
     try dsimp only at hh
     have fc := FunW.frz (r' := .agg [iA x34a, iA x34b, tA (qInt x34c)]) (c_spec_l3Join hQ h33) (by cases hQ; simp)
     try dsimp only at fc
     refine go_call hF fc ?_
     cbv
     refine hN1 (_, _, _, _) _ hh fun ⟨t0, t1, t2, t3⟩ e => ?_
     refine cov_of [((8, 0), (8, 0)), ((11, 0), (11, 0))] ?_
     cbv
     all_goals exact J4
    ·
     replace hh := ifF hh f29
     try rw [f29]
     cbv
     refine hD1 (_, _, _) _ hh fun ⟨t0, t1, t2⟩ e => ?_
     refine cov_of [((8, 0), (8, 0)), ((11, 0), (11, 0))] ?_
     cbv
     all_goals exact J3
  ·
   replace hh := ifF hh f4
   try rw [f4]
   cbv
   replace hh := bind_some hh
   obtain ⟨o1, hl1, hq1⟩ := hh
   refine loop_go4 hC eok mixed (fun n (i : (List GOcc) × Int) => spec_l4Make.l1 k p1 (⟨p2a, p2b, p2c⟩ : GOcc) n i.1 i.2)
    (fun ⟨s48, s49⟩ => (⟨[(1, tA (qGOcc p1)), (5, .mptr (5, 0) 1 0 0), (7, .ref (11, 0) 1 0 (len (qGOcc s48))), (10, iA s49)], [((5, 0), .box 1 [iA p2a, iA p2b, tA (qInt p2c)]), ((11, 0), .arr 1 3 (qGOcc s48))]⟩ : St))
    (fun (x61 : List GOcc) => (⟨[(7, .ref (11, 0) 1 0 (len (qGOcc x61)))], [((11, 0), .arr 1 3 (qGOcc x61))]⟩ : St)) (fun x => x) (.exit 2)
    (i0 := (_, _)) hl1 (fun _ => rfl) ?_ ?_ ?_
   ·
    rintro ⟨t0, t1⟩ e
    refine cov_of [((5, 0), (5, 0)), ((11, 0), (11, 0))] ?_
    cbv
    all_goals exact J2
   ·
    rintro x61 hx
    subst o1
    have hh := hq1
    cbv
    exact Eb
   ·
    rintro n ⟨s48, s49⟩ N1 D1 hh hN1 hD1 hQ1
    dsimp only at hh
    unfold spec_l4Make.l1 at hh
    cbv
    refine bcs (fun f63 => ?_) (fun f63 => ?_)
    ·
     replace hh := ifT hh f63
     try rw [f63]
     cbv
     replace hh := req_some hh
     obtain ⟨h64, hh⟩ := hh
     replace hh := bind_some hh
     obtain ⟨⟨e65a, e65b, e65c⟩, h66, hh⟩ := hh
     try dsimp only at hh
     refine ⟨[iA e65a, iA e65b, tA (qInt e65c)], Nb h64, Gb h66, ?_⟩
     cbv
     replace hh := bind_some hh
     obtain ⟨⟨x68a, x68b, x68c⟩, h67, hh⟩ := hh
     try dsimp only at hh
     have fc := c_spec_l3Join hQ h67
     try dsimp only at fc
     refine go_call hF fc ?_
     cbv
     replace hh := bind_some hh
     obtain ⟨x71, h70, hh⟩ := hh
     refine ⟨Ob, ?_⟩
     refine go_call hF (c_spec_l3Put hQ h70) ?_
     cbv
     refine hN1 (_, _) _ hh fun ⟨t0, t1⟩ e => ?_
     refine cov_of [((5, 0), (5, 0)), ((11, 0), (48, 0))] ?_
     cbv
     all_goals exact J2
    ·
     replace hh := ifF hh f63
     try rw [f63]
     cbv
     refine hD1 _ _ hh fun t0 e => ?_
     refine cov_of [((11, 0), (11, 0))] ?_
     cbv
     all_goals exact J1

theorem c_spec_l4Seq {k : Nat} {p0 : Int} {p1 : GPair} {p2 : List GOcc} {p3 : List GOcc} {r : GPair × (List GOcc)} (hh : spec_l4Seq.f k p0 p1 p2 p3 = some r) : FunW P 188 [iA p0, .agg [oA 3 (qGOcc p1.Left), oA 3 (qGOcc p1.Right)], tA (qGOcc p2), tA (qGOcc p3)] [hA, hA, hA, hA] (.tup [.agg [oA 3 (qGOcc r.1.Left), oA 3 (qGOcc r.1.Right)], oA 3 (qGOcc r.2)]) := by
 obtain ⟨p1a, p1b⟩ := p1
 unfold spec_l4Seq.f at hh
 refine go (ts := [(8, some 143), (9, none)]) (rm := [.own, .own]) (pm := [.skip, .skip, .skip, .skip]) Tryz.func188 ?_
 intro Fn LW len cast toNat wrap add sub mul bin lt eq At set part app fz' rep nadd nmax ssize sext sget scat seq slt Wide Flat Ones Room r' post' hC hF hr hp
 cbv
 replace hh := bind_some hh
 obtain ⟨o1, hl1, hq1⟩ := hh
 refine loop_go4 hC eok mixed (fun n (i : (List GOcc) × (List GOcc) × Int) => spec_l4Seq.l0 k p0 p3 n i.1 i.2.1 i.2.2)
  (fun ⟨s21, s22, s23⟩ => (⟨[(0, iA p0), (2, tA (qGOcc p2)), (3, tA (qGOcc p3)), (5, .mptr (5, 0) 1 0 0), (8, .mptr (8, 0) 1 0 0), (10, .ref (14, 0) 1 0 (len (qGOcc s22))), (11, iA s23)], [((1, 0), .arr 1 3 (qGOcc s21)), ((1, 1), .arr 1 3 (qGOcc p1b)), ((5, 0), .box 1 [.ref (1, 0) 1 0 (len (qGOcc s21)), .ref (1, 1) 1 0 (len (qGOcc p1b))]), ((8, 0), .box 1 [.lit (.slice none 0 0), .lit (.slice none 0 0)]), ((14, 0), .arr 1 3 (qGOcc s22))]⟩ : St))
  (fun (⟨x44, x45⟩ : (List GOcc) × (List GOcc)) => (⟨[(2, tA (qGOcc p2)), (5, .mptr (5, 0) 1 0 0), (8, .mptr (8, 0) 1 0 0), (10, .ref (14, 0) 1 0 (len (qGOcc x45)))], [((1, 0), .arr 1 3 (qGOcc x44)), ((1, 1), .arr 1 3 (qGOcc p1b)), ((5, 0), .box 1 [.ref (1, 0) 1 0 (len (qGOcc x44)), .ref (1, 1) 1 0 (len (qGOcc p1b))]), ((8, 0), .box 1 [.lit (.slice none 0 0), .lit (.slice none 0 0)]), ((14, 0), .arr 1 3 (qGOcc x45))]⟩ : St)) (fun x => x) (.exit 0)
  (i0 := (_, _, _)) hl1 (fun _ => rfl) ?_ ?_ ?_
 ·
  rintro ⟨t0, t1, t2⟩ e
  refine cov_of [((1, 0), (1, 0)), ((1, 1), (1, 1)), ((5, 0), (5, 0)), ((8, 0), (8, 0)), ((14, 0), (14, 0))] ?_
  cbv
  all_goals exact J3
 ·
  rintro ⟨x44, x45⟩ hx
  subst o1
  have hh := hq1
  cbv
  replace hh := bind_some hh
  obtain ⟨x67, h66, hh⟩ := hh
  refine go_call hF (c_spec_l4Merge hQ h66) ?_
  cbv
  exact Eb
 ·
  rintro n ⟨s21, s22, s23⟩ N1 D1 hh hN1 hD1 hQ1
  dsimp only at hh
  unfold spec_l4Seq.l0 at hh
  cbv
  refine bcs (fun f47 => ?_) (fun f47 => ?_)
  ·
   replace hh := ifT hh f47
   try rw [f47]
   cbv
   replace hh := req_some hh
   obtain ⟨h48, hh⟩ := hh
   replace hh := bind_some hh
   obtain ⟨⟨e49a, e49b, e49c⟩, h50, hh⟩ := hh
   try dsimp only at hh
   refine ⟨[iA e49a, iA e49b, tA (qInt e49c)], Nb h48, Gb h50, ?_⟩
   cbv
   replace hh := bind_some hh
   obtain ⟨x52, h51, hh⟩ := hh
   refine go_call hF (c_spec_l4Before_L0S hQ h51) ?_
   cbv
   replace hh := bind_some hh
   obtain ⟨⟨x55_0, x55_1⟩, h54, hh⟩ := hh
   try dsimp only at hh
   refine ⟨Ob, ?_⟩
   have fc := c_spec_l4Pick hQ h54
   try dsimp only at fc
   refine go_call hF fc ?_
   cbv
   replace hh := req_some hh
   obtain ⟨h57, hh⟩ := hh
   replace hh := bind_some hh
   obtain ⟨⟨e58a, e58b, e58c⟩, h59, hh⟩ := hh
   try dsimp only at hh
   refine ⟨[iA e58a, iA e58b, tA (qInt e58c)], Nb h57, Gb h59, ?_⟩
   cbv
   replace hh := bind_some hh
   obtain ⟨x61, h60, hh⟩ := hh
   refine go_call hF (c_spec_l4Make hQ h60) ?_
   cbv
   replace hh := bind_some hh
   obtain ⟨x64, h63, hh⟩ := hh
   refine ⟨Ob, ?_⟩
   refine go_call hF (c_spec_l4Merge hQ h63) ?_
   cbv
   refine hN1 (_, _, _) _ hh fun ⟨t0, t1, t2⟩ e => ?_
   refine cov_of [((1, 0), (32, 0)), ((1, 1), (1, 1)), ((5, 0), (5, 0)), ((8, 0), (8, 0)), ((14, 0), (43, 0))] ?_
   cbv
   all_goals exact J3
  ·
   replace hh := ifF hh f47
   try rw [f47]
   cbv
   refine hD1 (_, _) _ hh fun ⟨t0, t1⟩ e => ?_
   refine cov_of [((1, 0), (1, 0)), ((1, 1), (1, 1)), ((5, 0), (5, 0)), ((8, 0), (8, 0)), ((14, 0), (14, 0))] ?_
   cbv
   all_goals exact J2

theorem c_spec_l4Whole {k : Nat} {p0 : List GOcc} {r : List Bool} (hh : spec_l4Whole.f k p0 = some r) : FunW P 218 [tA (qGOcc p0)] [hA] (oA 1 (qBool r)) := by
 unfold spec_l4Whole.f at hh
 refine go (ts := [(2, none)]) (rm := [.own]) (pm := [.skip]) Tryz.func218 ?_
 intro Fn LW len cast toNat wrap add sub mul bin lt eq At set part app fz' rep nadd nmax ssize sext sget scat seq slt Wide Flat Ones Room r' post' hC hF hr hp
 cbv
 replace hh := req_some hh
 obtain ⟨h1, hh⟩ := hh
 replace hh := req_some hh
 obtain ⟨h2, hh⟩ := hh
 replace hh := req_some hh
 obtain ⟨h3, hh⟩ := hh
 refine ⟨⟨Nb h1, Nb h2, Wb h3⟩, ?_⟩
 replace hh := bind_some hh
 obtain ⟨o1, hl1, hq1⟩ := hh
 refine loop_go4 hC eok mixed (fun n (i : (List Bool) × Int) => spec_l4Whole.l0 k p0 n i.1 i.2)
  (fun ⟨s10, s11⟩ => (⟨[(0, tA (qGOcc p0)), (3, .ref (7, 0) 1 0 (len (qBool s10))), (4, iA s11)], [((7, 0), .arr 1 1 (qBool s10))]⟩ : St))
  (fun (x18 : List Bool) => (⟨[(3, .ref (7, 0) 1 0 (len (qBool x18)))], [((7, 0), .arr 1 1 (qBool x18))]⟩ : St)) (fun x => x) (.exit 0)
  (i0 := (_, _)) hl1 (fun _ => rfl) ?_ ?_ ?_
 ·
  rintro ⟨t0, t1⟩ e
  refine cov_of [((7, 0), (7, 0))] ?_
  cbv
  all_goals exact J2
 ·
  rintro x18 hx
  subst o1
  have hh := hq1
  cbv
  exact Eb
 ·
  rintro n ⟨s10, s11⟩ N1 D1 hh hN1 hD1 hQ1
  dsimp only at hh
  unfold spec_l4Whole.l0 at hh
  cbv
  refine bcs (fun f20 => ?_) (fun f20 => ?_)
  ·
   replace hh := ifT hh f20
   try rw [f20]
   cbv
   replace hh := req_some hh
   obtain ⟨h21, hh⟩ := hh
   replace hh := req_some hh
   obtain ⟨h22, hh⟩ := hh
   refine ⟨Nb h21, Mb h22, ?_⟩
   replace hh := bind_some hh
   obtain ⟨e23, h24, hh⟩ := hh
   refine ⟨[bA e23], Gb h24, ?_⟩
   cbv
   refine hN1 (_, _) _ hh fun ⟨t0, t1⟩ e => ?_
   refine cov_of [((7, 0), (7, 0))] ?_
   cbv
   all_goals exact J2
  ·
   replace hh := ifF hh f20
   try rw [f20]
   cbv
   refine hD1 _ _ hh fun t0 e => ?_
   refine cov_of [((7, 0), (7, 0))] ?_
   cbv
   all_goals exact J1
theorem c_spec_l4Whole_L0S {k : Nat} {p0 : List GOcc} {r : List Bool} (hh : spec_l4Whole.f k p0 = some r) : FunW P 218 [oA 3 (qGOcc p0)] [oA 3 (qGOcc p0)] (oA 1 (qBool r)) := by
  cases hQ; exact (c_spec_l4Whole .mk hh).lend (r_Bool_ownd _) (.lend (congrArg A.tree (r_GOcc_fz _).symm) .nil)
theorem c_spec_l4Whole_L0 {k : Nat} {p0 : List GOcc} {r : List Bool} (hh : spec_l4Whole.f k p0 = some r) : FunW P 218 [oA 3 (qGOccO p0)] [oA 3 (qGOccO p0)] (oA 1 (qBool r)) := by
  cases hQ; exact (c_spec_l4Whole .mk hh).lend (r_Bool_ownd _) (.lend (congrArg A.tree (r_GOccO_fz _).symm) .nil)

theorem c_spec_l4One {k : Nat} {p0 : Int} {p1 : List GOcc} {p2 : List GOcc} {p3 : GOcc} {r : (List GOcc) × (List GOcc) × (List GOcc)} (hh : spec_l4One.f k p0 p1 p2 p3 = some r) : FunW P 211 [iA p0, oA 3 (qGOcc p1), oA 3 (qGOcc p2), .agg [iA p3.From, iA p3.To, tA (qInt p3.Ids)]] [hA, hA, hA, hA] (.tup [oA 3 (qGOcc r.1), oA 3 (qGOcc r.2.1), oA 3 (qGOcc r.2.2)]) := by
 obtain ⟨p3a, p3b, p3c⟩ := p3
 unfold spec_l4One.f at hh
 refine go (ts := [(8, none), (9, none), (10, none)]) (rm := [.own, .own, .own]) (pm := [.skip, .skip, .skip, .skip]) Tryz.func211 ?_
 intro Fn LW len cast toNat wrap add sub mul bin lt eq At set part app fz' rep nadd nmax ssize sext sget scat seq slt Wide Flat Ones Room r' post' hC hF hr hp
 cbv
 replace hh := bind_some hh
 obtain ⟨x2, h1, hh⟩ := hh
 refine go_call hF (c_spec_l4Whole_L0S hQ h1) ?_
 cbv
 replace hh := bind_some hh
 obtain ⟨⟨x5_0, x5_1⟩, h4, hh⟩ := hh
 try dsimp only at hh
 refine ⟨Ob, ?_⟩
 have fc := c_spec_l4Pick hQ h4
 try dsimp only at fc
 refine go_call hF fc ?_
 cbv
 replace hh := bind_some hh
 obtain ⟨x8, h7, hh⟩ := hh
 refine go_call hF (c_spec_l4Make hQ h7) ?_
 cbv
 refine bcs (fun f11 => ?_) (fun f11 => ?_)
 ·
  replace hh := ifT hh f11
  try rw [f11]
  cbv
  replace hh := bind_some hh
  obtain ⟨x13, h12, hh⟩ := hh
  refine go_call hF (c_spec_l3Put hQ h12) ?_
  cbv
  exact Eb
 ·
  replace hh := ifF hh f11
  try rw [f11]
  cbv
  refine bcs (fun f16 => ?_) (fun f16 => ?_)
  ·
   replace hh := ifT hh f16
   try rw [f16]
   cbv
   exact Eb
  ·
   replace hh := ifF hh f16
   try rw [f16]
   cbv
   refine bcs (fun f18 => ?_) (fun f18 => ?_)
   ·
    replace hh := ifT hh f18
    try rw [f18]
    cbv
    replace hh := bind_some hh
    obtain ⟨x20, h19, hh⟩ := hh
    refine go_call hF (c_spec_l3Put hQ h19) ?_
    cbv
    exact Eb
   ·
    replace hh := ifF hh f18
    try rw [f18]
    cbv
    exact Eb

theorem c_spec_l4And {k : Nat} {p0 : Int} {p1 : GPair} {p2 : List GOcc} {p3 : List GOcc} {r : GPair × (List GOcc)} (hh : spec_l4And.f k p0 p1 p2 p3 = some r) : FunW P 189 [iA p0, .agg [oA 3 (qGOcc p1.Left), oA 3 (qGOcc p1.Right)], tA (qGOcc p2), tA (qGOcc p3)] [hA, hA, hA, hA] (.tup [.agg [oA 3 (qGOcc r.1.Left), oA 3 (qGOcc r.1.Right)], oA 3 (qGOcc r.2)]) := by
 obtain ⟨p1a, p1b⟩ := p1
 unfold spec_l4And.f at hh
 refine go (ts := [(8, some 143), (9, none)]) (rm := [.own, .own]) (pm := [.skip, .skip, .skip, .skip]) Tryz.func189 ?_
 intro Fn LW len cast toNat wrap add sub mul bin lt eq At set part app fz' rep nadd nmax ssize sext sget scat seq slt Wide Flat Ones Room r' post' hC hF hr hp
 cbv
 replace hh := bind_some hh
 obtain ⟨o1, hl1, hq1⟩ := hh
 refine loop_go4 hC eok mixed (fun n (i : (List GOcc) × (List GOcc) × (List GOcc) × Int) => spec_l4And.l0 k p0 p2 n i.1 i.2.1 i.2.2.1 i.2.2.2)
  (fun ⟨s12, s13, s14, s15⟩ => (⟨[(0, iA p0), (2, tA (qGOcc p2)), (3, tA (qGOcc p3)), (5, .mptr (5, 0) 1 0 0), (8, .mptr (8, 0) 1 0 0), (10, .ref (19, 0) 1 0 (len (qGOcc s14))), (11, iA s15)], [((1, 0), .arr 1 3 (qGOcc s12)), ((1, 1), .arr 1 3 (qGOcc s13)), ((5, 0), .box 1 [.ref (1, 0) 1 0 (len (qGOcc s12)), .ref (1, 1) 1 0 (len (qGOcc s13))]), ((8, 0), .box 1 [.lit (.slice none 0 0), .lit (.slice none 0 0)]), ((19, 0), .arr 1 3 (qGOcc s14))]⟩ : St))
  (fun (⟨x27, x28, x29⟩ : (List GOcc) × (List GOcc) × (List GOcc)) => (⟨[(0, iA p0), (3, tA (qGOcc p3)), (5, .mptr (5, 0) 1 0 0), (8, .mptr (8, 0) 1 0 0), (10, .ref (19, 0) 1 0 (len (qGOcc x29)))], [((1, 0), .arr 1 3 (qGOcc x27)), ((1, 1), .arr 1 3 (qGOcc x28)), ((5, 0), .box 1 [.ref (1, 0) 1 0 (len (qGOcc x27)), .ref (1, 1) 1 0 (len (qGOcc x28))]), ((8, 0), .box 1 [.lit (.slice none 0 0), .lit (.slice none 0 0)]), ((19, 0), .arr 1 3 (qGOcc x29))]⟩ : St)) (fun x => x) (.exit 0)
  (i0 := (_, _, _, _)) hl1 (fun _ => rfl) ?_ ?_ ?_
 ·
  rintro ⟨t0, t1, t2, t3⟩ e
  refine cov_of [((1, 0), (1, 0)), ((1, 1), (1, 1)), ((5, 0), (5, 0)), ((8, 0), (8, 0)), ((19, 0), (19, 0))] ?_
  cbv
  all_goals exact J4
 ·
  rintro ⟨x27, x28, x29⟩ hx
  subst o1
  have hh := hq1
  cbv
  replace hh := bind_some hh
  obtain ⟨o1, hl1, hq1⟩ := hh
  refine loop_go4 hC eok mixed (fun n (i : (List GOcc) × (List GOcc) × (List GOcc) × Int) => spec_l4And.l1 k p0 p3 n i.1 i.2.1 i.2.2.1 i.2.2.2)
   (fun ⟨s52, s53, s54, s55⟩ => (⟨[(0, iA p0), (3, tA (qGOcc p3)), (5, .mptr (5, 0) 1 0 0), (8, .mptr (8, 0) 1 0 0), (10, .ref (19, 0) 1 0 (len (qGOcc s54))), (15, iA s55)], [((1, 0), .arr 1 3 (qGOcc s52)), ((1, 1), .arr 1 3 (qGOcc s53)), ((5, 0), .box 1 [.ref (1, 0) 1 0 (len (qGOcc s52)), .ref (1, 1) 1 0 (len (qGOcc s53))]), ((8, 0), .box 1 [.lit (.slice none 0 0), .lit (.slice none 0 0)]), ((19, 0), .arr 1 3 (qGOcc s54))]⟩ : St))
   (fun (⟨x67, x68, x69⟩ : (List GOcc) × (List GOcc) × (List GOcc)) => (⟨[(5, .mptr (5, 0) 1 0 0), (8, .mptr (8, 0) 1 0 0), (10, .ref (19, 0) 1 0 (len (qGOcc x69)))], [((1, 0), .arr 1 3 (qGOcc x67)), ((1, 1), .arr 1 3 (qGOcc x68)), ((5, 0), .box 1 [.ref (1, 0) 1 0 (len (qGOcc x67)), .ref (1, 1) 1 0 (len (qGOcc x68))]), ((8, 0), .box 1 [.lit (.slice none 0 0), .lit (.slice none 0 0)]), ((19, 0), .arr 1 3 (qGOcc x69))]⟩ : St)) (fun x => x) (.exit 2)
   (i0 := (_, _, _, _)) hl1 (fun _ => rfl) ?_ ?_ ?_
  ·
   rintro ⟨t0, t1, t2, t3⟩ e
   refine cov_of [((1, 0), (1, 0)), ((1, 1), (1, 1)), ((5, 0), (5, 0)), ((8, 0), (8, 0)), ((19, 0), (19, 0))] ?_
   cbv
   all_goals exact J4
  ·
   rintro ⟨x67, x68, x69⟩ hx
   subst o1
   have hh := hq1
   cbv
   exact Eb
  ·
   rintro n ⟨s52, s53, s54, s55⟩ N1 D1 hh hN1 hD1 hQ1
   dsimp only at hh
   unfold spec_l4And.l1 at hh
   cbv
   refine bcs (fun f71 => ?_) (fun f71 => ?_)
   ·
    replace hh := ifT hh f71
    try rw [f71]
    cbv
    replace hh := req_some hh
    obtain ⟨h72, hh⟩ := hh
    replace hh := bind_some hh
    obtain ⟨⟨e73a, e73b, e73c⟩, h74, hh⟩ := hh
    try dsimp only at hh
    refine ⟨[iA e73a, iA e73b, tA (qInt e73c)], Nb h72, Gb h74, ?_⟩
    cbv
    replace hh := bind_some hh
    obtain ⟨⟨x76_0, x76_1, x76_2⟩, h75, hh⟩ := hh
    try dsimp only at hh
    have fc := c_spec_l4One hQ h75
    try dsimp only at fc
    refine go_call hF fc ?_
    cbv
    replace hh := bind_some hh
    obtain ⟨x79, h78, hh⟩ := hh
    refine ⟨Ob, ?_⟩
    refine go_call hF (c_spec_l4Merge hQ h78) ?_
    cbv
    refine hN1 (_, _, _, _) _ hh fun ⟨t0, t1, t2, t3⟩ e => ?_
    refine cov_of [((1, 0), (62, 0)), ((1, 1), (62, 1)), ((5, 0), (5, 0)), ((8, 0), (8, 0)), ((19, 0), (71, 0))] ?_
    cbv
    all_goals exact J4
   ·
    replace hh := ifF hh f71
    try rw [f71]
    cbv
    refine hD1 (_, _, _) _ hh fun ⟨t0, t1, t2⟩ e => ?_
    refine cov_of [((1, 0), (1, 0)), ((1, 1), (1, 1)), ((5, 0), (5, 0)), ((8, 0), (8, 0)), ((19, 0), (19, 0))] ?_
    cbv
    all_goals exact J3
 ·
  rintro n ⟨s12, s13, s14, s15⟩ N1 D1 hh hN1 hD1 hQ1
  dsimp only at hh
  unfold spec_l4And.l0 at hh
  cbv
  refine bcs (fun f31 => ?_) (fun f31 => ?_)
  ·
   replace hh := ifT hh f31
   try rw [f31]
   cbv
   replace hh := req_some hh
   obtain ⟨h32, hh⟩ := hh
   replace hh := bind_some hh
   obtain ⟨⟨e33a, e33b, e33c⟩, h34, hh⟩ := hh
   try dsimp only at hh
   refine ⟨[iA e33a, iA e33b, tA (qInt e33c)], Nb h32, Gb h34, ?_⟩
   cbv
   replace hh := bind_some hh
   obtain ⟨⟨x36_0, x36_1, x36_2⟩, h35, hh⟩ := hh
   try dsimp only at hh
   have fc := c_spec_l4One hQ h35
   try dsimp only at fc
   refine go_call hF fc ?_
   cbv
   replace hh := bind_some hh
   obtain ⟨x39, h38, hh⟩ := hh
   refine ⟨Ob, ?_⟩
   refine go_call hF (c_spec_l4Merge hQ h38) ?_
   cbv
   refine hN1 (_, _, _, _) _ hh fun ⟨t0, t1, t2, t3⟩ e => ?_
   refine cov_of [((1, 0), (36, 1)), ((1, 1), (36, 0)), ((5, 0), (5, 0)), ((8, 0), (8, 0)), ((19, 0), (45, 0))] ?_
   cbv
   all_goals exact J4
  ·
   replace hh := ifF hh f31
   try rw [f31]
   cbv
   refine hD1 (_, _, _) _ hh fun ⟨t0, t1, t2⟩ e => ?_
   refine cov_of [((1, 0), (1, 0)), ((1, 1), (1, 1)), ((5, 0), (5, 0)), ((8, 0), (8, 0)), ((19, 0), (19, 0))] ?_
   cbv
   all_goals exact J3

theorem c_spec_l4Both {k : Nat} {p0 : Bool} {p1 : Int} {p2 : List GOcc} {p3 : List GOcc} {r : List GOcc} (hh : spec_l4Both.f k p0 p1 p2 p3 = some r) : FunW P 156 [bA p0, iA p1, tA (qGOcc p2), tA (qGOcc p3)] [hA, hA, hA, hA] (oA 3 (qGOcc r)) := by
 unfold spec_l4Both.f at hh
 refine go (ts := [(8, none)]) (rm := [.own]) (pm := [.skip, .skip, .skip, .skip]) Tryz.func156 ?_
 intro Fn LW len cast toNat wrap add sub mul bin lt eq At set part app fz' rep nadd nmax ssize sext sget scat seq slt Wide Flat Ones Room r' post' hC hF hr hp
 cbv
 replace hh := bind_some hh
 obtain ⟨x2, h1, hh⟩ := hh
 refine ⟨Ob, ?_⟩
 refine go_call hF (c_spec_l4Times_L0S hQ h1) ?_
 cbv
 replace hh := bind_some hh
 obtain ⟨o1, hl1, hq1⟩ := hh
 refine loop_go4 hC eok mixed (fun n (i : Bool × (List GOcc) × (List GOcc) × (List GOcc) × Int) => spec_l4Both.l0 k p1 p2 p3 x2 n i.1 i.2.1 i.2.2.1 i.2.2.2.1 i.2.2.2.2)
  (fun ⟨s44, s45, s46, s47, s48⟩ => (⟨[(0, bA s44), (1, iA p1), (2, tA (qGOcc p2)), (3, tA (qGOcc p3)), (9, .mptr (9, 0) 1 0 0), (10, .ref (15, 0) 1 0 (len (qGOcc s47))), (11, .ref (19, 0) 1 0 (len (qInt x2))), (12, iA s48)], [((9, 0), .box 1 [.ref (9, 50) 1 0 (len (qGOcc s45)), .ref (9, 51) 1 0 (len (qGOcc s46))]), ((9, 50), .arr 1 3 (qGOcc s45)), ((9, 51), .arr 1 3 (qGOcc s46)), ((15, 0), .arr 1 3 (qGOcc s47)), ((19, 0), .arr 1 1 (qInt x2))]⟩ : St))
  (fun (x89 : List GOcc) => (⟨[(10, .ref (15, 0) 1 0 (len (qGOcc x89)))], [((15, 0), .arr 1 3 (qGOcc x89))]⟩ : St)) (fun x => x) (.exit 0)
  (i0 := (_, _, _, _, _)) hl1 (fun _ => rfl) ?_ ?_ ?_
 ·
  rintro ⟨t0, t1, t2, t3, t4⟩ e
  refine cov_of [((9, 0), (9, 0)), ((15, 0), (15, 0)), ((19, 0), (19, 0))] ?_
  cbv
  all_goals exact J5
 ·
  rintro x89 hx
  subst o1
  have hh := hq1
  cbv
  exact Eb
 ·
  rintro n ⟨s44, s45, s46, s47, s48⟩ N1 D1 hh hN1 hD1 hQ1
  dsimp only at hh
  unfold spec_l4Both.l0 at hh
  cbv
  refine bcs (fun f91 => ?_) (fun f91 => ?_)
  ·
   replace hh := ifT hh f91
   try rw [f91]
   cbv
   refine bcs (fun f93 => ?_) (fun f93 => ?_)
   ·
    replace hh := ifT hh f93
    try rw [f93]
    cbv
    replace hh := req_some hh
    obtain ⟨h94, hh⟩ := hh
    replace hh := req_some hh
    obtain ⟨h95, hh⟩ := hh
    refine ⟨Nb h94, Mb h95, ?_⟩
    replace hh := bind_some hh
    obtain ⟨e96, h97, hh⟩ := hh
    refine ⟨[iA e96], Gb h97, ?_⟩
    cbv
    replace hh := bind_some hh
    obtain ⟨x99, h98, hh⟩ := hh
    refine go_call hF (c_spec_l4At hQ h98) ?_
    cbv
    replace hh := req_some hh
    obtain ⟨h101, hh⟩ := hh
    replace hh := req_some hh
    obtain ⟨h102, hh⟩ := hh
    refine ⟨Nb h101, Mb h102, ?_⟩
    refine ⟨[iA e96], Gb h97, ?_⟩
    cbv
    replace hh := bind_some hh
    obtain ⟨x104, h103, hh⟩ := hh
    refine go_call hF (c_spec_l4At hQ h103) ?_
    cbv
    replace hh := bind_some hh
    obtain ⟨⟨⟨x107_0a, x107_0b⟩, x107_1⟩, h106, hh⟩ := hh
    try dsimp only at hh
    refine ⟨Ob, ?_⟩
    refine ⟨Ob, ?_⟩
    have fc := c_spec_l4Seq hQ h106
    try dsimp only at fc
    refine go_call hF fc ?_
    cbv
    replace hh := bind_some hh
    obtain ⟨x110, h109, hh⟩ := hh
    refine ⟨Ob, ?_⟩
    refine go_call hF (c_spec_l4Merge hQ h109) ?_
    cbv
    refine hN1 (_, _, _, _, _) _ hh fun ⟨t0, t1, t2, t3, t4⟩ e => ?_
    refine cov_of [((9, 0), (9, 0)), ((9, 50), (43, 0)), ((9, 51), (43, 1)), ((15, 0), (66, 0)), ((19, 0), (19, 0))] ?_
    cbv
    all_goals exact J5
   ·
    replace hh := ifF hh f93
    try rw [f93]
    cbv
    replace hh := req_some hh
    obtain ⟨h112, hh⟩ := hh
    replace hh := req_some hh
    obtain ⟨h113, hh⟩ := hh
    refine ⟨Nb h112, Mb h113, ?_⟩
    replace hh := bind_some hh
    obtain ⟨e114, h115, hh⟩ := hh
    refine ⟨[iA e114], Gb h115, ?_⟩
    cbv
    replace hh := bind_some hh
    obtain ⟨x117, h116, hh⟩ := hh
    refine go_call hF (c_spec_l4At hQ h116) ?_
    cbv
    replace hh := req_some hh
    obtain ⟨h119, hh⟩ := hh
    replace hh := req_some hh
    obtain ⟨h120, hh⟩ := hh
    refine ⟨Nb h119, Mb h120, ?_⟩
    refine ⟨[iA e114], Gb h115, ?_⟩
    cbv
    replace hh := bind_some hh
    obtain ⟨x122, h121, hh⟩ := hh
    refine go_call hF (c_spec_l4At hQ h121) ?_
    cbv
    replace hh := bind_some hh
    obtain ⟨⟨⟨x125_0a, x125_0b⟩, x125_1⟩, h124, hh⟩ := hh
    try dsimp only at hh
    refine ⟨Ob, ?_⟩
    refine ⟨Ob, ?_⟩
    have fc := c_spec_l4And hQ h124
    try dsimp only at fc
    refine go_call hF fc ?_
    cbv
    replace hh := bind_some hh
    obtain ⟨x128, h127, hh⟩ := hh
    refine ⟨Ob, ?_⟩
    refine go_call hF (c_spec_l4Merge hQ h127) ?_
    cbv
    refine hN1 (_, _, _, _, _) _ hh fun ⟨t0, t1, t2, t3, t4⟩ e => ?_
    refine cov_of [((9, 0), (9, 0)), ((9, 50), (61, 0)), ((9, 51), (61, 1)), ((15, 0), (66, 0)), ((19, 0), (19, 0))] ?_
    cbv
    all_goals exact J5
  ·
   replace hh := ifF hh f91
   try rw [f91]
   cbv
   refine hD1 _ _ hh fun t0 e => ?_
   refine cov_of [((15, 0), (15, 0))] ?_
   cbv
   all_goals exact J1

end Go.Proofs.YtdhlbpgjcfdofaaGreat
