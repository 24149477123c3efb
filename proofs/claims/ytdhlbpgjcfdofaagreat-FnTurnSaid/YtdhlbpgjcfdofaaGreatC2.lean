/- The functions of this program do what the plain ones do. -/
import Derived.Test.YtdhlbpgjcfdofaaGreatC1
namespace Go.Proofs.YtdhlbpgjcfdofaaGreat
open Go Go.Vm
set_option linter.unusedVariables false
set_option maxHeartbeats 4000000
variable {qGEx : List GEx → Vm.Rows} {qGEv : List GEv → Vm.Rows} {qInt : List Int → Vm.Rows} {qGOcc : List GOcc → Vm.Rows} {qGOccO : List GOcc → Vm.Rows} {qLGOcc : List (List GOcc) → Vm.Rows} {qLGOccO : List (List GOcc) → Vm.Rows} {qBool : List Bool → Vm.Rows} {qIu8 : List Int → Vm.Rows} {qGExO : List GEx → Vm.Rows} {qLInt : List (List Int) → Vm.Rows} (hQ : EQ qGEx qGEv qInt qGOcc qGOccO qLGOcc qLGOccO qBool qIu8 qGExO qLInt)
include hQ
theorem c_impl_putAll {k : Nat} {p0 : List GOcc} {p1 : List GOcc} {r : List GOcc} (hh : impl_putAll.f k p0 p1 = some r) : FunW P 94 [tA (qGOcc p0), tA (qGOcc p1)] [hA, hA] (tA (qGOcc r)) := by
 unfold impl_putAll.f at hh
 refine go (ts := [(4, none)]) (rm := [.val]) (pm := [.skip, .skip]) Tryz.func94 ?_
 intro Fn LW len cast toNat wrap add sub mul bin lt eq At set part app fz' rep nadd nmax ssize sext sget scat seq slt Wide Flat Ones Room r' post' hC hF hr hp
 cbv
 replace hh := bind_some hh
 obtain ⟨o1, hl1, hq1⟩ := hh
 refine loop_go4 hC eok mixed (fun n (i : (List GOcc) × Int) => impl_putAll.l0 k p1 n i.1 i.2)
  (fun ⟨s9, s10⟩ => (⟨[(0, tA (qGOcc s9)), (7, tA (qGOcc p1)), (8, iA (cast (len (qGOcc p1)))), (9, iA s10)], []⟩ : St))
  (fun (x19 : List GOcc) => (⟨[(0, tA (qGOcc x19))], []⟩ : St)) (fun x => x) (.exit 0)
  (i0 := (_, _)) hl1 (fun _ => rfl) ?_ ?_ ?_
 ·
  rintro ⟨t0, t1⟩ e
  refine cov_of [] ?_
  cbv
  all_goals exact J2
 ·
  rintro x19 hx
  subst o1
  have hh := hq1
  cbv
  exact Eb
 ·
  rintro n ⟨s9, s10⟩ N1 D1 hh hN1 hD1 hQ1
  dsimp only at hh
  unfold impl_putAll.l0 at hh
  cbv
  refine bcs (fun f21 => ?_) (fun f21 => ?_)
  ·
   replace hh := ifT hh f21
   try rw [f21]
   cbv
   replace hh := req_some hh
   obtain ⟨h22, hh⟩ := hh
   replace hh := bind_some hh
   obtain ⟨⟨e23a, e23b, e23c⟩, h24, hh⟩ := hh
   try dsimp only at hh
   refine ⟨[iA e23a, iA e23b, tA (qInt e23c)], Nb h22, Gb h24, ?_⟩
   cbv
   replace hh := bind_some hh
   obtain ⟨x26, h25, hh⟩ := hh
   refine go_call hF (c_impl_put hQ h25) ?_
   cbv
   refine hN1 (_, _) _ hh fun ⟨t0, t1⟩ e => ?_
   refine cov_of [] ?_
   cbv
   all_goals exact J2
  ·
   replace hh := ifF hh f21
   try rw [f21]
   cbv
   refine hD1 _ _ hh fun t0 e => ?_
   refine cov_of [] ?_
   cbv
   all_goals exact J1

theorem c_impl_Occ_clone {p0 : GOcc} {r : GOcc} (hh : impl_Occ_clone.f p0 = some r) : FunW P 126 [.agg [iA p0.From, iA p0.To, tA (qInt p0.Ids)]] [hA] (.agg [iA r.From, iA r.To, oA 1 (qInt r.Ids)]) := by
 obtain ⟨p0a, p0b, p0c⟩ := p0
 unfold impl_Occ_clone.f at hh
 refine go (ts := [(2, some 63)]) (rm := [.own]) (pm := [.skip]) Tryz.func126 ?_
 intro Fn LW len cast toNat wrap add sub mul bin lt eq At set part app fz' rep nadd nmax ssize sext sget scat seq slt Wide Flat Ones Room r' post' hC hF hr hp
 cbv
 replace hh := req_some hh
 obtain ⟨h1, hh⟩ := hh
 try dsimp only at h1
 refine ⟨⟨Ab, Ab⟩, ?_⟩
 refine ⟨Wb h1, ?_⟩
 exact Eb

theorem c_impl_cloneOccs {k : Nat} {p0 : List GOcc} {r : List GOcc} (hh : impl_cloneOccs.f k p0 = some r) : FunW P 85 [tA (qGOcc p0)] [hA] (oA 3 (qGOccO r)) := by
 unfold impl_cloneOccs.f at hh
 refine go (ts := [(2, none)]) (rm := [.own]) (pm := [.skip]) Tryz.func85 ?_
 intro Fn LW len cast toNat wrap add sub mul bin lt eq At set part app fz' rep nadd nmax ssize sext sget scat seq slt Wide Flat Ones Room r' post' hC hF hr hp
 cbv
 replace hh := bind_some hh
 obtain ⟨o1, hl1, hq1⟩ := hh
 refine loop_go4 hC eok mixed (fun n (i : (List GOcc) × Int) => impl_cloneOccs.l0 k p0 n i.1 i.2)
  (fun ⟨s10, s11⟩ => (⟨[(3, .ref (3, 50) 1 0 (len (qGOccO s10))), (6, tA (qGOcc p0)), (7, iA (cast (len (qGOcc p0)))), (8, iA s11)], [((3, 50), .arr 1 3 (qGOccO s10))]⟩ : St))
  (fun (x21 : List GOcc) => (⟨[(3, .ref (3, 50) 1 0 (len (qGOccO x21)))], [((3, 50), .arr 1 3 (qGOccO x21))]⟩ : St)) (fun x => x) (.exit 0)
  (i0 := (_, _)) hl1 (fun _ => rfl) ?_ ?_ ?_
 ·
  rintro ⟨t0, t1⟩ e
  refine cov_of [] ?_
  cbv
  all_goals exact J2
 ·
  rintro x21 hx
  subst o1
  have hh := hq1
  cbv
  exact Eb
 ·
  rintro n ⟨s10, s11⟩ N1 D1 hh hN1 hD1 hQ1
  dsimp only at hh
  unfold impl_cloneOccs.l0 at hh
  cbv
  refine bcs (fun f23 => ?_) (fun f23 => ?_)
  ·
   replace hh := ifT hh f23
   try rw [f23]
   cbv
   replace hh := req_some hh
   obtain ⟨h24, hh⟩ := hh
   replace hh := bind_some hh
   obtain ⟨⟨e25a, e25b, e25c⟩, h26, hh⟩ := hh
   try dsimp only at hh
   refine ⟨[iA e25a, iA e25b, tA (qInt e25c)], Nb h24, Gb h26, ?_⟩
   cbv
   replace hh := bind_some hh
   obtain ⟨⟨x28a, x28b, x28c⟩, h27, hh⟩ := hh
   try dsimp only at hh
   have fc := c_impl_Occ_clone hQ h27
   try dsimp only at fc
   refine go_call hF fc ?_
   cbv
   replace hh := req_some hh
   obtain ⟨h30, hh⟩ := hh
   refine ⟨⟨Ob, Ab⟩, ?_⟩
   refine ⟨⟨Ob, Wb h30⟩, ?_⟩
   refine hN1 (_, _) _ hh fun ⟨t0, t1⟩ e => ?_
   refine cov_of [((3, 50), (16, 0))] ?_
   cbv
   all_goals exact J2
  ·
   replace hh := ifF hh f23
   try rw [f23]
   cbv
   refine hD1 _ _ hh fun t0 e => ?_
   refine cov_of [((3, 50), (3, 50))] ?_
   cbv
   all_goals exact J1

theorem c_impl_few {k : Nat} {p0 : List GOcc} {r : (List GOcc) × Bool} (hh : impl_few.f k p0 = some r) : FunW P 93 [tA (qGOcc p0)] [hA] (.tup [oA 3 (qGOccO r.1), bA r.2]) := by
 unfold impl_few.f at hh
 refine go (ts := [(2, none), (3, none)]) (rm := [.own, .own]) (pm := [.skip]) Tryz.func93 ?_
 intro Fn LW len cast toNat wrap add sub mul bin lt eq At set part app fz' rep nadd nmax ssize sext sget scat seq slt Wide Flat Ones Room r' post' hC hF hr hp
 cbv
 refine bcs (fun f2 => ?_) (fun f2 => ?_)
 ·
  replace hh := ifT hh f2
  try rw [f2]
  cbv
  refine ⟨3, ?_⟩
  cbv
  exact Eb
 ·
  replace hh := ifF hh f2
  try rw [f2]
  cbv
  replace hh := bind_some hh
  obtain ⟨x4, h3, hh⟩ := hh
  refine go_call hF (c_impl_cloneOccs hQ h3) ?_
  cbv
  exact Eb

theorem c_impl_OrOf {k : Nat} {p0 : List GOcc} {p1 : List GOcc} {r : (List GOcc) × Bool} (hh : impl_OrOf.f k p0 p1 = some r) : FunW P 41 [tA (qGOcc p0), tA (qGOcc p1)] [hA, hA] (.tup [oA 3 (qGOccO r.1), bA r.2]) := by
 unfold impl_OrOf.f at hh
 refine go (ts := [(4, none), (5, none)]) (rm := [.own, .own]) (pm := [.skip, .skip]) Tryz.func41 ?_
 intro Fn LW len cast toNat wrap add sub mul bin lt eq At set part app fz' rep nadd nmax ssize sext sget scat seq slt Wide Flat Ones Room r' post' hC hF hr hp
 cbv
 replace hh := bind_some hh
 obtain ⟨x2, h1, hh⟩ := hh
 refine go_call hF (c_impl_OccsOk hQ h1) ?_
 cbv
 replace hh := if_or hh
 rcases hh with ⟨b4, hh⟩ | ⟨b4, hh⟩
 ·
  have f5 : x2 = true := Tb b4
  have g := f5; cbv at g; try rw [f5]
  try rw [g]
  cbv
  replace hh := bind_some hh
  obtain ⟨x7, h6, hh⟩ := hh
  refine go_call hF (c_impl_OccsOk hQ h6) ?_
  cbv
  replace hh := if_or hh
  rcases hh with ⟨b9, hh⟩ | ⟨b9, hh⟩
  ·
   have f10 : x7 = true := Tb b9
   have g := f10; cbv at g; try rw [f10]
   try rw [g]
   cbv
   replace hh := bind_some hh
   obtain ⟨x12, h11, hh⟩ := hh
   refine go_call hF (c_impl_putAll hQ h11) ?_
   cbv
   replace hh := bind_some hh
   obtain ⟨⟨x15_0, x15_1⟩, h14, hh⟩ := hh
   try dsimp only at hh
   have fc := c_impl_few hQ h14
   try dsimp only at fc
   refine go_call hF fc ?_
   cbv
   exact Eb
  ·
   have f10 : x7 = false := Fb b9
   have g := f10; cbv at g; try rw [f10]
   try rw [g]
   cbv
   refine ⟨3, ?_⟩
   cbv
   exact Eb
 ·
  have f5 : x2 = false := Fb b4
  have g := f5; cbv at g; try rw [f5]
  try rw [g]
  cbv
  refine ⟨3, ?_⟩
  cbv
  exact Eb

theorem c_slices_Grow {p0 : List Int} {p1 : Int} {r : List Int} (hh : slices_Grow.f p0 p1 = some r) : FunW P 220 [.lit (.slice none 0 0), iA p1] [hA, hA] (oA 1 (qInt r)) := by
  cases hQ
  exact x_slices_Grow hh


theorem c_slices_Concat {k : Nat} {p0 : List (List Int)} {r : List Int} (hh : slices_Concat.f k p0 = some r) : FunW P 215 [tA (qLInt p0)] [hA] (oA 1 (qInt r)) := by
 unfold slices_Concat.f at hh
 refine go (ts := [(2, none)]) (rm := [.own]) (pm := [.skip]) Tryz.func215 ?_
 intro Fn LW len cast toNat wrap add sub mul bin lt eq At set part app fz' rep nadd nmax ssize sext sget scat seq slt Wide Flat Ones Room r' post' hC hF hr hp
 cbv
 replace hh := bind_some hh
 obtain ⟨o1, hl1, hq1⟩ := hh
 refine loop_go4 hC eok mixed (fun n (i : Int × Int) => slices_Concat.l0 k p0 n i.1 i.2)
  (fun ⟨s8, s9⟩ => (⟨[(0, tA (qLInt p0)), (3, iA s8), (9, tA (qLInt p0)), (10, iA (cast (len (qLInt p0)))), (11, iA s9)], []⟩ : St))
  (fun (x17 : Int) => (⟨[(0, tA (qLInt p0)), (3, iA x17)], []⟩ : St)) (fun x => x) (.exit 0)
  (i0 := (_, _)) hl1 (fun _ => rfl) ?_ ?_ ?_
 ·
  rintro ⟨t0, t1⟩ e
  refine cov_of [] ?_
  cbv
  all_goals exact J2
 ·
  rintro x17 hx
  subst o1
  have hh := hq1
  cbv
  replace hh := bind_some hh
  obtain ⟨x26, h25, hh⟩ := hh
  refine go_call hF (c_slices_Grow hQ h25) ?_
  cbv
  replace hh := bind_some hh
  obtain ⟨o1, hl1, hq1⟩ := hh
  refine loop_go4 hC eok mixed (fun n (i : (List Int) × Int) => slices_Concat.l1 k p0 n i.1 i.2)
   (fun ⟨s34, s35⟩ => (⟨[(6, .ref (24, 0) 1 0 (len (qInt s34))), (25, tA (qLInt p0)), (26, iA (cast (len (qLInt p0)))), (27, iA s35)], [((24, 0), .arr 1 1 (qInt s34))]⟩ : St))
   (fun (x42 : List Int) => (⟨[(6, .ref (24, 0) 1 0 (len (qInt x42)))], [((24, 0), .arr 1 1 (qInt x42))]⟩ : St)) (fun x => x) (.exit 2)
   (i0 := (_, _)) hl1 (fun _ => rfl) ?_ ?_ ?_
  ·
   rintro ⟨t0, t1⟩ e
   refine cov_of [((24, 0), (24, 0))] ?_
   cbv
   all_goals exact J2
  ·
   rintro x42 hx
   subst o1
   have hh := hq1
   cbv
   exact Eb
  ·
   rintro n ⟨s34, s35⟩ N1 D1 hh hN1 hD1 hQ1
   dsimp only at hh
   unfold slices_Concat.l1 at hh
   cbv
   refine bcs (fun f44 => ?_) (fun f44 => ?_)
   ·
    replace hh := ifT hh f44
    try rw [f44]
    cbv
    replace hh := req_some hh
    obtain ⟨h45, hh⟩ := hh
    replace hh := bind_some hh
    obtain ⟨e46, h47, hh⟩ := hh
    refine ⟨[tA (qInt e46)], Nb h45, Gb h47, ?_⟩
    cbv
    replace hh := req_some hh
    obtain ⟨h48, hh⟩ := hh
    refine ⟨⟨Ab, Ab⟩, ?_⟩
    refine ⟨⟨Ob, Wb h48⟩, ?_⟩
    refine hN1 (_, _) _ hh fun ⟨t0, t1⟩ e => ?_
    refine cov_of [((24, 0), (33, 0))] ?_
    cbv
    all_goals exact J2
   ·
    replace hh := ifF hh f44
    try rw [f44]
    cbv
    refine hD1 _ _ hh fun t0 e => ?_
    refine cov_of [((24, 0), (24, 0))] ?_
    cbv
    all_goals exact J1
 ·
  rintro n ⟨s8, s9⟩ N1 D1 hh hN1 hD1 hQ1
  dsimp only at hh
  unfold slices_Concat.l0 at hh
  cbv
  refine bcs (fun f19 => ?_) (fun f19 => ?_)
  ·
   replace hh := ifT hh f19
   try rw [f19]
   cbv
   replace hh := req_some hh
   obtain ⟨h20, hh⟩ := hh
   replace hh := bind_some hh
   obtain ⟨e21, h22, hh⟩ := hh
   refine ⟨[tA (qInt e21)], Nb h20, Gb h22, ?_⟩
   cbv
   refine bcs (fun f24 => ?_) (fun f24 => ?_)
   ·
    replace hh := ifT hh f24
    try rw [f24]
    cbv
    cases hh
   ·
    replace hh := ifF hh f24
    try rw [f24]
    cbv
    refine hN1 (_, _) _ hh fun ⟨t0, t1⟩ e => ?_
    refine cov_of [] ?_
    cbv
    all_goals exact J2
  ·
   replace hh := ifF hh f19
   try rw [f19]
   cbv
   refine hD1 _ _ hh fun t0 e => ?_
   refine cov_of [] ?_
   cbv
   all_goals exact J1
theorem c_slices_Concat_L0S {k : Nat} {p0 : List (List Int)} {r : List Int} (hh : slices_Concat.f k p0 = some r) : FunW P 215 [oA 1 (qLInt p0)] [oA 1 (qLInt p0)] (oA 1 (qInt r)) := by
  cases hQ; exact (c_slices_Concat .mk hh).lend (r_Int_ownd _) (.lend (congrArg A.tree (r_LInt_fz _).symm) .nil)

theorem c_slices_Sort {p0 : List Int} {r : List Int} (hh : slices_Sort.f p0 = some r) : FunW P 100 [oA 1 (qInt p0)] [oA 1 (qInt r)] (.tup []) := by
  cases hQ
  exact x_slices_Sort hh


theorem c_slices_Compact {p0 : List Int} {r : List Int} (hh : slices_Compact.f p0 = some r) : FunW P 101 [oA 1 (qInt p0)] [hA] (tA (qInt r)) := by
  cases hQ
  exact x_slices_Compact hh


theorem c_impl_join {k : Nat} {p0 : GOcc} {p1 : GOcc} {r : GOcc} (hh : impl_join.f k p0 p1 = some r) : FunW P 202 [.agg [iA p0.From, iA p0.To, tA (qInt p0.Ids)], .agg [iA p1.From, iA p1.To, tA (qInt p1.Ids)]] [hA, hA] (.agg [iA r.From, iA r.To, oA 1 (qInt r.Ids)]) := by
 obtain ⟨p0a, p0b, p0c⟩ := p0
 obtain ⟨p1a, p1b, p1c⟩ := p1
 unfold impl_join.f at hh
 refine go (ts := [(4, some 63)]) (rm := [.own]) (pm := [.skip, .skip]) Tryz.func202 ?_
 intro Fn LW len cast toNat wrap add sub mul bin lt eq At set part app fz' rep nadd nmax ssize sext sget scat seq slt Wide Flat Ones Room r' post' hC hF hr hp
 cbv
 replace hh := bind_some hh
 obtain ⟨x2, h1, hh⟩ := hh
 refine ⟨Ob, ?_⟩
 refine go_call hF (c_slices_Concat_L0S hQ h1) ?_
 cbv
 replace hh := bind_some hh
 obtain ⟨x5, h4, hh⟩ := hh
 replace hh := req_some hh
 obtain ⟨h29, hh⟩ := hh
 refine go_call hF (c_slices_Sort hQ h4) ?_
 cbv
 replace hh := if_or hh
 rcases hh with ⟨b7, hh⟩ | ⟨b7, hh⟩
 ·
  have f8 : (lt p1a p0a) = true := Tb b7
  have g := f8; cbv at g; try rw [f8]
  try rw [g]
  cbv
  replace hh := if_or hh
  rcases hh with ⟨b9, hh⟩ | ⟨b9, hh⟩
  ·
   have f10 : (lt p0b p1b) = true := Tb b9
   have g := f10; cbv at g; try rw [f10]
   try rw [g]
   cbv
   replace hh := bind_some hh
   obtain ⟨x12, h11, hh⟩ := hh
   refine ⟨Ob, ?_⟩
   refine go_call hF (c_slices_Compact hQ h11) ?_
   cbv
   replace hh := req_some hh
   obtain ⟨h14, hh⟩ := hh
   refine ⟨⟨Ab, Ab⟩, ?_⟩
   refine ⟨Wb h14, ?_⟩
   exact Eb
  ·
   have f10 : (lt p0b p1b) = false := Fb b9
   have g := f10; cbv at g; try rw [f10]
   try rw [g]
   cbv
   replace hh := bind_some hh
   obtain ⟨x16, h15, hh⟩ := hh
   refine ⟨Ob, ?_⟩
   refine go_call hF (c_slices_Compact hQ h15) ?_
   cbv
   replace hh := req_some hh
   obtain ⟨h18, hh⟩ := hh
   refine ⟨⟨Ab, Ab⟩, ?_⟩
   refine ⟨Wb h18, ?_⟩
   exact Eb
 ·
  have f8 : (lt p1a p0a) = false := Fb b7
  have g := f8; cbv at g; try rw [f8]
  try rw [g]
  cbv
  replace hh := if_or hh
  rcases hh with ⟨b19, hh⟩ | ⟨b19, hh⟩
  ·
   have f20 : (lt p0b p1b) = true := Tb b19
   have g := f20; cbv at g; try rw [f20]
   try rw [g]
   cbv
   replace hh := bind_some hh
   obtain ⟨x22, h21, hh⟩ := hh
   refine ⟨Ob, ?_⟩
   refine go_call hF (c_slices_Compact hQ h21) ?_
   cbv
   replace hh := req_some hh
   obtain ⟨h24, hh⟩ := hh
   refine ⟨⟨Ab, Ab⟩, ?_⟩
   refine ⟨Wb h24, ?_⟩
   exact Eb
  ·
   have f20 : (lt p0b p1b) = false := Fb b19
   have g := f20; cbv at g; try rw [f20]
   try rw [g]
   cbv
   replace hh := bind_some hh
   obtain ⟨x26, h25, hh⟩ := hh
   refine ⟨Ob, ?_⟩
   refine go_call hF (c_slices_Compact hQ h25) ?_
   cbv
   replace hh := req_some hh
   obtain ⟨h28, hh⟩ := hh
   refine ⟨⟨Ab, Ab⟩, ?_⟩
   refine ⟨Wb h28, ?_⟩
   exact Eb

theorem c_impl_combine {k : Nat} {p0 : Int} {p1 : GOcc} {p2 : List GOcc} {r : (List GOcc) × (List GOcc)} (hh : impl_combine.f k p0 p1 p2 = some r) : FunW P 178 [iA p0, .agg [iA p1.From, iA p1.To, tA (qInt p1.Ids)], tA (qGOcc p2)] [hA, hA, hA] (.tup [tA (qGOcc r.1), tA (qGOcc r.2)]) := by
 obtain ⟨p1a, p1b, p1c⟩ := p1
 unfold impl_combine.f at hh
 refine go (ts := [(6, none), (7, none)]) (rm := [.val, .val]) (pm := [.skip, .skip, .skip]) Tryz.func178 ?_
 intro Fn LW len cast toNat wrap add sub mul bin lt eq At set part app fz' rep nadd nmax ssize sext sget scat seq slt Wide Flat Ones Room r' post' hC hF hr hp
 cbv
 refine bcs (fun f2 => ?_) (fun f2 => ?_)
 ·
  replace hh := ifT hh f2
  try rw [f2]
  cbv
  exact Eb
 ·
  replace hh := ifF hh f2
  try rw [f2]
  cbv
  refine bcs (fun f4 => ?_) (fun f4 => ?_)
  ·
   replace hh := ifT hh f4
   try rw [f4]
   cbv
   replace hh := req_some hh
   obtain ⟨h5, hh⟩ := hh
   replace hh := bind_some hh
   obtain ⟨⟨e6a, e6b, e6c⟩, h7, hh⟩ := hh
   try dsimp only at hh
   refine ⟨[iA e6a, iA e6b, tA (qInt e6c)], Nb h5, Gb h7, ?_⟩
   cbv
   replace hh := bind_some hh
   obtain ⟨⟨x9a, x9b, x9c⟩, h8, hh⟩ := hh
   try dsimp only at hh
   have fc := c_impl_join hQ h8
   try dsimp only at fc
   refine go_call hF fc ?_
   cbv
   exact Eb
  ·
   replace hh := ifF hh f4
   try rw [f4]
   cbv
   refine bcs (fun f12 => ?_) (fun f12 => ?_)
   ·
    replace hh := ifT hh f12
    try rw [f12]
    cbv
    replace hh := req_some hh
    obtain ⟨h13, hh⟩ := hh
    replace hh := bind_some hh
    obtain ⟨⟨e14a, e14b, e14c⟩, h15, hh⟩ := hh
    try dsimp only at hh
    refine ⟨[iA e14a, iA e14b, tA (qInt e14c)], Nb h13, Gb h15, ?_⟩
    cbv
    replace hh := bind_some hh
    obtain ⟨⟨x17a, x17b, x17c⟩, h16, hh⟩ := hh
    try dsimp only at hh
    have fc := c_impl_join hQ h16
    try dsimp only at fc
    refine go_call hF fc ?_
    cbv
    replace hh := req_some hh
    obtain ⟨h19, hh⟩ := hh
    replace hh := req_some hh
    obtain ⟨h20, hh⟩ := hh
    replace hh := req_some hh
    obtain ⟨h21, hh⟩ := hh
    refine ⟨⟨Nb h19, Nb h20, Nb h21, Ab⟩, ?_⟩
    exact Eb
   ·
    replace hh := ifF hh f12
    try rw [f12]
    cbv
    refine bcs (fun f23 => ?_) (fun f23 => ?_)
    ·
     replace hh := ifT hh f23
     try rw [f23]
     cbv
     replace hh := bind_some hh
     obtain ⟨o1, hl1, hq1⟩ := hh
     refine loop_go4 hC eok mixed (fun n (i : Int × Int × (List Int) × Int) => impl_combine.l0 k p2 n i.1 i.2.1 i.2.2.1 i.2.2.2)
      (fun ⟨s32, s33, s34, s35⟩ => (⟨[(2, tA (qGOcc p2)), (4, .mptr (4, 0) 1 0 0), (39, tA (qGOcc p2)), (40, iA (cast (len (qGOcc p2)))), (41, iA s35)], [((4, 0), .box 1 [iA s32, iA s33, tA (qInt s34)])]⟩ : St))
      (fun (⟨x44, x45, x46⟩ : Int × Int × (List Int)) => (⟨[(2, tA (qGOcc p2)), (4, .mptr (4, 0) 1 0 0)], [((4, 0), .box 1 [iA x44, iA x45, tA (qInt x46)])]⟩ : St)) (fun x => x) (.exit 1)
      (i0 := (_, _, _, _)) hl1 (fun _ => rfl) ?_ ?_ ?_
     ·
      rintro ⟨t0, t1, t2, t3⟩ e
      refine cov_of [((4, 0), (4, 0))] ?_
      cbv
      all_goals exact J4
     ·
      rintro ⟨x44, x45, x46⟩ hx
      subst o1
      have hh := hq1
      cbv
      exact Eb
     ·
      rintro n ⟨s32, s33, s34, s35⟩ N1 D1 hh hN1 hD1 hQ1
      dsimp only at hh
      unfold impl_combine.l0 at hh
      cbv
      refine bcs (fun f48 => ?_) (fun f48 => ?_)
      ·
       replace hh := ifT hh f48
       try rw [f48]
       cbv
       replace hh := req_some hh
       obtain ⟨h49, hh⟩ := hh
       replace hh := bind_some hh
       obtain ⟨⟨e50a, e50b, e50c⟩, h51, hh⟩ := hh
       try dsimp only at hh
       refine ⟨[iA e50a, iA e50b, tA (qInt e50c)], Nb h49, Gb h51, ?_⟩
       cbv
       replace hh := bind_some hh
       obtain ⟨⟨x53a, x53b, x53c⟩, h52, hh⟩ := hh
       try dsimp only at hh
       have fc := FunW.frz (r' := .agg [iA x53a, iA x53b, tA (qInt x53c)]) (c_impl_join hQ h52) (by cases hQ; simp)
       try dsimp only at fc
       refine go_call hF fc ?_
       cbv
       refine hN1 (_, _, _, _) _ hh fun ⟨t0, t1, t2, t3⟩ e => ?_
       refine cov_of [((4, 0), (4, 0))] ?_
       cbv
       all_goals exact J4
      ·
       replace hh := ifF hh f48
       try rw [f48]
       cbv
       refine hD1 (_, _, _) _ hh fun ⟨t0, t1, t2⟩ e => ?_
       refine cov_of [((4, 0), (4, 0))] ?_
       cbv
       all_goals exact J3
    ·
     replace hh := ifF hh f23
     try rw [f23]
     cbv
     replace hh := bind_some hh
     obtain ⟨o1, hl1, hq1⟩ := hh
     refine loop_go4 hC eok mixed (fun n (i : (List GOcc) × Int) => impl_combine.l1 k (⟨p1a, p1b, p1c⟩ : GOcc) p2 n i.1 i.2)
      (fun ⟨s66, s67⟩ => (⟨[(0, iA p0), (2, tA (qGOcc p2)), (4, .mptr (4, 0) 1 0 0), (6, tA (qGOcc s66)), (7, .lit (.slice none 0 0)), (52, tA (qGOcc p2)), (53, iA (cast (len (qGOcc p2)))), (54, iA s67)], [((4, 0), .box 1 [iA p1a, iA p1b, tA (qInt p1c)])]⟩ : St))
      (fun (x79 : List GOcc) => (⟨[(0, iA p0), (2, tA (qGOcc p2)), (6, tA (qGOcc x79)), (7, .lit (.slice none 0 0))], []⟩ : St)) (fun x => x) (.exit 3)
      (i0 := (_, _)) hl1 (fun _ => rfl) ?_ ?_ ?_
     ·
      rintro ⟨t0, t1⟩ e
      refine cov_of [((4, 0), (4, 0))] ?_
      cbv
      all_goals exact J2
     ·
      rintro x79 hx
      subst o1
      have hh := hq1
      cbv
      refine bcs (fun f92 => ?_) (fun f92 => ?_)
      ·
       replace hh := ifT hh f92
       try rw [f92]
       cbv
       exact Eb
      ·
       replace hh := ifF hh f92
       try rw [f92]
       cbv
       exact Eb
     ·
      rintro n ⟨s66, s67⟩ N1 D1 hh hN1 hD1 hQ1
      dsimp only at hh
      unfold impl_combine.l1 at hh
      cbv
      refine bcs (fun f81 => ?_) (fun f81 => ?_)
      ·
       replace hh := ifT hh f81
       try rw [f81]
       cbv
       replace hh := req_some hh
       obtain ⟨h82, hh⟩ := hh
       replace hh := bind_some hh
       obtain ⟨⟨e83a, e83b, e83c⟩, h84, hh⟩ := hh
       try dsimp only at hh
       refine ⟨[iA e83a, iA e83b, tA (qInt e83c)], Nb h82, Gb h84, ?_⟩
       cbv
       replace hh := bind_some hh
       obtain ⟨⟨x86a, x86b, x86c⟩, h85, hh⟩ := hh
       try dsimp only at hh
       have fc := c_impl_join hQ h85
       try dsimp only at fc
       refine go_call hF fc ?_
       cbv
       replace hh := bind_some hh
       obtain ⟨x89, h88, hh⟩ := hh
       refine ⟨Ob, ?_⟩
       refine go_call hF (c_impl_put hQ h88) ?_
       cbv
       refine hN1 (_, _) _ hh fun ⟨t0, t1⟩ e => ?_
       refine cov_of [((4, 0), (4, 0))] ?_
       cbv
       all_goals exact J2
      ·
       replace hh := ifF hh f81
       try rw [f81]
       cbv
       refine hD1 _ _ hh fun t0 e => ?_
       refine cov_of [] ?_
       cbv
       all_goals exact J1

theorem c_impl_without {k : Nat} {p0 : List GOcc} {p1 : List GOcc} {r : List GOcc} (hh : impl_without.f k p0 p1 = some r) : FunW P 179 [tA (qGOcc p0), tA (qGOcc p1)] [hA, hA] (oA 3 (qGOcc r)) := by
 unfold impl_without.f at hh
 refine go (ts := [(4, none)]) (rm := [.own]) (pm := [.skip, .skip]) Tryz.func179 ?_
 intro Fn LW len cast toNat wrap add sub mul bin lt eq At set part app fz' rep nadd nmax ssize sext sget scat seq slt Wide Flat Ones Room r' post' hC hF hr hp
 cbv
 replace hh := bind_some hh
 obtain ⟨o1, hl1, hq1⟩ := hh
 refine loop_go4 hC eok mixed (fun n (i : (List GOcc) × Int) => impl_without.l0 k p0 p1 n i.1 i.2)
  (fun ⟨s12, s13⟩ => (⟨[(1, tA (qGOcc p1)), (5, .ref (5, 50) 1 0 (len (qGOcc s12))), (10, tA (qGOcc p0)), (11, iA (cast (len (qGOcc p0)))), (12, iA s13)], [((5, 50), .arr 1 3 (qGOcc s12))]⟩ : St))
  (fun (x25 : List GOcc) => (⟨[(5, .ref (5, 50) 1 0 (len (qGOcc x25)))], [((5, 50), .arr 1 3 (qGOcc x25))]⟩ : St)) (fun x => x) (.exit 0)
  (i0 := (_, _)) hl1 (fun _ => rfl) ?_ ?_ ?_
 ·
  rintro ⟨t0, t1⟩ e
  refine cov_of [] ?_
  cbv
  all_goals exact J2
 ·
  rintro x25 hx
  subst o1
  have hh := hq1
  cbv
  exact Eb
 ·
  rintro n ⟨s12, s13⟩ N1 D1 hh hN1 hD1 hQ1
  dsimp only at hh
  unfold impl_without.l0 at hh
  cbv
  refine bcs (fun f27 => ?_) (fun f27 => ?_)
  ·
   replace hh := ifT hh f27
   try rw [f27]
   cbv
   replace hh := req_some hh
   obtain ⟨h28, hh⟩ := hh
   replace hh := bind_some hh
   obtain ⟨⟨e29a, e29b, e29c⟩, h30, hh⟩ := hh
   try dsimp only at hh
   refine ⟨[iA e29a, iA e29b, tA (qInt e29c)], Nb h28, Gb h30, ?_⟩
   cbv
   replace hh := bind_some hh
   obtain ⟨⟨x32_0, x32_1⟩, h31, hh⟩ := hh
   try dsimp only at hh
   refine go_call hF (c_slices_BinarySearchFunc_impl_compare hQ (g2 := fun y0 y1 => impl_compare.f k y0 y1) (fun h => c_impl_compare hQ h) h31) ?_
   cbv
   replace hh := if_or hh
   rcases hh with ⟨b34, hh⟩ | ⟨b34, hh⟩
   ·
    have f35 : x32_1 = true := Tb b34
    have g := f35; cbv at g; try rw [f35]
    try rw [g]
    cbv
    refine hN1 (_, _) _ hh fun ⟨t0, t1⟩ e => ?_
    refine cov_of [((5, 50), (5, 50))] ?_
    cbv
    all_goals exact J2
   ·
    have f35 : x32_1 = false := Fb b34
    have g := f35; cbv at g; try rw [f35]
    try rw [g]
    cbv
    replace hh := req_some hh
    obtain ⟨h36, hh⟩ := hh
    refine ⟨⟨Ob, Ab⟩, ?_⟩
    refine ⟨⟨Ob, Wb h36⟩, ?_⟩
    refine hN1 (_, _) _ hh fun ⟨t0, t1⟩ e => ?_
    refine cov_of [((5, 50), (27, 0))] ?_
    cbv
    all_goals exact J2
  ·
   replace hh := ifF hh f27
   try rw [f27]
   cbv
   refine hD1 _ _ hh fun t0 e => ?_
   refine cov_of [((5, 50), (5, 50))] ?_
   cbv
   all_goals exact J1

theorem c_impl_store {k : Nat} {p0 : Int} {p1 : List GOcc} {p2 : GOcc} {p3 : Bool} {r : List GOcc} (hh : impl_store.f k p0 p1 p2 p3 = some r) : FunW P 180 [iA p0, tA (qGOcc p1), .agg [iA p2.From, iA p2.To, tA (qInt p2.Ids)], bA p3] [hA, hA, hA, hA] (tA (qGOcc r)) := by
 obtain ⟨p2a, p2b, p2c⟩ := p2
 unfold impl_store.f at hh
 refine go (ts := [(8, none)]) (rm := [.val]) (pm := [.skip, .skip, .skip, .skip]) Tryz.func180 ?_
 intro Fn LW len cast toNat wrap add sub mul bin lt eq At set part app fz' rep nadd nmax ssize sext sget scat seq slt Wide Flat Ones Room r' post' hC hF hr hp
 cbv
 refine bcs (fun f2 => ?_) (fun f2 => ?_)
 ·
  replace hh := ifT hh f2
  try rw [f2]
  cbv
  exact Eb
 ·
  replace hh := ifF hh f2
  try rw [f2]
  cbv
  refine bcs (fun f4 => ?_) (fun f4 => ?_)
  ·
   replace hh := ifT hh f4
   try rw [f4]
   cbv
   replace hh := bind_some hh
   obtain ⟨x6, h5, hh⟩ := hh
   refine go_call hF (c_impl_put hQ h5) ?_
   cbv
   exact Eb
  ·
   replace hh := ifF hh f4
   try rw [f4]
   cbv
   refine bcs (fun f9 => ?_) (fun f9 => ?_)
   ·
    replace hh := ifT hh f9
    try rw [f9]
    cbv
    replace hh := bind_some hh
    obtain ⟨x11, h10, hh⟩ := hh
    refine go_call hF (c_impl_put hQ h10) ?_
    cbv
    exact Eb
   ·
    replace hh := ifF hh f9
    try rw [f9]
    cbv
    exact Eb

theorem c_impl_Pair_and {k : Nat} {p0 : GPair} {p1 : Int} {p2 : List GOcc} {p3 : List GOcc} {r : GPair × (List GOcc)} (hh : impl_Pair_and.f k p0 p1 p2 p3 = some r) : FunW P 147 [.agg [tA (qGOcc p0.Left), tA (qGOcc p0.Right)], iA p1, tA (qGOcc p2), tA (qGOcc p3)] [hA, hA, hA, hA] (.tup [.agg [tA (qGOcc r.1.Left), tA (qGOcc r.1.Right)], tA (qGOcc r.2)]) := by
 obtain ⟨p0a, p0b⟩ := p0
 unfold impl_Pair_and.f at hh
 refine go (ts := [(8, some 143), (9, none)]) (rm := [.val, .val]) (pm := [.skip, .skip, .skip, .skip]) Tryz.func147 ?_
 intro Fn LW len cast toNat wrap add sub mul bin lt eq At set part app fz' rep nadd nmax ssize sext sget scat seq slt Wide Flat Ones Room r' post' hC hF hr hp
 cbv
 replace hh := bind_some hh
 obtain ⟨o1, hl1, hq1⟩ := hh
 refine loop_go4 hC eok mixed (fun n (i : (List GOcc) × (List GOcc) × (List GOcc) × Int) => impl_Pair_and.l0 k p1 p2 n i.1 i.2.1 i.2.2.1 i.2.2.2)
  (fun ⟨s18, s19, s20, s21⟩ => (⟨[(1, iA p1), (3, tA (qGOcc p3)), (4, .mptr (4, 0) 1 0 0), (8, .mptr (8, 0) 1 0 0), (10, tA (qGOcc s20)), (19, tA (qGOcc p2)), (20, iA (cast (len (qGOcc p2)))), (21, iA s21)], [((4, 0), .box 1 [tA (qGOcc s18), tA (qGOcc s19)]), ((8, 0), .box 1 [.lit (.slice none 0 0), .lit (.slice none 0 0)])]⟩ : St))
  (fun (⟨x39, x40, x41⟩ : (List GOcc) × (List GOcc) × (List GOcc)) => (⟨[(1, iA p1), (3, tA (qGOcc p3)), (4, .mptr (4, 0) 1 0 0), (8, .mptr (8, 0) 1 0 0), (10, tA (qGOcc x41))], [((4, 0), .box 1 [tA (qGOcc x39), tA (qGOcc x40)]), ((8, 0), .box 1 [.lit (.slice none 0 0), .lit (.slice none 0 0)])]⟩ : St)) (fun x => x) (.exit 0)
  (i0 := (_, _, _, _)) hl1 (fun _ => rfl) ?_ ?_ ?_
 ·
  rintro ⟨t0, t1, t2, t3⟩ e
  refine cov_of [((4, 0), (4, 0)), ((8, 0), (8, 0))] ?_
  cbv
  all_goals exact J4
 ·
  rintro ⟨x39, x40, x41⟩ hx
  subst o1
  have hh := hq1
  cbv
  replace hh := bind_some hh
  obtain ⟨o1, hl1, hq1⟩ := hh
  refine loop_go4 hC eok mixed (fun n (i : (List GOcc) × (List GOcc) × (List GOcc) × Int) => impl_Pair_and.l1 k p1 p3 n i.1 i.2.1 i.2.2.1 i.2.2.2)
   (fun ⟨s76, s77, s78, s79⟩ => (⟨[(1, iA p1), (4, .mptr (4, 0) 1 0 0), (8, .mptr (8, 0) 1 0 0), (10, tA (qGOcc s78)), (51, tA (qGOcc p3)), (52, iA (cast (len (qGOcc p3)))), (53, iA s79)], [((4, 0), .box 1 [tA (qGOcc s76), tA (qGOcc s77)]), ((8, 0), .box 1 [.lit (.slice none 0 0), .lit (.slice none 0 0)])]⟩ : St))
   (fun (⟨x97, x98, x99⟩ : (List GOcc) × (List GOcc) × (List GOcc)) => (⟨[(4, .mptr (4, 0) 1 0 0), (8, .mptr (8, 0) 1 0 0), (10, tA (qGOcc x99))], [((4, 0), .box 1 [tA (qGOcc x97), tA (qGOcc x98)]), ((8, 0), .box 1 [.lit (.slice none 0 0), .lit (.slice none 0 0)])]⟩ : St)) (fun x => x) (.exit 2)
   (i0 := (_, _, _, _)) hl1 (fun _ => rfl) ?_ ?_ ?_
  ·
   rintro ⟨t0, t1, t2, t3⟩ e
   refine cov_of [((4, 0), (4, 0)), ((8, 0), (8, 0))] ?_
   cbv
   all_goals exact J4
  ·
   rintro ⟨x97, x98, x99⟩ hx
   subst o1
   have hh := hq1
   cbv
   exact Eb
  ·
   rintro n ⟨s76, s77, s78, s79⟩ N1 D1 hh hN1 hD1 hQ1
   dsimp only at hh
   unfold impl_Pair_and.l1 at hh
   cbv
   refine bcs (fun f101 => ?_) (fun f101 => ?_)
   ·
    replace hh := ifT hh f101
    try rw [f101]
    cbv
    replace hh := req_some hh
    obtain ⟨h102, hh⟩ := hh
    replace hh := bind_some hh
    obtain ⟨⟨e103a, e103b, e103c⟩, h104, hh⟩ := hh
    try dsimp only at hh
    refine ⟨[iA e103a, iA e103b, tA (qInt e103c)], Nb h102, Gb h104, ?_⟩
    cbv
    replace hh := bind_some hh
    obtain ⟨⟨x106_0, x106_1⟩, h105, hh⟩ := hh
    try dsimp only at hh
    have fc := c_impl_combine hQ h105
    try dsimp only at fc
    refine go_call hF fc ?_
    cbv
    replace hh := bind_some hh
    obtain ⟨x109, h108, hh⟩ := hh
    refine go_call hF (c_impl_putAll hQ h108) ?_
    cbv
    replace hh := bind_some hh
    obtain ⟨x112, h111, hh⟩ := hh
    refine go_call hF (FunW.frz (r' := tA (qGOcc x112)) (c_impl_without hQ h111) (by cases hQ; simp)) ?_
    cbv
    replace hh := bind_some hh
    obtain ⟨x115, h114, hh⟩ := hh
    refine go_call hF (c_impl_store hQ h114) ?_
    cbv
    refine hN1 (_, _, _, _) _ hh fun ⟨t0, t1, t2, t3⟩ e => ?_
    refine cov_of [((4, 0), (4, 0)), ((8, 0), (8, 0))] ?_
    cbv
    all_goals exact J4
   ·
    replace hh := ifF hh f101
    try rw [f101]
    cbv
    refine hD1 (_, _, _) _ hh fun ⟨t0, t1, t2⟩ e => ?_
    refine cov_of [((4, 0), (4, 0)), ((8, 0), (8, 0))] ?_
    cbv
    all_goals exact J3
 ·
  rintro n ⟨s18, s19, s20, s21⟩ N1 D1 hh hN1 hD1 hQ1
  dsimp only at hh
  unfold impl_Pair_and.l0 at hh
  cbv
  refine bcs (fun f43 => ?_) (fun f43 => ?_)
  ·
   replace hh := ifT hh f43
   try rw [f43]
   cbv
   replace hh := req_some hh
   obtain ⟨h44, hh⟩ := hh
   replace hh := bind_some hh
   obtain ⟨⟨e45a, e45b, e45c⟩, h46, hh⟩ := hh
   try dsimp only at hh
   refine ⟨[iA e45a, iA e45b, tA (qInt e45c)], Nb h44, Gb h46, ?_⟩
   cbv
   replace hh := bind_some hh
   obtain ⟨⟨x48_0, x48_1⟩, h47, hh⟩ := hh
   try dsimp only at hh
   have fc := c_impl_combine hQ h47
   try dsimp only at fc
   refine go_call hF fc ?_
   cbv
   replace hh := bind_some hh
   obtain ⟨x51, h50, hh⟩ := hh
   refine go_call hF (c_impl_putAll hQ h50) ?_
   cbv
   replace hh := bind_some hh
   obtain ⟨x54, h53, hh⟩ := hh
   refine go_call hF (FunW.frz (r' := tA (qGOcc x54)) (c_impl_without hQ h53) (by cases hQ; simp)) ?_
   cbv
   replace hh := bind_some hh
   obtain ⟨x57, h56, hh⟩ := hh
   refine go_call hF (c_impl_store hQ h56) ?_
   cbv
   refine hN1 (_, _, _, _) _ hh fun ⟨t0, t1, t2, t3⟩ e => ?_
   refine cov_of [((4, 0), (4, 0)), ((8, 0), (8, 0))] ?_
   cbv
   all_goals exact J4
  ·
   replace hh := ifF hh f43
   try rw [f43]
   cbv
   refine hD1 (_, _, _) _ hh fun ⟨t0, t1, t2⟩ e => ?_
   refine cov_of [((4, 0), (4, 0)), ((8, 0), (8, 0))] ?_
   cbv
   all_goals exact J3

theorem c_impl_PairOk {k : Nat} {p0 : GPair} {r : Bool} (hh : impl_PairOk.f k p0 = some r) : FunW P 200 [.agg [tA (qGOcc p0.Left), tA (qGOcc p0.Right)]] [hA] (bA r) := by
 obtain ⟨p0a, p0b⟩ := p0
 unfold impl_PairOk.f at hh
 refine go (ts := [(2, none)]) (rm := [.own]) (pm := [.skip]) Tryz.func200 ?_
 intro Fn LW len cast toNat wrap add sub mul bin lt eq At set part app fz' rep nadd nmax ssize sext sget scat seq slt Wide Flat Ones Room r' post' hC hF hr hp
 cbv
 replace hh := bind_some hh
 obtain ⟨x2, h1, hh⟩ := hh
 refine go_call hF (c_impl_OccsOk hQ h1) ?_
 cbv
 refine bcs (fun f5 => ?_) (fun f5 => ?_)
 ·
  replace hh := ifT hh f5
  try rw [f5]
  cbv
  replace hh := bind_some hh
  obtain ⟨x7, h6, hh⟩ := hh
  refine go_call hF (c_impl_OccsOk hQ h6) ?_
  cbv
  exact Eb
 ·
  replace hh := ifF hh f5
  try rw [f5]
  cbv
  exact Eb

theorem c_impl_pairFits {k : Nat} {p0 : Int} {p1 : GPair} {p2 : List GOcc} {p3 : List GOcc} {r : Bool} (hh : impl_pairFits.f k p0 p1 p2 p3 = some r) : FunW P 175 [iA p0, .agg [tA (qGOcc p1.Left), tA (qGOcc p1.Right)], tA (qGOcc p2), tA (qGOcc p3)] [hA, hA, hA, hA] (bA r) := by
 obtain ⟨p1a, p1b⟩ := p1
 unfold impl_pairFits.f at hh
 refine go (ts := [(8, none)]) (rm := [.own]) (pm := [.skip, .skip, .skip, .skip]) Tryz.func175 ?_
 intro Fn LW len cast toNat wrap add sub mul bin lt eq At set part app fz' rep nadd nmax ssize sext sget scat seq slt Wide Flat Ones Room r' post' hC hF hr hp
 cbv
 replace hh := bind_some hh
 obtain ⟨x2, h1, hh⟩ := hh
 refine go_call hF (c_impl_isMode hQ h1) ?_
 cbv
 refine bcs (fun f5 => ?_) (fun f5 => ?_)
 ·
  replace hh := ifT hh f5
  try rw [f5]
  cbv
  replace hh := bind_some hh
  obtain ⟨x7, h6, hh⟩ := hh
  refine go_call hF (c_impl_PairOk hQ h6) ?_
  cbv
  refine bcs (fun f10 => ?_) (fun f10 => ?_)
  ·
   replace hh := ifT hh f10
   try rw [f10]
   cbv
   replace hh := bind_some hh
   obtain ⟨x12, h11, hh⟩ := hh
   refine go_call hF (c_impl_OccsOk hQ h11) ?_
   cbv
   refine bcs (fun f15 => ?_) (fun f15 => ?_)
   ·
    replace hh := ifT hh f15
    try rw [f15]
    cbv
    replace hh := bind_some hh
    obtain ⟨x17, h16, hh⟩ := hh
    refine go_call hF (c_impl_OccsOk hQ h16) ?_
    cbv
    exact Eb
   ·
    replace hh := ifF hh f15
    try rw [f15]
    cbv
    exact Eb
  ·
   replace hh := ifF hh f10
   try rw [f10]
   cbv
   exact Eb
 ·
  replace hh := ifF hh f5
  try rw [f5]
  cbv
  exact Eb
theorem c_impl_pairFits_L1 {k : Nat} {p0 : Int} {p1 : GPair} {p2 : List GOcc} {p3 : List GOcc} {r : Bool} (hh : impl_pairFits.f k p0 p1 p2 p3 = some r) : FunW P 175 [iA p0, .agg [oA 3 (qGOccO p1.Left), oA 3 (qGOccO p1.Right)], tA (qGOcc p2), tA (qGOcc p3)] [hA, .agg [oA 3 (qGOccO p1.Left), oA 3 (qGOccO p1.Right)], hA, hA] (bA r) := by
  cases hQ; exact (c_impl_pairFits .mk hh).lend (rfl) (.same rfl (.lend (by simp) (.same rfl (.same rfl .nil))))

theorem c_impl_times {k : Nat} {p0 : List (List GOcc)} {r : List Int} (hh : impl_times.f k p0 = some r) : FunW P 176 [tA (qLGOcc p0)] [hA] (tA (qInt r)) := by
 unfold impl_times.f at hh
 refine go (ts := [(2, none)]) (rm := [.val]) (pm := [.skip]) Tryz.func176 ?_
 intro Fn LW len cast toNat wrap add sub mul bin lt eq At set part app fz' rep nadd nmax ssize sext sget scat seq slt Wide Flat Ones Room r' post' hC hF hr hp
 cbv
 replace hh := bind_some hh
 obtain ⟨o1, hl1, hq1⟩ := hh
 refine loop_go4 hC eok mixed (fun n (i : (List Int) × Int) => impl_times.l2 k p0 n i.1 i.2)
  (fun ⟨s27, s28⟩ => (⟨[(3, .ref (3, 50) 1 0 (len (qInt s27))), (8, tA (qLGOcc p0)), (9, iA (cast (len (qLGOcc p0)))), (10, iA s28)], [((3, 50), .arr 1 1 (qInt s27))]⟩ : St))
  (fun (x55 : List Int) => (⟨[(3, .ref (3, 50) 1 0 (len (qInt x55)))], [((3, 50), .arr 1 1 (qInt x55))]⟩ : St)) (fun x => x) (.exit 0)
  (i0 := (_, _)) hl1 (fun _ => rfl) ?_ ?_ ?_
 ·
  rintro ⟨t0, t1⟩ e
  refine cov_of [] ?_
  cbv
  all_goals exact J2
 ·
  rintro x55 hx
  subst o1
  have hh := hq1
  cbv
  replace hh := bind_some hh
  obtain ⟨x83, h82, hh⟩ := hh
  replace hh := req_some hh
  obtain ⟨h88, hh⟩ := hh
  refine go_call hF (c_slices_Sort hQ h82) ?_
  cbv
  replace hh := bind_some hh
  obtain ⟨x86, h85, hh⟩ := hh
  refine ⟨Ob, ?_⟩
  refine go_call hF (c_slices_Compact hQ h85) ?_
  cbv
  exact Eb
 ·
  rintro n ⟨s27, s28⟩ N1 D1 hh hN1 hD1 hQ1
  dsimp only at hh
  unfold impl_times.l2 at hh
  cbv
  refine bcs (fun f57 => ?_) (fun f57 => ?_)
  ·
   replace hh := ifT hh f57
   try rw [f57]
   cbv
   replace hh := req_some hh
   obtain ⟨h58, hh⟩ := hh
   replace hh := bind_some hh
   obtain ⟨e59, h60, hh⟩ := hh
   refine ⟨[tA (qGOcc e59)], Nb h58, Gb h60, ?_⟩
   cbv
   replace hh := bind_some hh
   obtain ⟨o2, hl2, hq2⟩ := hh
   refine loop_go4 hC eok mixed (fun n (i : (List Int) × Int) => impl_times.l3 k e59 n i.1 i.2)
    (fun ⟨s67, s68⟩ => (⟨[(3, .ref (3, 50) 1 0 (len (qInt s67))), (8, tA (qLGOcc p0)), (9, iA (cast (len (qLGOcc p0)))), (10, iA s28), (14, tA (qGOcc e59)), (15, iA (cast (len (qGOcc e59)))), (16, iA s68)], [((3, 50), .arr 1 1 (qInt s67))]⟩ : St))
    (fun (x75 : List Int) => (⟨[(3, .ref (3, 50) 1 0 (len (qInt x75))), (8, tA (qLGOcc p0)), (9, iA (cast (len (qLGOcc p0)))), (10, iA s28)], [((3, 50), .arr 1 1 (qInt x75))]⟩ : St)) (fun x => x) (.exit 2)
    (i0 := (_, _)) hl2 (fun _ => rfl) ?_ ?_ ?_
   ·
    rintro ⟨t0, t1⟩ e
    refine cov_of [((3, 50), (3, 50))] ?_
    cbv
    all_goals exact J2
   ·
    rintro x75 hx
    subst o2
    have hh := hq2
    cbv
    refine hN1 (_, _) _ hh fun ⟨t0, t1⟩ e => ?_
    refine cov_of [((3, 50), (3, 50))] ?_
    cbv
    all_goals exact J2
   ·
    rintro n ⟨s67, s68⟩ N2 D2 hh hN2 hD2 hQ2
    dsimp only at hh
    unfold impl_times.l3 at hh
    cbv
    refine bcs (fun f77 => ?_) (fun f77 => ?_)
    ·
     replace hh := ifT hh f77
     try rw [f77]
     cbv
     replace hh := req_some hh
     obtain ⟨h78, hh⟩ := hh
     replace hh := bind_some hh
     obtain ⟨⟨e79a, e79b, e79c⟩, h80, hh⟩ := hh
     try dsimp only at hh
     refine ⟨[iA e79a, iA e79b, tA (qInt e79c)], Nb h78, Gb h80, ?_⟩
     cbv
     replace hh := req_some hh
     obtain ⟨h81, hh⟩ := hh
     refine ⟨⟨Ob, Ab⟩, ?_⟩
     refine ⟨⟨Ob, Wb h81⟩, ?_⟩
     refine hN2 (_, _) _ hh fun ⟨t0, t1⟩ e => ?_
     refine cov_of [((3, 50), (24, 0))] ?_
     cbv
     all_goals exact J2
    ·
     replace hh := ifF hh f77
     try rw [f77]
     cbv
     refine hD2 _ _ hh fun t0 e => ?_
     refine cov_of [((3, 50), (3, 50))] ?_
     cbv
     all_goals exact J1
  ·
   replace hh := ifF hh f57
   try rw [f57]
   cbv
   refine hD1 _ _ hh fun t0 e => ?_
   refine cov_of [((3, 50), (3, 50))] ?_
   cbv
   all_goals exact J1

theorem c_impl_at_1 {p0 : GOcc} {c0 : Int} {r : Bool} (hh : impl_at_1.f p0 c0 = some r) : FunW P 201 [.agg [iA p0.From, iA p0.To, tA (qInt p0.Ids)], .iptr [iA c0] 0] [hA, hA] (bA r) := by
 obtain ⟨p0a, p0b, p0c⟩ := p0
 unfold impl_at_1.f at hh
 refine go (ts := [(3, none)]) (rm := [.own]) (pm := [.skip, .skip]) Tryz.func201 ?_
 intro Fn LW len cast toNat wrap add sub mul bin lt eq At set part app fz' rep nadd nmax ssize sext sget scat seq slt Wide Flat Ones Room r' post' hC hF hr hp
 cbv
 exact Eb

theorem c_impl_those_impl_at_1 {k : Nat} {g1 : GOcc → Option Bool} {cp1_0 : Int} (hg1 : ∀ {y0 : GOcc} {r : Bool}, g1 y0 = some r → FunW P 201 [.agg [iA y0.From, iA y0.To, tA (qInt y0.Ids)], .iptr [iA cp1_0] 0] [hA, hA] (bA r)) {p0 : List GOcc} {r : List GOcc} (hh : impl_those.f g1 k p0 = some r) : FunW P 105 [tA (qGOcc p0), .clo 201 [.iptr [iA cp1_0] 0]] [hA, hA] (oA 3 (qGOcc r)) := by
 unfold impl_those.f at hh
 refine go (ts := [(4, none)]) (rm := [.own]) (pm := [.skip, .skip]) Tryz.func105 ?_
 intro Fn LW len cast toNat wrap add sub mul bin lt eq At set part app fz' rep nadd nmax ssize sext sget scat seq slt Wide Flat Ones Room r' post' hC hF hr hp
 cbv
 replace hh := bind_some hh
 obtain ⟨o1, hl1, hq1⟩ := hh
 refine loop_go4 hC eok mixed (fun n (i : (List GOcc) × Int) => impl_those.l0 k g1 p0 n i.1 i.2)
  (fun ⟨s12, s13⟩ => (⟨[(1, .clo 201 [.iptr [iA cp1_0] 0]), (5, .ref (5, 50) 1 0 (len (qGOcc s12))), (8, tA (qGOcc p0)), (9, iA (cast (len (qGOcc p0)))), (10, iA s13)], [((5, 50), .arr 1 3 (qGOcc s12))]⟩ : St))
  (fun (x25 : List GOcc) => (⟨[(5, .ref (5, 50) 1 0 (len (qGOcc x25)))], [((5, 50), .arr 1 3 (qGOcc x25))]⟩ : St)) (fun x => x) (.exit 0)
  (i0 := (_, _)) hl1 (fun _ => rfl) ?_ ?_ ?_
 ·
  rintro ⟨t0, t1⟩ e
  refine cov_of [] ?_
  cbv
  all_goals exact J2
 ·
  rintro x25 hx
  subst o1
  have hh := hq1
  cbv
  exact Eb
 ·
  rintro n ⟨s12, s13⟩ N1 D1 hh hN1 hD1 hQ1
  dsimp only at hh
  unfold impl_those.l0 at hh
  cbv
  refine bcs (fun f27 => ?_) (fun f27 => ?_)
  ·
   replace hh := ifT hh f27
   try rw [f27]
   cbv
   replace hh := req_some hh
   obtain ⟨h28, hh⟩ := hh
   replace hh := bind_some hh
   obtain ⟨⟨e29a, e29b, e29c⟩, h30, hh⟩ := hh
   try dsimp only at hh
   refine ⟨[iA e29a, iA e29b, tA (qInt e29c)], Nb h28, Gb h30, ?_⟩
   cbv
   replace hh := bind_some hh
   obtain ⟨x32, h31, hh⟩ := hh
   refine go_call hF (hg1 h31) ?_
   cbv
   refine bcs (fun f35 => ?_) (fun f35 => ?_)
   ·
    replace hh := ifT hh f35
    try rw [f35]
    cbv
    replace hh := req_some hh
    obtain ⟨h36, hh⟩ := hh
    refine ⟨⟨Ob, Ab⟩, ?_⟩
    refine ⟨⟨Ob, Wb h36⟩, ?_⟩
    refine hN1 (_, _) _ hh fun ⟨t0, t1⟩ e => ?_
    refine cov_of [((5, 50), (20, 0))] ?_
    cbv
    all_goals exact J2
   ·
    replace hh := ifF hh f35
    try rw [f35]
    cbv
    refine hN1 (_, _) _ hh fun ⟨t0, t1⟩ e => ?_
    refine cov_of [((5, 50), (5, 50))] ?_
    cbv
    all_goals exact J2
  ·
   replace hh := ifF hh f27
   try rw [f27]
   cbv
   refine hD1 _ _ hh fun t0 e => ?_
   refine cov_of [((5, 50), (5, 50))] ?_
   cbv
   all_goals exact J1

theorem c_impl_at {k : Nat} {p0 : List GOcc} {p1 : Int} {r : List GOcc} (hh : impl_at.f k p0 p1 = some r) : FunW P 177 [tA (qGOcc p0), iA p1] [hA, hA] (oA 3 (qGOcc r)) := by
 unfold impl_at.f at hh
 refine go (ts := [(4, none)]) (rm := [.own]) (pm := [.skip, .skip]) Tryz.func177 ?_
 intro Fn LW len cast toNat wrap add sub mul bin lt eq At set part app fz' rep nadd nmax ssize sext sget scat seq slt Wide Flat Ones Room r' post' hC hF hr hp
 cbv
 replace hh := bind_some hh
 obtain ⟨x2, h1, hh⟩ := hh
 refine go_call hF (c_impl_those_impl_at_1 hQ (g1 := fun y0 => impl_at_1.f y0 p1) (fun h => c_impl_at_1 hQ h) h1) ?_
 cbv
 exact Eb

theorem c_impl_pairOf_impl_Pair_and {k : Nat} {g3 : GPair → Int → (List GOcc) → (List GOcc) → Option (GPair × (List GOcc))} (hg3 : ∀ {y0 : GPair} {y1 : Int} {y2 : List GOcc} {y3 : List GOcc} {r : GPair × (List GOcc)}, g3 y0 y1 y2 y3 = some r → FunW P 147 [.agg [tA (qGOcc y0.Left), tA (qGOcc y0.Right)], iA y1, tA (qGOcc y2), tA (qGOcc y3)] [hA, hA, hA, hA] (.tup [.agg [tA (qGOcc r.1.Left), tA (qGOcc r.1.Right)], tA (qGOcc r.2)])) {p0 : Int} {p1 : List GOcc} {p2 : List GOcc} {r : (List GOcc) × Bool} (hh : impl_pairOf.f g3 k p0 p1 p2 = some r) : FunW P 146 [iA p0, tA (qGOcc p1), tA (qGOcc p2), .clo 147 []] [hA, hA, hA, hA] (.tup [oA 3 (qGOccO r.1), bA r.2]) := by
 unfold impl_pairOf.f at hh
 refine go (ts := [(8, none), (9, none)]) (rm := [.own, .own]) (pm := [.skip, .skip, .skip, .skip]) Tryz.func146 ?_
 intro Fn LW len cast toNat wrap add sub mul bin lt eq At set part app fz' rep nadd nmax ssize sext sget scat seq slt Wide Flat Ones Room r' post' hC hF hr hp
 cbv
 replace hh := bind_some hh
 obtain ⟨x2, h1, hh⟩ := hh
 refine ⟨3, ?_⟩
 cbv
 refine ⟨3, ?_⟩
 cbv
 have fc := c_impl_pairFits_L1 hQ h1
 try dsimp only at fc
 refine go_call hF fc ?_
 cbv
 replace hh := if_or hh
 rcases hh with ⟨b4, hh⟩ | ⟨b4, hh⟩
 ·
  have f5 : x2 = true := Tb b4
  have g := f5; cbv at g; try rw [f5]
  try rw [g]
  cbv
  replace hh := bind_some hh
  obtain ⟨x7, h6, hh⟩ := hh
  refine ⟨Ob, ?_⟩
  refine go_call hF (c_impl_times hQ h6) ?_
  cbv
  replace hh := bind_some hh
  obtain ⟨o1, hl1, hq1⟩ := hh
  refine loop_go4 hC eok mixed (fun n (i : (List GOcc) × (List GOcc) × (List GOcc) × Int) => impl_pairOf.l0 k g3 p0 p1 p2 x7 n i.1 i.2.1 i.2.2.1 i.2.2.2)
   (fun ⟨s26, s27, s28, s29⟩ => (⟨[(0, iA p0), (1, tA (qGOcc p1)), (2, tA (qGOcc p2)), (3, .clo 147 []), (10, .mptr (10, 0) 1 0 0), (11, tA (qGOcc s28)), (25, tA (qInt x7)), (26, iA (cast (len (qInt x7)))), (27, iA s29)], [((10, 0), .box 1 [tA (qGOcc s26), tA (qGOcc s27)])]⟩ : St))
   (fun (x47 : List GOcc) => (⟨[(11, tA (qGOcc x47))], []⟩ : St)) (fun x => x) (.exit 0)
   (i0 := (_, _, _, _)) hl1 (fun _ => rfl) ?_ ?_ ?_
  ·
   rintro ⟨t0, t1, t2, t3⟩ e
   refine cov_of [((10, 0), (10, 0))] ?_
   cbv
   all_goals exact J4
  ·
   rintro x47 hx
   subst o1
   have hh := hq1
   cbv
   replace hh := bind_some hh
   obtain ⟨⟨x66_0, x66_1⟩, h65, hh⟩ := hh
   try dsimp only at hh
   have fc := c_impl_few hQ h65
   try dsimp only at fc
   refine go_call hF fc ?_
   cbv
   exact Eb
  ·
   rintro n ⟨s26, s27, s28, s29⟩ N1 D1 hh hN1 hD1 hQ1
   dsimp only at hh
   unfold impl_pairOf.l0 at hh
   cbv
   refine bcs (fun f49 => ?_) (fun f49 => ?_)
   ·
    replace hh := ifT hh f49
    try rw [f49]
    cbv
    replace hh := req_some hh
    obtain ⟨h50, hh⟩ := hh
    replace hh := bind_some hh
    obtain ⟨e51, h52, hh⟩ := hh
    refine ⟨[iA e51], Nb h50, Gb h52, ?_⟩
    cbv
    replace hh := bind_some hh
    obtain ⟨x54, h53, hh⟩ := hh
    refine go_call hF (c_impl_at hQ h53) ?_
    cbv
    replace hh := bind_some hh
    obtain ⟨x57, h56, hh⟩ := hh
    refine go_call hF (c_impl_at hQ h56) ?_
    cbv
    replace hh := bind_some hh
    obtain ⟨⟨⟨x60_0a, x60_0b⟩, x60_1⟩, h59, hh⟩ := hh
    try dsimp only at hh
    refine ⟨Ob, ?_⟩
    refine ⟨Ob, ?_⟩
    have fc := hg3 h59
    try dsimp only at fc
    refine go_call hF fc ?_
    cbv
    replace hh := bind_some hh
    obtain ⟨x63, h62, hh⟩ := hh
    refine go_call hF (c_impl_putAll hQ h62) ?_
    cbv
    refine hN1 (_, _, _, _) _ hh fun ⟨t0, t1, t2, t3⟩ e => ?_
    refine cov_of [((10, 0), (10, 0))] ?_
    cbv
    all_goals exact J4
   ·
    replace hh := ifF hh f49
    try rw [f49]
    cbv
    refine hD1 _ _ hh fun t0 e => ?_
    refine cov_of [] ?_
    cbv
    all_goals exact J1
 ·
  have f5 : x2 = false := Fb b4
  have g := f5; cbv at g; try rw [f5]
  try rw [g]
  cbv
  refine ⟨3, ?_⟩
  cbv
  exact Eb

theorem c_impl_AndOf {k : Nat} {p0 : Int} {p1 : List GOcc} {p2 : List GOcc} {r : (List GOcc) × Bool} (hh : impl_AndOf.f k p0 p1 p2 = some r) : FunW P 119 [iA p0, tA (qGOcc p1), tA (qGOcc p2)] [hA, hA, hA] (.tup [oA 3 (qGOccO r.1), bA r.2]) := by
 unfold impl_AndOf.f at hh
 refine go (ts := [(6, none), (7, none)]) (rm := [.own, .own]) (pm := [.skip, .skip, .skip]) Tryz.func119 ?_
 intro Fn LW len cast toNat wrap add sub mul bin lt eq At set part app fz' rep nadd nmax ssize sext sget scat seq slt Wide Flat Ones Room r' post' hC hF hr hp
 cbv
 replace hh := bind_some hh
 obtain ⟨⟨x2_0, x2_1⟩, h1, hh⟩ := hh
 try dsimp only at hh
 have fc := c_impl_pairOf_impl_Pair_and hQ (g3 := fun y0 y1 y2 y3 => impl_Pair_and.f k y0 y1 y2 y3) (fun h => c_impl_Pair_and hQ h) h1
 try dsimp only at fc
 refine go_call hF fc ?_
 cbv
 exact Eb

theorem c_impl_Pair_seq_1 {p0 : GOcc} {c0 : GOcc} {r : Bool} (hh : impl_Pair_seq_1.f p0 c0 = some r) : FunW P 181 [.agg [iA p0.From, iA p0.To, tA (qInt p0.Ids)], .iptr [iA c0.From, iA c0.To, tA (qInt c0.Ids)] 0] [hA, hA] (bA r) := by
 obtain ⟨p0a, p0b, p0c⟩ := p0
 obtain ⟨c0a, c0b, c0c⟩ := c0
 unfold impl_Pair_seq_1.f at hh
 refine go (ts := [(3, none)]) (rm := [.own]) (pm := [.skip, .skip]) Tryz.func181 ?_
 intro Fn LW len cast toNat wrap add sub mul bin lt eq At set part app fz' rep nadd nmax ssize sext sget scat seq slt Wide Flat Ones Room r' post' hC hF hr hp
 cbv
 exact Eb

theorem c_impl_those_impl_Pair_seq_1 {k : Nat} {g1 : GOcc → Option Bool} {cp1_0 : GOcc} (hg1 : ∀ {y0 : GOcc} {r : Bool}, g1 y0 = some r → FunW P 181 [.agg [iA y0.From, iA y0.To, tA (qInt y0.Ids)], .iptr [iA cp1_0.From, iA cp1_0.To, tA (qInt cp1_0.Ids)] 0] [hA, hA] (bA r)) {p0 : List GOcc} {r : List GOcc} (hh : impl_those.f g1 k p0 = some r) : FunW P 105 [tA (qGOcc p0), .clo 181 [.iptr [iA cp1_0.From, iA cp1_0.To, tA (qInt cp1_0.Ids)] 0]] [hA, hA] (oA 3 (qGOcc r)) := by
 obtain ⟨cp1_0a, cp1_0b, cp1_0c⟩ := cp1_0
 unfold impl_those.f at hh
 refine go (ts := [(4, none)]) (rm := [.own]) (pm := [.skip, .skip]) Tryz.func105 ?_
 intro Fn LW len cast toNat wrap add sub mul bin lt eq At set part app fz' rep nadd nmax ssize sext sget scat seq slt Wide Flat Ones Room r' post' hC hF hr hp
 cbv
 replace hh := bind_some hh
 obtain ⟨o1, hl1, hq1⟩ := hh
 refine loop_go4 hC eok mixed (fun n (i : (List GOcc) × Int) => impl_those.l0 k g1 p0 n i.1 i.2)
  (fun ⟨s12, s13⟩ => (⟨[(1, .clo 181 [.iptr [iA cp1_0a, iA cp1_0b, tA (qInt cp1_0c)] 0]), (5, .ref (5, 50) 1 0 (len (qGOcc s12))), (8, tA (qGOcc p0)), (9, iA (cast (len (qGOcc p0)))), (10, iA s13)], [((5, 50), .arr 1 3 (qGOcc s12))]⟩ : St))
  (fun (x25 : List GOcc) => (⟨[(5, .ref (5, 50) 1 0 (len (qGOcc x25)))], [((5, 50), .arr 1 3 (qGOcc x25))]⟩ : St)) (fun x => x) (.exit 0)
  (i0 := (_, _)) hl1 (fun _ => rfl) ?_ ?_ ?_
 ·
  rintro ⟨t0, t1⟩ e
  refine cov_of [] ?_
  cbv
  all_goals exact J2
 ·
  rintro x25 hx
  subst o1
  have hh := hq1
  cbv
  exact Eb
 ·
  rintro n ⟨s12, s13⟩ N1 D1 hh hN1 hD1 hQ1
  dsimp only at hh
  unfold impl_those.l0 at hh
  cbv
  refine bcs (fun f27 => ?_) (fun f27 => ?_)
  ·
   replace hh := ifT hh f27
   try rw [f27]
   cbv
   replace hh := req_some hh
   obtain ⟨h28, hh⟩ := hh
   replace hh := bind_some hh
   obtain ⟨⟨e29a, e29b, e29c⟩, h30, hh⟩ := hh
   try dsimp only at hh
   refine ⟨[iA e29a, iA e29b, tA (qInt e29c)], Nb h28, Gb h30, ?_⟩
   cbv
   replace hh := bind_some hh
   obtain ⟨x32, h31, hh⟩ := hh
   refine go_call hF (hg1 h31) ?_
   cbv
   refine bcs (fun f35 => ?_) (fun f35 => ?_)
   ·
    replace hh := ifT hh f35
    try rw [f35]
    cbv
    replace hh := req_some hh
    obtain ⟨h36, hh⟩ := hh
    refine ⟨⟨Ob, Ab⟩, ?_⟩
    refine ⟨⟨Ob, Wb h36⟩, ?_⟩
    refine hN1 (_, _) _ hh fun ⟨t0, t1⟩ e => ?_
    refine cov_of [((5, 50), (20, 0))] ?_
    cbv
    all_goals exact J2
   ·
    replace hh := ifF hh f35
    try rw [f35]
    cbv
    refine hN1 (_, _) _ hh fun ⟨t0, t1⟩ e => ?_
    refine cov_of [((5, 50), (5, 50))] ?_
    cbv
    all_goals exact J2
  ·
   replace hh := ifF hh f27
   try rw [f27]
   cbv
   refine hD1 _ _ hh fun t0 e => ?_
   refine cov_of [((5, 50), (5, 50))] ?_
   cbv
   all_goals exact J1

theorem c_impl_Pair_seq {k : Nat} {p0 : GPair} {p1 : Int} {p2 : List GOcc} {p3 : List GOcc} {r : GPair × (List GOcc)} (hh : impl_Pair_seq.f k p0 p1 p2 p3 = some r) : FunW P 148 [.agg [tA (qGOcc p0.Left), tA (qGOcc p0.Right)], iA p1, tA (qGOcc p2), tA (qGOcc p3)] [hA, hA, hA, hA] (.tup [.agg [tA (qGOcc r.1.Left), tA (qGOcc r.1.Right)], tA (qGOcc r.2)]) := by
 obtain ⟨p0a, p0b⟩ := p0
 unfold impl_Pair_seq.f at hh
 refine goG (g := [5]) (ts := [(8, some 143), (9, none)]) (rm := [.val, .val]) (pm := [.skip, .skip, .skip, .skip]) Tryz.func148 ?_
 intro Fn LW len cast toNat wrap add sub mul bin lt eq At set part app fz' rep nadd nmax ssize sext sget scat seq slt Wide Flat Ones Room r' post' hC hF hr hp
 cbv
 replace hh := bind_some hh
 obtain ⟨o1, hl1, hq1⟩ := hh
 refine loop_go4 hC (eokG [5]) mixed (fun n (i : (List GOcc) × (List GOcc) × Int) => impl_Pair_seq.l0 k p1 p3 n i.1 i.2.1 i.2.2)
  (fun ⟨s18, s19, s20⟩ => (⟨[(1, iA p1), (2, tA (qGOcc p2)), (4, .mptr (4, 0) 1 0 0), (8, .mptr (8, 0) 1 0 0), (10, tA (qGOcc s19)), (15, tA (qGOcc p3)), (16, iA (cast (len (qGOcc p3)))), (17, iA s20)], [((4, 0), .box 1 [tA (qGOcc s18), tA (qGOcc p0b)]), ((8, 0), .box 1 [.lit (.slice none 0 0), .lit (.slice none 0 0)])]⟩ : St))
  (fun (⟨x38, x39⟩ : (List GOcc) × (List GOcc)) => (⟨[(2, tA (qGOcc p2)), (4, .mptr (4, 0) 1 0 0), (8, .mptr (8, 0) 1 0 0), (10, tA (qGOcc x39))], [((4, 0), .box 1 [tA (qGOcc x38), tA (qGOcc p0b)]), ((8, 0), .box 1 [.lit (.slice none 0 0), .lit (.slice none 0 0)])]⟩ : St)) (fun x => x) (.exit 0)
  (i0 := (_, _, _)) hl1 (fun _ => rfl) ?_ ?_ ?_
 ·
  rintro ⟨t0, t1, t2⟩ e
  refine cov_of [((4, 0), (4, 0)), ((8, 0), (8, 0))] ?_
  cbv
  all_goals exact J3
 ·
  rintro ⟨x38, x39⟩ hx
  subst o1
  have hh := hq1
  cbv
  replace hh := bind_some hh
  obtain ⟨x58, h57, hh⟩ := hh
  refine go_call hF (c_impl_putAll hQ h57) ?_
  cbv
  exact Eb
 ·
  rintro n ⟨s18, s19, s20⟩ N1 D1 hh hN1 hD1 hQ1
  dsimp only at hh
  unfold impl_Pair_seq.l0 at hh
  cbv
  refine bcs (fun f41 => ?_) (fun f41 => ?_)
  ·
   replace hh := ifT hh f41
   try rw [f41]
   cbv
   replace hh := req_some hh
   obtain ⟨h42, hh⟩ := hh
   replace hh := bind_some hh
   obtain ⟨⟨e43a, e43b, e43c⟩, h44, hh⟩ := hh
   try dsimp only at hh
   refine ⟨[iA e43a, iA e43b, tA (qInt e43c)], Nb h42, Gb h44, ?_⟩
   cbv
   refine gap_go hC (eokG [5]) mixed (⟨[(1, iA p1), (2, tA (qGOcc p2)), (4, .mptr (4, 0) 1 0 0), (8, .mptr (8, 0) 1 0 0), (10, tA (qGOcc s19)), (12, .mptr (12, 0) 1 0 0), (15, tA (qGOcc p3)), (16, iA (cast (len (qGOcc p3)))), (17, iA s20)], [((4, 0), .box 1 [tA (qGOcc s18), tA (qGOcc p0b)]), ((8, 0), .box 1 [.lit (.slice none 0 0), .lit (.slice none 0 0)]), ((12, 0), .fbox 1 [iA e43a, iA e43b, tA (qInt e43c)])]⟩ : St) (cov_of [((4, 0), (4, 0)), ((8, 0), (8, 0)), ((12, 0), (12, 0))] ?_) ?_
   ·
    cbv
    all_goals exact Zb
   cbv
   replace hh := bind_some hh
   obtain ⟨x46, h45, hh⟩ := hh
   refine go_call hF (c_impl_those_impl_Pair_seq_1 hQ (g1 := fun y0 => impl_Pair_seq_1.f y0 ((⟨e43a, e43b, e43c⟩ : GOcc))) (fun h => c_impl_Pair_seq_1 hQ h) h45) ?_
   cbv
   replace hh := bind_some hh
   obtain ⟨⟨x49_0, x49_1⟩, h48, hh⟩ := hh
   try dsimp only at hh
   refine ⟨Ob, ?_⟩
   have fc := c_impl_combine hQ h48
   try dsimp only at fc
   refine go_call hF fc ?_
   cbv
   replace hh := bind_some hh
   obtain ⟨x52, h51, hh⟩ := hh
   refine go_call hF (c_impl_putAll hQ h51) ?_
   cbv
   replace hh := bind_some hh
   obtain ⟨x55, h54, hh⟩ := hh
   refine go_call hF (FunW.frz (r' := tA (qGOcc x55)) (c_impl_without hQ h54) (by cases hQ; simp)) ?_
   cbv
   refine hN1 (_, _, _) _ hh fun ⟨t0, t1, t2⟩ e => ?_
   refine cov_of [((4, 0), (4, 0)), ((8, 0), (8, 0))] ?_
   cbv
   all_goals exact J3
  ·
   replace hh := ifF hh f41
   try rw [f41]
   cbv
   refine hD1 (_, _) _ hh fun ⟨t0, t1⟩ e => ?_
   refine cov_of [((4, 0), (4, 0)), ((8, 0), (8, 0))] ?_
   cbv
   all_goals exact J2

theorem c_impl_pairOf_impl_Pair_seq {k : Nat} {g3 : GPair → Int → (List GOcc) → (List GOcc) → Option (GPair × (List GOcc))} (hg3 : ∀ {y0 : GPair} {y1 : Int} {y2 : List GOcc} {y3 : List GOcc} {r : GPair × (List GOcc)}, g3 y0 y1 y2 y3 = some r → FunW P 148 [.agg [tA (qGOcc y0.Left), tA (qGOcc y0.Right)], iA y1, tA (qGOcc y2), tA (qGOcc y3)] [hA, hA, hA, hA] (.tup [.agg [tA (qGOcc r.1.Left), tA (qGOcc r.1.Right)], tA (qGOcc r.2)])) {p0 : Int} {p1 : List GOcc} {p2 : List GOcc} {r : (List GOcc) × Bool} (hh : impl_pairOf.f g3 k p0 p1 p2 = some r) : FunW P 146 [iA p0, tA (qGOcc p1), tA (qGOcc p2), .clo 148 []] [hA, hA, hA, hA] (.tup [oA 3 (qGOccO r.1), bA r.2]) := by
 unfold impl_pairOf.f at hh
 refine go (ts := [(8, none), (9, none)]) (rm := [.own, .own]) (pm := [.skip, .skip, .skip, .skip]) Tryz.func146 ?_
 intro Fn LW len cast toNat wrap add sub mul bin lt eq At set part app fz' rep nadd nmax ssize sext sget scat seq slt Wide Flat Ones Room r' post' hC hF hr hp
 cbv
 replace hh := bind_some hh
 obtain ⟨x2, h1, hh⟩ := hh
 refine ⟨3, ?_⟩
 cbv
 refine ⟨3, ?_⟩
 cbv
 have fc := c_impl_pairFits_L1 hQ h1
 try dsimp only at fc
 refine go_call hF fc ?_
 cbv
 replace hh := if_or hh
 rcases hh with ⟨b4, hh⟩ | ⟨b4, hh⟩
 ·
  have f5 : x2 = true := Tb b4
  have g := f5; cbv at g; try rw [f5]
  try rw [g]
  cbv
  replace hh := bind_some hh
  obtain ⟨x7, h6, hh⟩ := hh
  refine ⟨Ob, ?_⟩
  refine go_call hF (c_impl_times hQ h6) ?_
  cbv
  replace hh := bind_some hh
  obtain ⟨o1, hl1, hq1⟩ := hh
  refine loop_go4 hC eok mixed (fun n (i : (List GOcc) × (List GOcc) × (List GOcc) × Int) => impl_pairOf.l0 k g3 p0 p1 p2 x7 n i.1 i.2.1 i.2.2.1 i.2.2.2)
   (fun ⟨s26, s27, s28, s29⟩ => (⟨[(0, iA p0), (1, tA (qGOcc p1)), (2, tA (qGOcc p2)), (3, .clo 148 []), (10, .mptr (10, 0) 1 0 0), (11, tA (qGOcc s28)), (25, tA (qInt x7)), (26, iA (cast (len (qInt x7)))), (27, iA s29)], [((10, 0), .box 1 [tA (qGOcc s26), tA (qGOcc s27)])]⟩ : St))
   (fun (x47 : List GOcc) => (⟨[(11, tA (qGOcc x47))], []⟩ : St)) (fun x => x) (.exit 0)
   (i0 := (_, _, _, _)) hl1 (fun _ => rfl) ?_ ?_ ?_
  ·
   rintro ⟨t0, t1, t2, t3⟩ e
   refine cov_of [((10, 0), (10, 0))] ?_
   cbv
   all_goals exact J4
  ·
   rintro x47 hx
   subst o1
   have hh := hq1
   cbv
   replace hh := bind_some hh
   obtain ⟨⟨x66_0, x66_1⟩, h65, hh⟩ := hh
   try dsimp only at hh
   have fc := c_impl_few hQ h65
   try dsimp only at fc
   refine go_call hF fc ?_
   cbv
   exact Eb
  ·
   rintro n ⟨s26, s27, s28, s29⟩ N1 D1 hh hN1 hD1 hQ1
   dsimp only at hh
   unfold impl_pairOf.l0 at hh
   cbv
   refine bcs (fun f49 => ?_) (fun f49 => ?_)
   ·
    replace hh := ifT hh f49
    try rw [f49]
    cbv
    replace hh := req_some hh
    obtain ⟨h50, hh⟩ := hh
    replace hh := bind_some hh
    obtain ⟨e51, h52, hh⟩ := hh
    refine ⟨[iA e51], Nb h50, Gb h52, ?_⟩
    cbv
    replace hh := bind_some hh
    obtain ⟨x54, h53, hh⟩ := hh
    refine go_call hF (c_impl_at hQ h53) ?_
    cbv
    replace hh := bind_some hh
    obtain ⟨x57, h56, hh⟩ := hh
    refine go_call hF (c_impl_at hQ h56) ?_
    cbv
    replace hh := bind_some hh
    obtain ⟨⟨⟨x60_0a, x60_0b⟩, x60_1⟩, h59, hh⟩ := hh
    try dsimp only at hh
    refine ⟨Ob, ?_⟩
    refine ⟨Ob, ?_⟩
    have fc := hg3 h59
    try dsimp only at fc
    refine go_call hF fc ?_
    cbv
    replace hh := bind_some hh
    obtain ⟨x63, h62, hh⟩ := hh
    refine go_call hF (c_impl_putAll hQ h62) ?_
    cbv
    refine hN1 (_, _, _, _) _ hh fun ⟨t0, t1, t2, t3⟩ e => ?_
    refine cov_of [((10, 0), (10, 0))] ?_
    cbv
    all_goals exact J4
   ·
    replace hh := ifF hh f49
    try rw [f49]
    cbv
    refine hD1 _ _ hh fun t0 e => ?_
    refine cov_of [] ?_
    cbv
    all_goals exact J1
 ·
  have f5 : x2 = false := Fb b4
  have g := f5; cbv at g; try rw [f5]
  try rw [g]
  cbv
  refine ⟨3, ?_⟩
  cbv
  exact Eb

theorem c_impl_SeqOf {k : Nat} {p0 : Int} {p1 : List GOcc} {p2 : List GOcc} {r : (List GOcc) × Bool} (hh : impl_SeqOf.f k p0 p1 p2 = some r) : FunW P 120 [iA p0, tA (qGOcc p1), tA (qGOcc p2)] [hA, hA, hA] (.tup [oA 3 (qGOccO r.1), bA r.2]) := by
 unfold impl_SeqOf.f at hh
 refine go (ts := [(6, none), (7, none)]) (rm := [.own, .own]) (pm := [.skip, .skip, .skip]) Tryz.func120 ?_
 intro Fn LW len cast toNat wrap add sub mul bin lt eq At set part app fz' rep nadd nmax ssize sext sget scat seq slt Wide Flat Ones Room r' post' hC hF hr hp
 cbv
 replace hh := bind_some hh
 obtain ⟨⟨x2_0, x2_1⟩, h1, hh⟩ := hh
 try dsimp only at hh
 have fc := c_impl_pairOf_impl_Pair_seq hQ (g3 := fun y0 y1 y2 y3 => impl_Pair_seq.f k y0 y1 y2 y3) (fun h => c_impl_Pair_seq hQ h) h1
 try dsimp only at fc
 refine go_call hF fc ?_
 cbv
 exact Eb

theorem c_impl_Span_open_1_1 {p0 : GOcc} {c0 : GOcc} {c1 : GOcc} {r : Bool} (hh : impl_Span_open_1_1.f p0 c0 c1 = some r) : FunW P 206 [.agg [iA p0.From, iA p0.To, tA (qInt p0.Ids)], .iptr [iA c0.From, iA c0.To, tA (qInt c0.Ids)] 0, .iptr [iA c1.From, iA c1.To, tA (qInt c1.Ids)] 0] [hA, hA, hA] (bA r) := by
 obtain ⟨p0a, p0b, p0c⟩ := p0
 obtain ⟨c0a, c0b, c0c⟩ := c0
 obtain ⟨c1a, c1b, c1c⟩ := c1
 unfold impl_Span_open_1_1.f at hh
 refine go (ts := [(4, none)]) (rm := [.own]) (pm := [.skip, .skip, .skip]) Tryz.func206 ?_
 intro Fn LW len cast toNat wrap add sub mul bin lt eq At set part app fz' rep nadd nmax ssize sext sget scat seq slt Wide Flat Ones Room r' post' hC hF hr hp
 cbv
 refine bcs (fun f2 => ?_) (fun f2 => ?_)
 ·
  replace hh := ifT hh f2
  try rw [f2]
  cbv
  exact Eb
 ·
  replace hh := ifF hh f2
  try rw [f2]
  cbv
  exact Eb

theorem c_slices_IndexFunc_2_impl_Span_open_1_1 {k : Nat} {g1 : GOcc → Option Bool} {cp1_0 : GOcc} {cp1_1 : GOcc} (hg1 : ∀ {y0 : GOcc} {r : Bool}, g1 y0 = some r → FunW P 206 [.agg [iA y0.From, iA y0.To, tA (qInt y0.Ids)], .iptr [iA cp1_0.From, iA cp1_0.To, tA (qInt cp1_0.Ids)] 0, .iptr [iA cp1_1.From, iA cp1_1.To, tA (qInt cp1_1.Ids)] 0] [hA, hA, hA] (bA r)) {p0 : List GOcc} {r : Int} (hh : slices_IndexFunc_2.f g1 k p0 = some r) : FunW P 216 [tA (qGOcc p0), .clo 206 [.iptr [iA cp1_0.From, iA cp1_0.To, tA (qInt cp1_0.Ids)] 0, .iptr [iA cp1_1.From, iA cp1_1.To, tA (qInt cp1_1.Ids)] 0]] [hA, hA] (iA r) := by
 obtain ⟨cp1_0a, cp1_0b, cp1_0c⟩ := cp1_0
 obtain ⟨cp1_1a, cp1_1b, cp1_1c⟩ := cp1_1
 unfold slices_IndexFunc_2.f at hh
 refine go (ts := [(4, none)]) (rm := [.own]) (pm := [.skip, .skip]) Tryz.func216 ?_
 intro Fn LW len cast toNat wrap add sub mul bin lt eq At set part app fz' rep nadd nmax ssize sext sget scat seq slt Wide Flat Ones Room r' post' hC hF hr hp
 cbv
 replace hh := bind_some hh
 obtain ⟨o1, hl1, hq1⟩ := hh
 refine loop_go4 hC eok mixed (slices_IndexFunc_2.l0 k g1 p0)
  (fun s11 => (⟨[(0, tA (qGOcc p0)), (1, .clo 206 [.iptr [iA cp1_0a, iA cp1_0b, tA (qInt cp1_0c)] 0, .iptr [iA cp1_1a, iA cp1_1b, tA (qInt cp1_1c)] 0]), (7, iA (cast (len (qGOcc p0)))), (8, iA s11)], []⟩ : St))
  (fun (_ : Unit) => (⟨[], []⟩ : St)) .ok (.exit 0)
  (i0 := _) hl1 (fun _ => rfl) ?_ ?_ ?_
 ·
  rintro t0 e
  refine cov_of [] ?_
  cbv
  all_goals exact J1
 ·
  rintro _ hx
  subst o1
  have hh := hq1
  cbv
  exact Eb
 ·
  rintro n s11 N1 D1 hh hN1 hD1 hQ1
  unfold slices_IndexFunc_2.l0 at hh
  cbv
  refine bcs (fun f23 => ?_) (fun f23 => ?_)
  ·
   replace hh := ifT hh f23
   try rw [f23]
   cbv
   replace hh := req_some hh
   obtain ⟨h24, hh⟩ := hh
   replace hh := bind_some hh
   obtain ⟨⟨e25a, e25b, e25c⟩, h26, hh⟩ := hh
   try dsimp only at hh
   refine ⟨[iA e25a, iA e25b, tA (qInt e25c)], Nb h24, Gb h26, ?_⟩
   cbv
   replace hh := bind_some hh
   obtain ⟨x28, h27, hh⟩ := hh
   refine go_call hF (hg1 h27) ?_
   cbv
   refine bcs (fun f31 => ?_) (fun f31 => ?_)
   ·
    replace hh := ifT hh f31
    try rw [f31]
    cbv
    cases hh
    have hh : some _ = some _ := hq1
    refine hQ1 _ _ ?_
    cbv
    exact Eb
   ·
    replace hh := ifF hh f31
    try rw [f31]
    cbv
    refine hN1 _ _ hh fun t0 e => ?_
    refine cov_of [] ?_
    cbv
    all_goals exact J1
  ·
   replace hh := ifF hh f23
   try rw [f23]
   cbv
   refine hD1 () _ hh fun _ e => ?_
   refine cov_of [] ?_
   cbv
   all_goals exact J0

theorem c_slices_ContainsFunc_2_impl_Span_open_1_1 {k : Nat} {g1 : GOcc → Option Bool} {cp1_0 : GOcc} {cp1_1 : GOcc} (hg1 : ∀ {y0 : GOcc} {r : Bool}, g1 y0 = some r → FunW P 206 [.agg [iA y0.From, iA y0.To, tA (qInt y0.Ids)], .iptr [iA cp1_0.From, iA cp1_0.To, tA (qInt cp1_0.Ids)] 0, .iptr [iA cp1_1.From, iA cp1_1.To, tA (qInt cp1_1.Ids)] 0] [hA, hA, hA] (bA r)) {p0 : List GOcc} {r : Bool} (hh : slices_ContainsFunc_2.f g1 k p0 = some r) : FunW P 205 [tA (qGOcc p0), .clo 206 [.iptr [iA cp1_0.From, iA cp1_0.To, tA (qInt cp1_0.Ids)] 0, .iptr [iA cp1_1.From, iA cp1_1.To, tA (qInt cp1_1.Ids)] 0]] [hA, hA] (bA r) := by
 obtain ⟨cp1_0a, cp1_0b, cp1_0c⟩ := cp1_0
 obtain ⟨cp1_1a, cp1_1b, cp1_1c⟩ := cp1_1
 unfold slices_ContainsFunc_2.f at hh
 refine go (ts := [(4, none)]) (rm := [.own]) (pm := [.skip, .skip]) Tryz.func205 ?_
 intro Fn LW len cast toNat wrap add sub mul bin lt eq At set part app fz' rep nadd nmax ssize sext sget scat seq slt Wide Flat Ones Room r' post' hC hF hr hp
 cbv
 replace hh := bind_some hh
 obtain ⟨x2, h1, hh⟩ := hh
 refine go_call hF (c_slices_IndexFunc_2_impl_Span_open_1_1 hQ (g1 := g1) hg1 h1) ?_
 cbv
 exact Eb

theorem c_impl_Span_open_1 {k : Nat} {p0 : GOcc} {c0 : GOcc} {c1 : GSpan} {r : Bool} (hh : impl_Span_open_1.f k p0 c0 c1 = some r) : FunW P 204 [.agg [iA p0.From, iA p0.To, tA (qInt p0.Ids)], .iptr [iA c0.From, iA c0.To, tA (qInt c0.Ids)] 0, .iptr [tA (qGOcc c1.Left), tA (qGOcc c1.Mid)] 0] [hA, hA, hA] (bA r) := by
 obtain ⟨p0a, p0b, p0c⟩ := p0
 obtain ⟨c0a, c0b, c0c⟩ := c0
 obtain ⟨c1a, c1b⟩ := c1
 unfold impl_Span_open_1.f at hh
 refine go (ts := [(4, none)]) (rm := [.own]) (pm := [.skip, .skip, .skip]) Tryz.func204 ?_
 intro Fn LW len cast toNat wrap add sub mul bin lt eq At set part app fz' rep nadd nmax ssize sext sget scat seq slt Wide Flat Ones Room r' post' hC hF hr hp
 cbv
 refine bcs (fun f2 => ?_) (fun f2 => ?_)
 ·
  replace hh := ifT hh f2
  try rw [f2]
  cbv
  replace hh := bind_some hh
  obtain ⟨x4, h3, hh⟩ := hh
  refine go_call hF (c_slices_ContainsFunc_2_impl_Span_open_1_1 hQ (g1 := fun y0 => impl_Span_open_1_1.f y0 ((⟨p0a, p0b, p0c⟩ : GOcc)) ((⟨c0a, c0b, c0c⟩ : GOcc))) (fun h => c_impl_Span_open_1_1 hQ h) h3) ?_
  cbv
  exact Eb
 ·
  replace hh := ifF hh f2
  try rw [f2]
  cbv
  exact Eb

theorem c_impl_those_impl_Span_open_1 {k : Nat} {g1 : GOcc → Option Bool} {cp1_0 : GOcc} {cp1_1 : GSpan} (hg1 : ∀ {y0 : GOcc} {r : Bool}, g1 y0 = some r → FunW P 204 [.agg [iA y0.From, iA y0.To, tA (qInt y0.Ids)], .iptr [iA cp1_0.From, iA cp1_0.To, tA (qInt cp1_0.Ids)] 0, .iptr [tA (qGOcc cp1_1.Left), tA (qGOcc cp1_1.Mid)] 0] [hA, hA, hA] (bA r)) {p0 : List GOcc} {r : List GOcc} (hh : impl_those.f g1 k p0 = some r) : FunW P 105 [tA (qGOcc p0), .clo 204 [.iptr [iA cp1_0.From, iA cp1_0.To, tA (qInt cp1_0.Ids)] 0, .iptr [tA (qGOcc cp1_1.Left), tA (qGOcc cp1_1.Mid)] 0]] [hA, hA] (oA 3 (qGOcc r)) := by
 obtain ⟨cp1_0a, cp1_0b, cp1_0c⟩ := cp1_0
 obtain ⟨cp1_1a, cp1_1b⟩ := cp1_1
 unfold impl_those.f at hh
 refine go (ts := [(4, none)]) (rm := [.own]) (pm := [.skip, .skip]) Tryz.func105 ?_
 intro Fn LW len cast toNat wrap add sub mul bin lt eq At set part app fz' rep nadd nmax ssize sext sget scat seq slt Wide Flat Ones Room r' post' hC hF hr hp
 cbv
 replace hh := bind_some hh
 obtain ⟨o1, hl1, hq1⟩ := hh
 refine loop_go4 hC eok mixed (fun n (i : (List GOcc) × Int) => impl_those.l0 k g1 p0 n i.1 i.2)
  (fun ⟨s12, s13⟩ => (⟨[(1, .clo 204 [.iptr [iA cp1_0a, iA cp1_0b, tA (qInt cp1_0c)] 0, .iptr [tA (qGOcc cp1_1a), tA (qGOcc cp1_1b)] 0]), (5, .ref (5, 50) 1 0 (len (qGOcc s12))), (8, tA (qGOcc p0)), (9, iA (cast (len (qGOcc p0)))), (10, iA s13)], [((5, 50), .arr 1 3 (qGOcc s12))]⟩ : St))
  (fun (x25 : List GOcc) => (⟨[(5, .ref (5, 50) 1 0 (len (qGOcc x25)))], [((5, 50), .arr 1 3 (qGOcc x25))]⟩ : St)) (fun x => x) (.exit 0)
  (i0 := (_, _)) hl1 (fun _ => rfl) ?_ ?_ ?_
 ·
  rintro ⟨t0, t1⟩ e
  refine cov_of [] ?_
  cbv
  all_goals exact J2
 ·
  rintro x25 hx
  subst o1
  have hh := hq1
  cbv
  exact Eb
 ·
  rintro n ⟨s12, s13⟩ N1 D1 hh hN1 hD1 hQ1
  dsimp only at hh
  unfold impl_those.l0 at hh
  cbv
  refine bcs (fun f27 => ?_) (fun f27 => ?_)
  ·
   replace hh := ifT hh f27
   try rw [f27]
   cbv
   replace hh := req_some hh
   obtain ⟨h28, hh⟩ := hh
   replace hh := bind_some hh
   obtain ⟨⟨e29a, e29b, e29c⟩, h30, hh⟩ := hh
   try dsimp only at hh
   refine ⟨[iA e29a, iA e29b, tA (qInt e29c)], Nb h28, Gb h30, ?_⟩
   cbv
   replace hh := bind_some hh
   obtain ⟨x32, h31, hh⟩ := hh
   refine go_call hF (hg1 h31) ?_
   cbv
   refine bcs (fun f35 => ?_) (fun f35 => ?_)
   ·
    replace hh := ifT hh f35
    try rw [f35]
    cbv
    replace hh := req_some hh
    obtain ⟨h36, hh⟩ := hh
    refine ⟨⟨Ob, Ab⟩, ?_⟩
    refine ⟨⟨Ob, Wb h36⟩, ?_⟩
    refine hN1 (_, _) _ hh fun ⟨t0, t1⟩ e => ?_
    refine cov_of [((5, 50), (20, 0))] ?_
    cbv
    all_goals exact J2
   ·
    replace hh := ifF hh f35
    try rw [f35]
    cbv
    refine hN1 (_, _) _ hh fun ⟨t0, t1⟩ e => ?_
    refine cov_of [((5, 50), (5, 50))] ?_
    cbv
    all_goals exact J2
  ·
   replace hh := ifF hh f27
   try rw [f27]
   cbv
   refine hD1 _ _ hh fun t0 e => ?_
   refine cov_of [((5, 50), (5, 50))] ?_
   cbv
   all_goals exact J1

theorem c_impl_Span_open {k : Nat} {p0 : GSpan} {p1 : GOcc} {r : List GOcc} (hh : impl_Span_open.f k p0 p1 = some r) : FunW P 183 [.agg [tA (qGOcc p0.Left), tA (qGOcc p0.Mid)], .agg [iA p1.From, iA p1.To, tA (qInt p1.Ids)]] [hA, hA] (oA 3 (qGOcc r)) := by
 obtain ⟨p0a, p0b⟩ := p0
 obtain ⟨p1a, p1b, p1c⟩ := p1
 unfold impl_Span_open.f at hh
 refine go (ts := [(4, none)]) (rm := [.own]) (pm := [.skip, .skip]) Tryz.func183 ?_
 intro Fn LW len cast toNat wrap add sub mul bin lt eq At set part app fz' rep nadd nmax ssize sext sget scat seq slt Wide Flat Ones Room r' post' hC hF hr hp
 cbv
 replace hh := bind_some hh
 obtain ⟨x2, h1, hh⟩ := hh
 refine go_call hF (c_impl_those_impl_Span_open_1 hQ (g1 := fun y0 => impl_Span_open_1.f k y0 ((⟨p1a, p1b, p1c⟩ : GOcc)) ((⟨p0a, p0b⟩ : GSpan))) (fun h => c_impl_Span_open_1 hQ h) h1) ?_
 cbv
 exact Eb

theorem c_impl_Span_not {k : Nat} {p0 : GSpan} {p1 : Int} {p2 : List GOcc} {p3 : List GOcc} {p4 : List GOcc} {r : GSpan × (List GOcc)} (hh : impl_Span_not.f k p0 p1 p2 p3 p4 = some r) : FunW P 150 [.agg [tA (qGOcc p0.Left), tA (qGOcc p0.Mid)], iA p1, tA (qGOcc p2), tA (qGOcc p3), tA (qGOcc p4)] [hA, hA, hA, hA, hA] (.tup [.agg [tA (qGOcc r.1.Left), tA (qGOcc r.1.Mid)], tA (qGOcc r.2)]) := by
 obtain ⟨p0a, p0b⟩ := p0
 unfold impl_Span_not.f at hh
 refine go (ts := [(10, some 148), (11, none)]) (rm := [.val, .val]) (pm := [.skip, .skip, .skip, .skip, .skip]) Tryz.func150 ?_
 intro Fn LW len cast toNat wrap add sub mul bin lt eq At set part app fz' rep nadd nmax ssize sext sget scat seq slt Wide Flat Ones Room r' post' hC hF hr hp
 cbv
 replace hh := bind_some hh
 obtain ⟨o1, hl1, hq1⟩ := hh
 refine loop_go4 hC eok mixed (fun n (i : (List GOcc) × (List GOcc) × Int) => impl_Span_not.l0 k (⟨p0a, p0b⟩ : GSpan) p1 p4 n i.1 i.2.1 i.2.2)
  (fun ⟨s18, s19, s20⟩ => (⟨[(1, iA p1), (2, tA (qGOcc p2)), (3, tA (qGOcc p3)), (5, .mptr (5, 0) 1 0 0), (10, .mptr (10, 0) 1 0 0), (12, tA (qGOcc s19)), (17, tA (qGOcc p4)), (18, iA (cast (len (qGOcc p4)))), (19, iA s20)], [((5, 0), .box 1 [tA (qGOcc s18), tA (qGOcc p0b)]), ((10, 0), .box 1 [.lit (.slice none 0 0), .lit (.slice none 0 0)])]⟩ : St))
  (fun (⟨x38, x39⟩ : (List GOcc) × (List GOcc)) => (⟨[(2, tA (qGOcc p2)), (3, tA (qGOcc p3)), (5, .mptr (5, 0) 1 0 0), (10, .mptr (10, 0) 1 0 0), (12, tA (qGOcc x39))], [((5, 0), .box 1 [tA (qGOcc x38), tA (qGOcc p0b)]), ((10, 0), .box 1 [.lit (.slice none 0 0), .lit (.slice none 0 0)])]⟩ : St)) (fun x => x) (.exit 0)
  (i0 := (_, _, _)) hl1 (fun _ => rfl) ?_ ?_ ?_
 ·
  rintro ⟨t0, t1, t2⟩ e
  refine cov_of [((5, 0), (5, 0)), ((10, 0), (10, 0))] ?_
  cbv
  all_goals exact J3
 ·
  rintro ⟨x38, x39⟩ hx
  subst o1
  have hh := hq1
  cbv
  replace hh := bind_some hh
  obtain ⟨x58, h57, hh⟩ := hh
  refine go_call hF (c_impl_putAll hQ h57) ?_
  cbv
  replace hh := bind_some hh
  obtain ⟨x61, h60, hh⟩ := hh
  refine go_call hF (c_impl_putAll hQ h60) ?_
  cbv
  exact Eb
 ·
  rintro n ⟨s18, s19, s20⟩ N1 D1 hh hN1 hD1 hQ1
  dsimp only at hh
  unfold impl_Span_not.l0 at hh
  cbv
  refine bcs (fun f41 => ?_) (fun f41 => ?_)
  ·
   replace hh := ifT hh f41
   try rw [f41]
   cbv
   replace hh := req_some hh
   obtain ⟨h42, hh⟩ := hh
   replace hh := bind_some hh
   obtain ⟨⟨e43a, e43b, e43c⟩, h44, hh⟩ := hh
   try dsimp only at hh
   refine ⟨[iA e43a, iA e43b, tA (qInt e43c)], Nb h42, Gb h44, ?_⟩
   cbv
   replace hh := bind_some hh
   obtain ⟨x46, h45, hh⟩ := hh
   refine go_call hF (c_impl_Span_open hQ h45) ?_
   cbv
   replace hh := bind_some hh
   obtain ⟨⟨x49_0, x49_1⟩, h48, hh⟩ := hh
   try dsimp only at hh
   refine ⟨Ob, ?_⟩
   have fc := c_impl_combine hQ h48
   try dsimp only at fc
   refine go_call hF fc ?_
   cbv
   replace hh := bind_some hh
   obtain ⟨x52, h51, hh⟩ := hh
   refine go_call hF (c_impl_putAll hQ h51) ?_
   cbv
   replace hh := bind_some hh
   obtain ⟨x55, h54, hh⟩ := hh
   refine go_call hF (FunW.frz (r' := tA (qGOcc x55)) (c_impl_without hQ h54) (by cases hQ; simp)) ?_
   cbv
   refine hN1 (_, _, _) _ hh fun ⟨t0, t1, t2⟩ e => ?_
   refine cov_of [((5, 0), (5, 0)), ((10, 0), (10, 0))] ?_
   cbv
   all_goals exact J3
  ·
   replace hh := ifF hh f41
   try rw [f41]
   cbv
   refine hD1 (_, _) _ hh fun ⟨t0, t1⟩ e => ?_
   refine cov_of [((5, 0), (5, 0)), ((10, 0), (10, 0))] ?_
   cbv
   all_goals exact J2

theorem c_impl_SpanOk {k : Nat} {p0 : GSpan} {r : Bool} (hh : impl_SpanOk.f k p0 = some r) : FunW P 203 [.agg [tA (qGOcc p0.Left), tA (qGOcc p0.Mid)]] [hA] (bA r) := by
 obtain ⟨p0a, p0b⟩ := p0
 unfold impl_SpanOk.f at hh
 refine go (ts := [(2, none)]) (rm := [.own]) (pm := [.skip]) Tryz.func203 ?_
 intro Fn LW len cast toNat wrap add sub mul bin lt eq At set part app fz' rep nadd nmax ssize sext sget scat seq slt Wide Flat Ones Room r' post' hC hF hr hp
 cbv
 replace hh := bind_some hh
 obtain ⟨x2, h1, hh⟩ := hh
 refine go_call hF (c_impl_OccsOk hQ h1) ?_
 cbv
 refine bcs (fun f5 => ?_) (fun f5 => ?_)
 ·
  replace hh := ifT hh f5
  try rw [f5]
  cbv
  replace hh := bind_some hh
  obtain ⟨x7, h6, hh⟩ := hh
  refine go_call hF (c_impl_OccsOk hQ h6) ?_
  cbv
  exact Eb
 ·
  replace hh := ifF hh f5
  try rw [f5]
  cbv
  exact Eb

theorem c_impl_spanFits {k : Nat} {p0 : Int} {p1 : GSpan} {p2 : List GOcc} {p3 : List GOcc} {p4 : List GOcc} {r : Bool} (hh : impl_spanFits.f k p0 p1 p2 p3 p4 = some r) : FunW P 182 [iA p0, .agg [tA (qGOcc p1.Left), tA (qGOcc p1.Mid)], tA (qGOcc p2), tA (qGOcc p3), tA (qGOcc p4)] [hA, hA, hA, hA, hA] (bA r) := by
 obtain ⟨p1a, p1b⟩ := p1
 unfold impl_spanFits.f at hh
 refine go (ts := [(10, none)]) (rm := [.own]) (pm := [.skip, .skip, .skip, .skip, .skip]) Tryz.func182 ?_
 intro Fn LW len cast toNat wrap add sub mul bin lt eq At set part app fz' rep nadd nmax ssize sext sget scat seq slt Wide Flat Ones Room r' post' hC hF hr hp
 cbv
 replace hh := bind_some hh
 obtain ⟨x2, h1, hh⟩ := hh
 refine go_call hF (c_impl_isMode hQ h1) ?_
 cbv
 refine bcs (fun f5 => ?_) (fun f5 => ?_)
 ·
  replace hh := ifT hh f5
  try rw [f5]
  cbv
  replace hh := bind_some hh
  obtain ⟨x7, h6, hh⟩ := hh
  refine go_call hF (c_impl_SpanOk hQ h6) ?_
  cbv
  refine bcs (fun f10 => ?_) (fun f10 => ?_)
  ·
   replace hh := ifT hh f10
   try rw [f10]
   cbv
   replace hh := bind_some hh
   obtain ⟨x12, h11, hh⟩ := hh
   refine go_call hF (c_impl_OccsOk hQ h11) ?_
   cbv
   refine bcs (fun f15 => ?_) (fun f15 => ?_)
   ·
    replace hh := ifT hh f15
    try rw [f15]
    cbv
    replace hh := bind_some hh
    obtain ⟨x17, h16, hh⟩ := hh
    refine go_call hF (c_impl_OccsOk hQ h16) ?_
    cbv
    refine bcs (fun f20 => ?_) (fun f20 => ?_)
    ·
     replace hh := ifT hh f20
     try rw [f20]
     cbv
     replace hh := bind_some hh
     obtain ⟨x22, h21, hh⟩ := hh
     refine go_call hF (c_impl_OccsOk hQ h21) ?_
     cbv
     exact Eb
    ·
     replace hh := ifF hh f20
     try rw [f20]
     cbv
     exact Eb
   ·
    replace hh := ifF hh f15
    try rw [f15]
    cbv
    exact Eb
  ·
   replace hh := ifF hh f10
   try rw [f10]
   cbv
   exact Eb
 ·
  replace hh := ifF hh f5
  try rw [f5]
  cbv
  exact Eb
theorem c_impl_spanFits_L1 {k : Nat} {p0 : Int} {p1 : GSpan} {p2 : List GOcc} {p3 : List GOcc} {p4 : List GOcc} {r : Bool} (hh : impl_spanFits.f k p0 p1 p2 p3 p4 = some r) : FunW P 182 [iA p0, .agg [oA 3 (qGOccO p1.Left), oA 3 (qGOccO p1.Mid)], tA (qGOcc p2), tA (qGOcc p3), tA (qGOcc p4)] [hA, .agg [oA 3 (qGOccO p1.Left), oA 3 (qGOccO p1.Mid)], hA, hA, hA] (bA r) := by
  cases hQ; exact (c_impl_spanFits .mk hh).lend (rfl) (.same rfl (.lend (by simp) (.same rfl (.same rfl (.same rfl .nil)))))

theorem c_impl_spanOf_impl_Span_not {k : Nat} {g4 : GSpan → Int → (List GOcc) → (List GOcc) → (List GOcc) → Option (GSpan × (List GOcc))} (hg4 : ∀ {y0 : GSpan} {y1 : Int} {y2 : List GOcc} {y3 : List GOcc} {y4 : List GOcc} {r : GSpan × (List GOcc)}, g4 y0 y1 y2 y3 y4 = some r → FunW P 150 [.agg [tA (qGOcc y0.Left), tA (qGOcc y0.Mid)], iA y1, tA (qGOcc y2), tA (qGOcc y3), tA (qGOcc y4)] [hA, hA, hA, hA, hA] (.tup [.agg [tA (qGOcc r.1.Left), tA (qGOcc r.1.Mid)], tA (qGOcc r.2)])) {p0 : Int} {p1 : List GOcc} {p2 : List GOcc} {p3 : List GOcc} {r : (List GOcc) × Bool} (hh : impl_spanOf.f g4 k p0 p1 p2 p3 = some r) : FunW P 149 [iA p0, tA (qGOcc p1), tA (qGOcc p2), tA (qGOcc p3), .clo 150 []] [hA, hA, hA, hA, hA] (.tup [oA 3 (qGOccO r.1), bA r.2]) := by
 unfold impl_spanOf.f at hh
 refine go (ts := [(10, none), (11, none)]) (rm := [.own, .own]) (pm := [.skip, .skip, .skip, .skip, .skip]) Tryz.func149 ?_
 intro Fn LW len cast toNat wrap add sub mul bin lt eq At set part app fz' rep nadd nmax ssize sext sget scat seq slt Wide Flat Ones Room r' post' hC hF hr hp
 cbv
 replace hh := bind_some hh
 obtain ⟨x2, h1, hh⟩ := hh
 refine ⟨3, ?_⟩
 cbv
 refine ⟨3, ?_⟩
 cbv
 have fc := c_impl_spanFits_L1 hQ h1
 try dsimp only at fc
 refine go_call hF fc ?_
 cbv
 replace hh := if_or hh
 rcases hh with ⟨b4, hh⟩ | ⟨b4, hh⟩
 ·
  have f5 : x2 = true := Tb b4
  have g := f5; cbv at g; try rw [f5]
  try rw [g]
  cbv
  replace hh := bind_some hh
  obtain ⟨x7, h6, hh⟩ := hh
  refine ⟨Ob, ?_⟩
  refine go_call hF (c_impl_times hQ h6) ?_
  cbv
  replace hh := bind_some hh
  obtain ⟨o1, hl1, hq1⟩ := hh
  refine loop_go4 hC eok mixed (fun n (i : (List GOcc) × (List GOcc) × (List GOcc) × Int) => impl_spanOf.l0 k g4 p0 p1 p2 p3 x7 n i.1 i.2.1 i.2.2.1 i.2.2.2)
   (fun ⟨s29, s30, s31, s32⟩ => (⟨[(0, iA p0), (1, tA (qGOcc p1)), (2, tA (qGOcc p2)), (3, tA (qGOcc p3)), (4, .clo 150 []), (12, .mptr (12, 0) 1 0 0), (13, tA (qGOcc s31)), (29, tA (qInt x7)), (30, iA (cast (len (qInt x7)))), (31, iA s32)], [((12, 0), .box 1 [tA (qGOcc s29), tA (qGOcc s30)])]⟩ : St))
   (fun (x53 : List GOcc) => (⟨[(13, tA (qGOcc x53))], []⟩ : St)) (fun x => x) (.exit 0)
   (i0 := (_, _, _, _)) hl1 (fun _ => rfl) ?_ ?_ ?_
  ·
   rintro ⟨t0, t1, t2, t3⟩ e
   refine cov_of [((12, 0), (12, 0))] ?_
   cbv
   all_goals exact J4
  ·
   rintro x53 hx
   subst o1
   have hh := hq1
   cbv
   replace hh := bind_some hh
   obtain ⟨⟨x75_0, x75_1⟩, h74, hh⟩ := hh
   try dsimp only at hh
   have fc := c_impl_few hQ h74
   try dsimp only at fc
   refine go_call hF fc ?_
   cbv
   exact Eb
  ·
   rintro n ⟨s29, s30, s31, s32⟩ N1 D1 hh hN1 hD1 hQ1
   dsimp only at hh
   unfold impl_spanOf.l0 at hh
   cbv
   refine bcs (fun f55 => ?_) (fun f55 => ?_)
   ·
    replace hh := ifT hh f55
    try rw [f55]
    cbv
    replace hh := req_some hh
    obtain ⟨h56, hh⟩ := hh
    replace hh := bind_some hh
    obtain ⟨e57, h58, hh⟩ := hh
    refine ⟨[iA e57], Nb h56, Gb h58, ?_⟩
    cbv
    replace hh := bind_some hh
    obtain ⟨x60, h59, hh⟩ := hh
    refine go_call hF (c_impl_at hQ h59) ?_
    cbv
    replace hh := bind_some hh
    obtain ⟨x63, h62, hh⟩ := hh
    refine go_call hF (c_impl_at hQ h62) ?_
    cbv
    replace hh := bind_some hh
    obtain ⟨x66, h65, hh⟩ := hh
    refine go_call hF (c_impl_at hQ h65) ?_
    cbv
    replace hh := bind_some hh
    obtain ⟨⟨⟨x69_0a, x69_0b⟩, x69_1⟩, h68, hh⟩ := hh
    try dsimp only at hh
    refine ⟨Ob, ?_⟩
    refine ⟨Ob, ?_⟩
    refine ⟨Ob, ?_⟩
    have fc := hg4 h68
    try dsimp only at fc
    refine go_call hF fc ?_
    cbv
    replace hh := bind_some hh
    obtain ⟨x72, h71, hh⟩ := hh
    refine go_call hF (c_impl_putAll hQ h71) ?_
    cbv
    refine hN1 (_, _, _, _) _ hh fun ⟨t0, t1, t2, t3⟩ e => ?_
    refine cov_of [((12, 0), (12, 0))] ?_
    cbv
    all_goals exact J4
   ·
    replace hh := ifF hh f55
    try rw [f55]
    cbv
    refine hD1 _ _ hh fun t0 e => ?_
    refine cov_of [] ?_
    cbv
    all_goals exact J1
 ·
  have f5 : x2 = false := Fb b4
  have g := f5; cbv at g; try rw [f5]
  try rw [g]
  cbv
  refine ⟨3, ?_⟩
  cbv
  exact Eb

end Go.Proofs.YtdhlbpgjcfdofaaGreat
