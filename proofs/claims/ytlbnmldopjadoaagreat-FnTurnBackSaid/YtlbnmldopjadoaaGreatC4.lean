/- The functions of this program do what the plain ones do. -/
import Derived.Test.YtlbnmldopjadoaaGreatC3
namespace Go.Proofs.YtlbnmldopjadoaaGreat
open Go Go.Vm
set_option linter.unusedVariables false
set_option maxHeartbeats 4000000
set_option maxRecDepth 4000
variable {qIu8 : List Int → Vm.Rows} {qInt : List Int → Vm.Rows} {qGExO : List GEx → Vm.Rows} {qGEx : List GEx → Vm.Rows} {qGEv : List GEv → Vm.Rows} {qGOcc : List GOcc → Vm.Rows} {qGNode : List GNode → Vm.Rows} {qLGOcc : List (List GOcc) → Vm.Rows} {qLInt : List (List Int) → Vm.Rows} {qGOccO : List GOcc → Vm.Rows} (hQ : EQ qIu8 qInt qGExO qGEx qGEv qGOcc qGNode qLGOcc qLInt qGOccO)
include hQ
theorem ng {k : Nat} {p0 : List Int} {p1 : List Int} {r : Bool} (hh : aw.f k p0 p1 = some r) : am P 3 [tA (qIu8 p0), tA (qIu8 p1)] [hA, hA] (bA r) := by
 unfold aw.f at hh
 refine go (ts := [(4, none)]) (rm := [.own]) (pm := [.skip, .skip]) Tryz.func3 ?_
 intro Fn LW IN len cast toNat wrap add sub mul bin lt eq At set part app fz' rep nadd nmax ssize sext sget scat seq slt Wide Flat Ones Room r' post' hC hF hr hp
 cbv
 refine bcs (fun f2 => ?_) (fun f2 => ?_)
 replace hh := ifT hh f2
 try rw [f2]
 cbv
 exact Eb
 replace hh := ifF hh f2
 try rw [f2]
 cbv
 refine bcs (fun f4 => ?_) (fun f4 => ?_)
 replace hh := ifT hh f4
 try rw [f4]
 cbv
 exact Eb
 replace hh := ifF hh f4
 try rw [f4]
 cbv
 replace hh := bind_some hh
 obtain ⟨⟨⟨x6_0a, x6_0b, x6_0c, x6_0d⟩, x6_1⟩, h5, hh⟩ := hh
 try dsimp only at hh
 have fc := nf hQ h5
 try dsimp only at fc
 refine ac hF fc ?_
 cbv
 replace hh := bind_some hh
 obtain ⟨x9, h8, hh⟩ := hh
 refine ac hF (mZ hQ h8) ?_
 cbv
 replace hh := bind_some hh
 obtain ⟨x12, h11, hh⟩ := hh
 refine ac hF (fh hQ h11) ?_
 cbv
 replace hh := bind_some hh
 obtain ⟨x15, h14, hh⟩ := hh
 refine ac hF (dG hQ h14) ?_
 cbv
 replace hh := ak hh
 rcases hh with ⟨b17, hh⟩ | ⟨b17, hh⟩
 have f18 : x12 = true := Tb b17
 have g := f18; cbv at g; try rw [f18]
 try rw [g]
 cbv
 replace hh := ak hh
 rcases hh with ⟨b19, hh⟩ | ⟨b19, hh⟩
 have f20 : x15 = true := Tb b19
 have g := f20; cbv at g; try rw [f20]
 try rw [g]
 cbv
 replace hh := bind_some hh
 obtain ⟨x22, h21, hh⟩ := hh
 refine ac hF (fh hQ h21) ?_
 cbv
 replace hh := bind_some hh
 obtain ⟨x25, h24, hh⟩ := hh
 refine ac hF (dG hQ h24) ?_
 cbv
 replace hh := ak hh
 rcases hh with ⟨b27, hh⟩ | ⟨b27, hh⟩
 have f28 : x22 = true := Tb b27
 have g := f28; cbv at g; try rw [f28]
 try rw [g]
 cbv
 replace hh := ak hh
 rcases hh with ⟨b29, hh⟩ | ⟨b29, hh⟩
 have f30 : x25 = true := Tb b29
 have g := f30; cbv at g; try rw [f30]
 try rw [g]
 cbv
 replace hh := bind_some hh
 obtain ⟨x32, h31, hh⟩ := hh
 refine ac hF (dG hQ h31) ?_
 cbv
 replace hh := ak hh
 rcases hh with ⟨b34, hh⟩ | ⟨b34, hh⟩
 have f35 : x32 = true := Tb b34
 have g := f35; cbv at g; try rw [f35]
 try rw [g]
 cbv
 replace hh := bind_some hh
 obtain ⟨x37, h36, hh⟩ := hh
 have fc := eU hQ h36
 try dsimp only at fc
 refine ac hF fc ?_
 cbv
 replace hh := ak hh
 rcases hh with ⟨b39, hh⟩ | ⟨b39, hh⟩
 have f40 : x37 = true := Tb b39
 have g := f40; cbv at g; try rw [f40]
 try rw [g]
 cbv
 replace hh := aa hh
 obtain ⟨h41, hh⟩ := hh
 replace hh := aa hh
 obtain ⟨h42, hh⟩ := hh
 replace hh := aa hh
 obtain ⟨h43, hh⟩ := hh
 refine ⟨⟨Nb h41, Nb h42, Wb h43⟩, ?_⟩
 replace hh := bind_some hh
 obtain ⟨o1, hl1, hq1⟩ := hh
 refine aA hC eok mixed (fun n (i : (List Int) × Int) => aw.l0 k (⟨⟨x6_0a, x6_0b, x6_0c, x6_0d⟩, x6_1⟩ : GEx × (List Int)) n i.1 i.2)
  (fun ⟨s53, s54⟩ => (⟨[(1, tA (qIu8 p1)), (5, .mptr (5, 0) 1 0 0), (6, tA (qInt x6_1)), (8, .ref (53, 0) 1 0 (len (qInt s53))), (9, iA s54)], [((5, 0), .box 1 [iA x6_0a, iA x6_0b, iA x6_0c, .ref (28, 0) 1 0 (len (qGExO x6_0d))]), ((28, 0), .arr 1 4 (qGExO x6_0d)), ((53, 0), .arr 1 1 (qInt s53))]⟩ : St))
  (fun (x64 : List Int) => (⟨[(1, tA (qIu8 p1)), (5, .mptr (5, 0) 1 0 0), (6, tA (qInt x6_1)), (8, .ref (53, 0) 1 0 (len (qInt x64)))], [((5, 0), .box 1 [iA x6_0a, iA x6_0b, iA x6_0c, .ref (28, 0) 1 0 (len (qGExO x6_0d))]), ((28, 0), .arr 1 4 (qGExO x6_0d)), ((53, 0), .arr 1 1 (qInt x64))]⟩ : St)) (fun x => x) (.exit 0)
  (i0 := (_, _)) hl1 (fun _ => rfl) ?_ ?_ ?_
 ·rintro ⟨t0, t1⟩ e
  refine aj ?_
  cbv
  all_goals exact J2
 rintro x64 hx
 subst o1
 have hh := hq1
 cbv
 replace hh := bind_some hh
 obtain ⟨⟨x75a, x75b, x75c, x75d⟩, h74, hh⟩ := hh
 try dsimp only at hh
 have fc := eZ hQ h74
 try dsimp only at fc
 refine ac hF fc ?_
 cbv
 replace hh := bind_some hh
 obtain ⟨⟨⟨x78_0a, x78_0b, x78_0c, x78_0d⟩, x78_1, x78_2⟩, h77, hh⟩ := hh
 try dsimp only at hh
 have fc := eL hQ h77
 try dsimp only at fc
 refine ac hF fc ?_
 cbv
 replace hh := bind_some hh
 obtain ⟨⟨x81_0, x81_1⟩, h80, hh⟩ := hh
 try dsimp only at hh
 have fc := b8 hQ h80
 try dsimp only at fc
 refine ac hF fc ?_
 cbv
 replace hh := bind_some hh
 obtain ⟨x84, h83, hh⟩ := hh
 refine ac hF (cC hQ h83) ?_
 cbv
 replace hh := bind_some hh
 obtain ⟨⟨x87_0, x87_1⟩, h86, hh⟩ := hh
 try dsimp only at hh
 have fc := b8 hQ h86
 try dsimp only at fc
 refine ac hF fc ?_
 cbv
 replace hh := bind_some hh
 obtain ⟨⟨x90a, x90b, x90c, x90d⟩, h89, hh⟩ := hh
 try dsimp only at hh
 have fc := ei hQ h89
 try dsimp only at fc
 refine ac hF fc ?_
 cbv
 replace hh := bind_some hh
 obtain ⟨x93, h92, hh⟩ := hh
 have fc := ez hQ h92
 try dsimp only at fc
 refine ac hF fc ?_
 cbv
 refine bcs (fun f96 => ?_) (fun f96 => ?_)
 replace hh := ifT hh f96
 try rw [f96]
 cbv
 replace hh := bind_some hh
 obtain ⟨x98, h97, hh⟩ := hh
 have fc := ck hQ h97
 try dsimp only at fc
 refine ac hF fc ?_
 cbv
 replace hh := bind_some hh
 obtain ⟨x101, h100, hh⟩ := hh
 have fc := ck hQ h100
 try dsimp only at fc
 refine ac hF fc ?_
 cbv
 refine bcs (fun f104 => ?_) (fun f104 => ?_)
 replace hh := ifT hh f104
 try rw [f104]
 cbv
 replace hh := bind_some hh
 obtain ⟨x106, h105, hh⟩ := hh
 refine ac hF (cC hQ h105) ?_
 cbv
 replace hh := bind_some hh
 obtain ⟨x109, h108, hh⟩ := hh
 refine ac hF (d4 hQ h108) ?_
 cbv
 replace hh := bind_some hh
 obtain ⟨x112, h111, hh⟩ := hh
 refine ac hF (d5 hQ h111) ?_
 cbv
 replace hh := bind_some hh
 obtain ⟨x115, h114, hh⟩ := hh
 refine ac hF (bm hQ h114) ?_
 cbv
 refine bcs (fun f118 => ?_) (fun f118 => ?_)
 replace hh := ifT hh f118
 try rw [f118]
 cbv
 replace hh := ak hh
 rcases hh with ⟨b119, hh⟩ | ⟨b119, hh⟩
 have f120 : x112 = true := Tb b119
 have g := f120; cbv at g; try rw [f120]
 try rw [g]
 cbv
 replace hh := bind_some hh
 obtain ⟨x122, h121, hh⟩ := hh
 refine ac hF (bm hQ h121) ?_
 cbv
 replace hh := ak hh
 rcases hh with ⟨b124, hh⟩ | ⟨b124, hh⟩
 have f125 : x122 = true := Tb b124
 have g := f125; cbv at g; try rw [f125]
 try rw [g]
 cbv
 replace hh := ak hh
 rcases hh with ⟨b126, hh⟩ | ⟨b126, hh⟩
 have f127 : x81_1 = true := Tb b126
 have g := f127; cbv at g; try rw [f127]
 try rw [g]
 cbv
 replace hh := ak hh
 rcases hh with ⟨b128, hh⟩ | ⟨b128, hh⟩
 have f129 : x87_1 = true := Tb b128
 have g := f129; cbv at g; try rw [f129]
 try rw [g]
 cbv
 replace hh := bind_some hh
 obtain ⟨x131, h130, hh⟩ := hh
 refine ac hF (ay hQ h130) ?_
 cbv
 exact Eb
 have f129 : x87_1 = false := Fb b128
 have g := f129; cbv at g; try rw [f129]
 try rw [g]
 cbv
 exact Eb
 have f127 : x81_1 = false := Fb b126
 have g := f127; cbv at g; try rw [f127]
 try rw [g]
 cbv
 replace hh := ak hh
 rcases hh with ⟨b133, hh⟩ | ⟨b133, hh⟩
 have f134 : x87_1 = true := Tb b133
 have g := f134; cbv at g; try rw [f134]
 try rw [g]
 cbv
 exact Eb
 have f134 : x87_1 = false := Fb b133
 have g := f134; cbv at g; try rw [f134]
 try rw [g]
 cbv
 replace hh := bind_some hh
 obtain ⟨x136, h135, hh⟩ := hh
 refine ac hF (ay hQ h135) ?_
 cbv
 exact Eb
 have f125 : x122 = false := Fb b124
 have g := f125; cbv at g; try rw [f125]
 try rw [g]
 cbv
 exact Eb
 have f120 : x112 = false := Fb b119
 have g := f120; cbv at g; try rw [f120]
 try rw [g]
 cbv
 exact Eb
 replace hh := ifF hh f118
 try rw [f118]
 cbv
 replace hh := ak hh
 rcases hh with ⟨b138, hh⟩ | ⟨b138, hh⟩
 have f139 : x112 = true := Tb b138
 have g := f139; cbv at g; try rw [f139]
 try rw [g]
 cbv
 replace hh := ak hh
 rcases hh with ⟨b140, hh⟩ | ⟨b140, hh⟩
 have f141 : (eq (cast (len (qGEv x78_2))) 0) = true := Tb b140
 have g := f141; cbv at g; try rw [f141]
 try rw [g]
 cbv
 replace hh := bind_some hh
 obtain ⟨x143, h142, hh⟩ := hh
 refine ac hF (bm hQ h142) ?_
 cbv
 replace hh := ak hh
 rcases hh with ⟨b145, hh⟩ | ⟨b145, hh⟩
 have f146 : x143 = true := Tb b145
 have g := f146; cbv at g; try rw [f146]
 try rw [g]
 cbv
 replace hh := ak hh
 rcases hh with ⟨b147, hh⟩ | ⟨b147, hh⟩
 have f148 : x81_1 = true := Tb b147
 have g := f148; cbv at g; try rw [f148]
 try rw [g]
 cbv
 replace hh := ak hh
 rcases hh with ⟨b149, hh⟩ | ⟨b149, hh⟩
 have f150 : x87_1 = true := Tb b149
 have g := f150; cbv at g; try rw [f150]
 try rw [g]
 cbv
 replace hh := bind_some hh
 obtain ⟨x152, h151, hh⟩ := hh
 refine ac hF (ay hQ h151) ?_
 cbv
 exact Eb
 have f150 : x87_1 = false := Fb b149
 have g := f150; cbv at g; try rw [f150]
 try rw [g]
 cbv
 exact Eb
 have f148 : x81_1 = false := Fb b147
 have g := f148; cbv at g; try rw [f148]
 try rw [g]
 cbv
 replace hh := ak hh
 rcases hh with ⟨b154, hh⟩ | ⟨b154, hh⟩
 have f155 : x87_1 = true := Tb b154
 have g := f155; cbv at g; try rw [f155]
 try rw [g]
 cbv
 exact Eb
 have f155 : x87_1 = false := Fb b154
 have g := f155; cbv at g; try rw [f155]
 try rw [g]
 cbv
 replace hh := bind_some hh
 obtain ⟨x157, h156, hh⟩ := hh
 refine ac hF (ay hQ h156) ?_
 cbv
 exact Eb
 have f146 : x143 = false := Fb b145
 have g := f146; cbv at g; try rw [f146]
 try rw [g]
 cbv
 exact Eb
 have f141 : (eq (cast (len (qGEv x78_2))) 0) = false := Fb b140
 have g := f141; cbv at g; try rw [f141]
 try rw [g]
 cbv
 exact Eb
 have f139 : x112 = false := Fb b138
 have g := f139; cbv at g; try rw [f139]
 try rw [g]
 cbv
 replace hh := ak hh
 rcases hh with ⟨b159, hh⟩ | ⟨b159, hh⟩
 have f160 : (eq (cast (len (qGEv x78_2))) 0) = true := Tb b159
 have g := f160; cbv at g; try rw [f160]
 try rw [g]
 cbv
 exact Eb
 have f160 : (eq (cast (len (qGEv x78_2))) 0) = false := Fb b159
 have g := f160; cbv at g; try rw [f160]
 try rw [g]
 cbv
 replace hh := bind_some hh
 obtain ⟨x162, h161, hh⟩ := hh
 refine ac hF (bm hQ h161) ?_
 cbv
 replace hh := ak hh
 rcases hh with ⟨b164, hh⟩ | ⟨b164, hh⟩
 have f165 : x162 = true := Tb b164
 have g := f165; cbv at g; try rw [f165]
 try rw [g]
 cbv
 replace hh := ak hh
 rcases hh with ⟨b166, hh⟩ | ⟨b166, hh⟩
 have f167 : x81_1 = true := Tb b166
 have g := f167; cbv at g; try rw [f167]
 try rw [g]
 cbv
 replace hh := ak hh
 rcases hh with ⟨b168, hh⟩ | ⟨b168, hh⟩
 have f169 : x87_1 = true := Tb b168
 have g := f169; cbv at g; try rw [f169]
 try rw [g]
 cbv
 replace hh := bind_some hh
 obtain ⟨x171, h170, hh⟩ := hh
 refine ac hF (ay hQ h170) ?_
 cbv
 exact Eb
 have f169 : x87_1 = false := Fb b168
 have g := f169; cbv at g; try rw [f169]
 try rw [g]
 cbv
 exact Eb
 have f167 : x81_1 = false := Fb b166
 have g := f167; cbv at g; try rw [f167]
 try rw [g]
 cbv
 replace hh := ak hh
 rcases hh with ⟨b173, hh⟩ | ⟨b173, hh⟩
 have f174 : x87_1 = true := Tb b173
 have g := f174; cbv at g; try rw [f174]
 try rw [g]
 cbv
 exact Eb
 have f174 : x87_1 = false := Fb b173
 have g := f174; cbv at g; try rw [f174]
 try rw [g]
 cbv
 replace hh := bind_some hh
 obtain ⟨x176, h175, hh⟩ := hh
 refine ac hF (ay hQ h175) ?_
 cbv
 exact Eb
 have f165 : x162 = false := Fb b164
 have g := f165; cbv at g; try rw [f165]
 try rw [g]
 cbv
 exact Eb
 replace hh := ifF hh f104
 try rw [f104]
 cbv
 exact Eb
 replace hh := ifF hh f96
 try rw [f96]
 cbv
 exact Eb
 rintro n ⟨s53, s54⟩ N1 D1 hh hN1 hD1 hQ1
 dsimp only at hh
 unfold aw.l0 at hh
 cbv
 refine bcs (fun f66 => ?_) (fun f66 => ?_)
 replace hh := ifT hh f66
 try rw [f66]
 cbv
 replace hh := aa hh
 obtain ⟨h67, hh⟩ := hh
 replace hh := bind_some hh
 obtain ⟨e68, h69, hh⟩ := hh
 refine ⟨[iA e68], Nb h67, Gb h69, ?_⟩
 cbv
 replace hh := aa hh
 obtain ⟨h70, hh⟩ := hh
 replace hh := aa hh
 obtain ⟨h71, hh⟩ := hh
 refine ⟨Nb h70, Mb h71, ?_⟩
 replace hh := bind_some hh
 obtain ⟨e72, h73, hh⟩ := hh
 refine ⟨[iA e72], Gb h73, ?_⟩
 cbv
 ·refine hN1 (_, _) _ hh fun ⟨t0, t1⟩ e => ?_
  refine aj ?_
  cbv
  all_goals exact J2
 replace hh := ifF hh f66
 try rw [f66]
 cbv
 ·refine hD1 _ _ hh fun t0 e => ?_
  refine aj ?_
  cbv
  all_goals exact J1
 have f40 : x37 = false := Fb b39
 have g := f40; cbv at g; try rw [f40]
 try rw [g]
 cbv
 exact Eb
 have f35 : x32 = false := Fb b34
 have g := f35; cbv at g; try rw [f35]
 try rw [g]
 cbv
 exact Eb
 have f30 : x25 = false := Fb b29
 have g := f30; cbv at g; try rw [f30]
 try rw [g]
 cbv
 exact Eb
 have f28 : x22 = false := Fb b27
 have g := f28; cbv at g; try rw [f28]
 try rw [g]
 cbv
 replace hh := ak hh
 rcases hh with ⟨b178, hh⟩ | ⟨b178, hh⟩
 have f179 : x25 = true := Tb b178
 have g := f179; cbv at g; try rw [f179]
 try rw [g]
 cbv
 exact Eb
 have f179 : x25 = false := Fb b178
 have g := f179; cbv at g; try rw [f179]
 try rw [g]
 cbv
 replace hh := bind_some hh
 obtain ⟨x181, h180, hh⟩ := hh
 refine ac hF (dG hQ h180) ?_
 cbv
 replace hh := ak hh
 rcases hh with ⟨b183, hh⟩ | ⟨b183, hh⟩
 have f184 : x181 = true := Tb b183
 have g := f184; cbv at g; try rw [f184]
 try rw [g]
 cbv
 replace hh := bind_some hh
 obtain ⟨x186, h185, hh⟩ := hh
 have fc := eU hQ h185
 try dsimp only at fc
 refine ac hF fc ?_
 cbv
 replace hh := ak hh
 rcases hh with ⟨b188, hh⟩ | ⟨b188, hh⟩
 have f189 : x186 = true := Tb b188
 have g := f189; cbv at g; try rw [f189]
 try rw [g]
 cbv
 replace hh := aa hh
 obtain ⟨h190, hh⟩ := hh
 replace hh := aa hh
 obtain ⟨h191, hh⟩ := hh
 replace hh := aa hh
 obtain ⟨h192, hh⟩ := hh
 refine ⟨⟨Nb h190, Nb h191, Wb h192⟩, ?_⟩
 replace hh := bind_some hh
 obtain ⟨o1, hl1, hq1⟩ := hh
 refine aA hC eok mixed (fun n (i : (List Int) × Int) => aw.l1 k (⟨⟨x6_0a, x6_0b, x6_0c, x6_0d⟩, x6_1⟩ : GEx × (List Int)) n i.1 i.2)
  (fun ⟨s202, s203⟩ => (⟨[(1, tA (qIu8 p1)), (5, .mptr (5, 0) 1 0 0), (6, tA (qInt x6_1)), (8, .ref (53, 0) 1 0 (len (qInt s202))), (9, iA s203)], [((5, 0), .box 1 [iA x6_0a, iA x6_0b, iA x6_0c, .ref (28, 0) 1 0 (len (qGExO x6_0d))]), ((28, 0), .arr 1 4 (qGExO x6_0d)), ((53, 0), .arr 1 1 (qInt s202))]⟩ : St))
  (fun (x213 : List Int) => (⟨[(1, tA (qIu8 p1)), (5, .mptr (5, 0) 1 0 0), (6, tA (qInt x6_1)), (8, .ref (53, 0) 1 0 (len (qInt x213)))], [((5, 0), .box 1 [iA x6_0a, iA x6_0b, iA x6_0c, .ref (28, 0) 1 0 (len (qGExO x6_0d))]), ((28, 0), .arr 1 4 (qGExO x6_0d)), ((53, 0), .arr 1 1 (qInt x213))]⟩ : St)) (fun x => x) (.exit 0)
  (i0 := (_, _)) hl1 (fun _ => rfl) ?_ ?_ ?_
 ·rintro ⟨t0, t1⟩ e
  refine aj ?_
  cbv
  all_goals exact J2
 rintro x213 hx
 subst o1
 have hh := hq1
 cbv
 replace hh := bind_some hh
 obtain ⟨⟨x224a, x224b, x224c, x224d⟩, h223, hh⟩ := hh
 try dsimp only at hh
 have fc := eZ hQ h223
 try dsimp only at fc
 refine ac hF fc ?_
 cbv
 replace hh := bind_some hh
 obtain ⟨⟨⟨x227_0a, x227_0b, x227_0c, x227_0d⟩, x227_1, x227_2⟩, h226, hh⟩ := hh
 try dsimp only at hh
 have fc := eL hQ h226
 try dsimp only at fc
 refine ac hF fc ?_
 cbv
 replace hh := bind_some hh
 obtain ⟨⟨x230_0, x230_1⟩, h229, hh⟩ := hh
 try dsimp only at hh
 have fc := b8 hQ h229
 try dsimp only at fc
 refine ac hF fc ?_
 cbv
 replace hh := bind_some hh
 obtain ⟨x233, h232, hh⟩ := hh
 refine ac hF (cC hQ h232) ?_
 cbv
 replace hh := bind_some hh
 obtain ⟨⟨x236_0, x236_1⟩, h235, hh⟩ := hh
 try dsimp only at hh
 have fc := b8 hQ h235
 try dsimp only at fc
 refine ac hF fc ?_
 cbv
 replace hh := bind_some hh
 obtain ⟨⟨x239a, x239b, x239c, x239d⟩, h238, hh⟩ := hh
 try dsimp only at hh
 have fc := ei hQ h238
 try dsimp only at fc
 refine ac hF fc ?_
 cbv
 replace hh := bind_some hh
 obtain ⟨x242, h241, hh⟩ := hh
 have fc := ez hQ h241
 try dsimp only at fc
 refine ac hF fc ?_
 cbv
 refine bcs (fun f245 => ?_) (fun f245 => ?_)
 replace hh := ifT hh f245
 try rw [f245]
 cbv
 replace hh := bind_some hh
 obtain ⟨x247, h246, hh⟩ := hh
 have fc := ck hQ h246
 try dsimp only at fc
 refine ac hF fc ?_
 cbv
 replace hh := bind_some hh
 obtain ⟨x250, h249, hh⟩ := hh
 have fc := ck hQ h249
 try dsimp only at fc
 refine ac hF fc ?_
 cbv
 refine bcs (fun f253 => ?_) (fun f253 => ?_)
 replace hh := ifT hh f253
 try rw [f253]
 cbv
 replace hh := bind_some hh
 obtain ⟨x255, h254, hh⟩ := hh
 refine ac hF (cC hQ h254) ?_
 cbv
 replace hh := bind_some hh
 obtain ⟨x258, h257, hh⟩ := hh
 refine ac hF (d4 hQ h257) ?_
 cbv
 replace hh := bind_some hh
 obtain ⟨x261, h260, hh⟩ := hh
 refine ac hF (d5 hQ h260) ?_
 cbv
 replace hh := bind_some hh
 obtain ⟨x264, h263, hh⟩ := hh
 refine ac hF (bm hQ h263) ?_
 cbv
 refine bcs (fun f267 => ?_) (fun f267 => ?_)
 replace hh := ifT hh f267
 try rw [f267]
 cbv
 replace hh := ak hh
 rcases hh with ⟨b268, hh⟩ | ⟨b268, hh⟩
 have f269 : x261 = true := Tb b268
 have g := f269; cbv at g; try rw [f269]
 try rw [g]
 cbv
 replace hh := bind_some hh
 obtain ⟨x271, h270, hh⟩ := hh
 refine ac hF (bm hQ h270) ?_
 cbv
 replace hh := ak hh
 rcases hh with ⟨b273, hh⟩ | ⟨b273, hh⟩
 have f274 : x271 = true := Tb b273
 have g := f274; cbv at g; try rw [f274]
 try rw [g]
 cbv
 replace hh := ak hh
 rcases hh with ⟨b275, hh⟩ | ⟨b275, hh⟩
 have f276 : x230_1 = true := Tb b275
 have g := f276; cbv at g; try rw [f276]
 try rw [g]
 cbv
 replace hh := ak hh
 rcases hh with ⟨b277, hh⟩ | ⟨b277, hh⟩
 have f278 : x236_1 = true := Tb b277
 have g := f278; cbv at g; try rw [f278]
 try rw [g]
 cbv
 replace hh := bind_some hh
 obtain ⟨x280, h279, hh⟩ := hh
 refine ac hF (ay hQ h279) ?_
 cbv
 exact Eb
 have f278 : x236_1 = false := Fb b277
 have g := f278; cbv at g; try rw [f278]
 try rw [g]
 cbv
 exact Eb
 have f276 : x230_1 = false := Fb b275
 have g := f276; cbv at g; try rw [f276]
 try rw [g]
 cbv
 replace hh := ak hh
 rcases hh with ⟨b282, hh⟩ | ⟨b282, hh⟩
 have f283 : x236_1 = true := Tb b282
 have g := f283; cbv at g; try rw [f283]
 try rw [g]
 cbv
 exact Eb
 have f283 : x236_1 = false := Fb b282
 have g := f283; cbv at g; try rw [f283]
 try rw [g]
 cbv
 replace hh := bind_some hh
 obtain ⟨x285, h284, hh⟩ := hh
 refine ac hF (ay hQ h284) ?_
 cbv
 exact Eb
 have f274 : x271 = false := Fb b273
 have g := f274; cbv at g; try rw [f274]
 try rw [g]
 cbv
 exact Eb
 have f269 : x261 = false := Fb b268
 have g := f269; cbv at g; try rw [f269]
 try rw [g]
 cbv
 exact Eb
 replace hh := ifF hh f267
 try rw [f267]
 cbv
 replace hh := ak hh
 rcases hh with ⟨b287, hh⟩ | ⟨b287, hh⟩
 have f288 : x261 = true := Tb b287
 have g := f288; cbv at g; try rw [f288]
 try rw [g]
 cbv
 replace hh := ak hh
 rcases hh with ⟨b289, hh⟩ | ⟨b289, hh⟩
 have f290 : (eq (cast (len (qGEv x227_2))) 0) = true := Tb b289
 have g := f290; cbv at g; try rw [f290]
 try rw [g]
 cbv
 replace hh := bind_some hh
 obtain ⟨x292, h291, hh⟩ := hh
 refine ac hF (bm hQ h291) ?_
 cbv
 replace hh := ak hh
 rcases hh with ⟨b294, hh⟩ | ⟨b294, hh⟩
 have f295 : x292 = true := Tb b294
 have g := f295; cbv at g; try rw [f295]
 try rw [g]
 cbv
 replace hh := ak hh
 rcases hh with ⟨b296, hh⟩ | ⟨b296, hh⟩
 have f297 : x230_1 = true := Tb b296
 have g := f297; cbv at g; try rw [f297]
 try rw [g]
 cbv
 replace hh := ak hh
 rcases hh with ⟨b298, hh⟩ | ⟨b298, hh⟩
 have f299 : x236_1 = true := Tb b298
 have g := f299; cbv at g; try rw [f299]
 try rw [g]
 cbv
 replace hh := bind_some hh
 obtain ⟨x301, h300, hh⟩ := hh
 refine ac hF (ay hQ h300) ?_
 cbv
 exact Eb
 have f299 : x236_1 = false := Fb b298
 have g := f299; cbv at g; try rw [f299]
 try rw [g]
 cbv
 exact Eb
 have f297 : x230_1 = false := Fb b296
 have g := f297; cbv at g; try rw [f297]
 try rw [g]
 cbv
 replace hh := ak hh
 rcases hh with ⟨b303, hh⟩ | ⟨b303, hh⟩
 have f304 : x236_1 = true := Tb b303
 have g := f304; cbv at g; try rw [f304]
 try rw [g]
 cbv
 exact Eb
 have f304 : x236_1 = false := Fb b303
 have g := f304; cbv at g; try rw [f304]
 try rw [g]
 cbv
 replace hh := bind_some hh
 obtain ⟨x306, h305, hh⟩ := hh
 refine ac hF (ay hQ h305) ?_
 cbv
 exact Eb
 have f295 : x292 = false := Fb b294
 have g := f295; cbv at g; try rw [f295]
 try rw [g]
 cbv
 exact Eb
 have f290 : (eq (cast (len (qGEv x227_2))) 0) = false := Fb b289
 have g := f290; cbv at g; try rw [f290]
 try rw [g]
 cbv
 exact Eb
 have f288 : x261 = false := Fb b287
 have g := f288; cbv at g; try rw [f288]
 try rw [g]
 cbv
 replace hh := ak hh
 rcases hh with ⟨b308, hh⟩ | ⟨b308, hh⟩
 have f309 : (eq (cast (len (qGEv x227_2))) 0) = true := Tb b308
 have g := f309; cbv at g; try rw [f309]
 try rw [g]
 cbv
 exact Eb
 have f309 : (eq (cast (len (qGEv x227_2))) 0) = false := Fb b308
 have g := f309; cbv at g; try rw [f309]
 try rw [g]
 cbv
 replace hh := bind_some hh
 obtain ⟨x311, h310, hh⟩ := hh
 refine ac hF (bm hQ h310) ?_
 cbv
 replace hh := ak hh
 rcases hh with ⟨b313, hh⟩ | ⟨b313, hh⟩
 have f314 : x311 = true := Tb b313
 have g := f314; cbv at g; try rw [f314]
 try rw [g]
 cbv
 replace hh := ak hh
 rcases hh with ⟨b315, hh⟩ | ⟨b315, hh⟩
 have f316 : x230_1 = true := Tb b315
 have g := f316; cbv at g; try rw [f316]
 try rw [g]
 cbv
 replace hh := ak hh
 rcases hh with ⟨b317, hh⟩ | ⟨b317, hh⟩
 have f318 : x236_1 = true := Tb b317
 have g := f318; cbv at g; try rw [f318]
 try rw [g]
 cbv
 replace hh := bind_some hh
 obtain ⟨x320, h319, hh⟩ := hh
 refine ac hF (ay hQ h319) ?_
 cbv
 exact Eb
 have f318 : x236_1 = false := Fb b317
 have g := f318; cbv at g; try rw [f318]
 try rw [g]
 cbv
 exact Eb
 have f316 : x230_1 = false := Fb b315
 have g := f316; cbv at g; try rw [f316]
 try rw [g]
 cbv
 replace hh := ak hh
 rcases hh with ⟨b322, hh⟩ | ⟨b322, hh⟩
 have f323 : x236_1 = true := Tb b322
 have g := f323; cbv at g; try rw [f323]
 try rw [g]
 cbv
 exact Eb
 have f323 : x236_1 = false := Fb b322
 have g := f323; cbv at g; try rw [f323]
 try rw [g]
 cbv
 replace hh := bind_some hh
 obtain ⟨x325, h324, hh⟩ := hh
 refine ac hF (ay hQ h324) ?_
 cbv
 exact Eb
 have f314 : x311 = false := Fb b313
 have g := f314; cbv at g; try rw [f314]
 try rw [g]
 cbv
 exact Eb
 replace hh := ifF hh f253
 try rw [f253]
 cbv
 exact Eb
 replace hh := ifF hh f245
 try rw [f245]
 cbv
 exact Eb
 rintro n ⟨s202, s203⟩ N1 D1 hh hN1 hD1 hQ1
 dsimp only at hh
 unfold aw.l1 at hh
 cbv
 refine bcs (fun f215 => ?_) (fun f215 => ?_)
 replace hh := ifT hh f215
 try rw [f215]
 cbv
 replace hh := aa hh
 obtain ⟨h216, hh⟩ := hh
 replace hh := bind_some hh
 obtain ⟨e217, h218, hh⟩ := hh
 refine ⟨[iA e217], Nb h216, Gb h218, ?_⟩
 cbv
 replace hh := aa hh
 obtain ⟨h219, hh⟩ := hh
 replace hh := aa hh
 obtain ⟨h220, hh⟩ := hh
 refine ⟨Nb h219, Mb h220, ?_⟩
 replace hh := bind_some hh
 obtain ⟨e221, h222, hh⟩ := hh
 refine ⟨[iA e221], Gb h222, ?_⟩
 cbv
 ·refine hN1 (_, _) _ hh fun ⟨t0, t1⟩ e => ?_
  refine aj ?_
  cbv
  all_goals exact J2
 replace hh := ifF hh f215
 try rw [f215]
 cbv
 ·refine hD1 _ _ hh fun t0 e => ?_
  refine aj ?_
  cbv
  all_goals exact J1
 have f189 : x186 = false := Fb b188
 have g := f189; cbv at g; try rw [f189]
 try rw [g]
 cbv
 exact Eb
 have f184 : x181 = false := Fb b183
 have g := f184; cbv at g; try rw [f184]
 try rw [g]
 cbv
 exact Eb
 have f20 : x15 = false := Fb b19
 have g := f20; cbv at g; try rw [f20]
 try rw [g]
 cbv
 exact Eb
 have f18 : x12 = false := Fb b17
 have g := f18; cbv at g; try rw [f18]
 try rw [g]
 cbv
 replace hh := ak hh
 rcases hh with ⟨b327, hh⟩ | ⟨b327, hh⟩
 have f328 : x15 = true := Tb b327
 have g := f328; cbv at g; try rw [f328]
 try rw [g]
 cbv
 exact Eb
 have f328 : x15 = false := Fb b327
 have g := f328; cbv at g; try rw [f328]
 try rw [g]
 cbv
 replace hh := bind_some hh
 obtain ⟨x330, h329, hh⟩ := hh
 refine ac hF (fh hQ h329) ?_
 cbv
 replace hh := bind_some hh
 obtain ⟨x333, h332, hh⟩ := hh
 refine ac hF (dG hQ h332) ?_
 cbv
 replace hh := ak hh
 rcases hh with ⟨b335, hh⟩ | ⟨b335, hh⟩
 have f336 : x330 = true := Tb b335
 have g := f336; cbv at g; try rw [f336]
 try rw [g]
 cbv
 replace hh := ak hh
 rcases hh with ⟨b337, hh⟩ | ⟨b337, hh⟩
 have f338 : x333 = true := Tb b337
 have g := f338; cbv at g; try rw [f338]
 try rw [g]
 cbv
 replace hh := bind_some hh
 obtain ⟨x340, h339, hh⟩ := hh
 refine ac hF (dG hQ h339) ?_
 cbv
 replace hh := ak hh
 rcases hh with ⟨b342, hh⟩ | ⟨b342, hh⟩
 have f343 : x340 = true := Tb b342
 have g := f343; cbv at g; try rw [f343]
 try rw [g]
 cbv
 replace hh := bind_some hh
 obtain ⟨x345, h344, hh⟩ := hh
 have fc := eU hQ h344
 try dsimp only at fc
 refine ac hF fc ?_
 cbv
 replace hh := ak hh
 rcases hh with ⟨b347, hh⟩ | ⟨b347, hh⟩
 have f348 : x345 = true := Tb b347
 have g := f348; cbv at g; try rw [f348]
 try rw [g]
 cbv
 replace hh := aa hh
 obtain ⟨h349, hh⟩ := hh
 replace hh := aa hh
 obtain ⟨h350, hh⟩ := hh
 replace hh := aa hh
 obtain ⟨h351, hh⟩ := hh
 refine ⟨⟨Nb h349, Nb h350, Wb h351⟩, ?_⟩
 replace hh := bind_some hh
 obtain ⟨o1, hl1, hq1⟩ := hh
 refine aA hC eok mixed (fun n (i : (List Int) × Int) => aw.l2 k (⟨⟨x6_0a, x6_0b, x6_0c, x6_0d⟩, x6_1⟩ : GEx × (List Int)) n i.1 i.2)
  (fun ⟨s361, s362⟩ => (⟨[(1, tA (qIu8 p1)), (5, .mptr (5, 0) 1 0 0), (6, tA (qInt x6_1)), (8, .ref (53, 0) 1 0 (len (qInt s361))), (9, iA s362)], [((5, 0), .box 1 [iA x6_0a, iA x6_0b, iA x6_0c, .ref (28, 0) 1 0 (len (qGExO x6_0d))]), ((28, 0), .arr 1 4 (qGExO x6_0d)), ((53, 0), .arr 1 1 (qInt s361))]⟩ : St))
  (fun (x372 : List Int) => (⟨[(1, tA (qIu8 p1)), (5, .mptr (5, 0) 1 0 0), (6, tA (qInt x6_1)), (8, .ref (53, 0) 1 0 (len (qInt x372)))], [((5, 0), .box 1 [iA x6_0a, iA x6_0b, iA x6_0c, .ref (28, 0) 1 0 (len (qGExO x6_0d))]), ((28, 0), .arr 1 4 (qGExO x6_0d)), ((53, 0), .arr 1 1 (qInt x372))]⟩ : St)) (fun x => x) (.exit 0)
  (i0 := (_, _)) hl1 (fun _ => rfl) ?_ ?_ ?_
 ·rintro ⟨t0, t1⟩ e
  refine aj ?_
  cbv
  all_goals exact J2
 rintro x372 hx
 subst o1
 have hh := hq1
 cbv
 replace hh := bind_some hh
 obtain ⟨⟨x383a, x383b, x383c, x383d⟩, h382, hh⟩ := hh
 try dsimp only at hh
 have fc := eZ hQ h382
 try dsimp only at fc
 refine ac hF fc ?_
 cbv
 replace hh := bind_some hh
 obtain ⟨⟨⟨x386_0a, x386_0b, x386_0c, x386_0d⟩, x386_1, x386_2⟩, h385, hh⟩ := hh
 try dsimp only at hh
 have fc := eL hQ h385
 try dsimp only at fc
 refine ac hF fc ?_
 cbv
 replace hh := bind_some hh
 obtain ⟨⟨x389_0, x389_1⟩, h388, hh⟩ := hh
 try dsimp only at hh
 have fc := b8 hQ h388
 try dsimp only at fc
 refine ac hF fc ?_
 cbv
 replace hh := bind_some hh
 obtain ⟨x392, h391, hh⟩ := hh
 refine ac hF (cC hQ h391) ?_
 cbv
 replace hh := bind_some hh
 obtain ⟨⟨x395_0, x395_1⟩, h394, hh⟩ := hh
 try dsimp only at hh
 have fc := b8 hQ h394
 try dsimp only at fc
 refine ac hF fc ?_
 cbv
 replace hh := bind_some hh
 obtain ⟨⟨x398a, x398b, x398c, x398d⟩, h397, hh⟩ := hh
 try dsimp only at hh
 have fc := ei hQ h397
 try dsimp only at fc
 refine ac hF fc ?_
 cbv
 replace hh := bind_some hh
 obtain ⟨x401, h400, hh⟩ := hh
 have fc := ez hQ h400
 try dsimp only at fc
 refine ac hF fc ?_
 cbv
 refine bcs (fun f404 => ?_) (fun f404 => ?_)
 replace hh := ifT hh f404
 try rw [f404]
 cbv
 replace hh := bind_some hh
 obtain ⟨x406, h405, hh⟩ := hh
 have fc := ck hQ h405
 try dsimp only at fc
 refine ac hF fc ?_
 cbv
 replace hh := bind_some hh
 obtain ⟨x409, h408, hh⟩ := hh
 have fc := ck hQ h408
 try dsimp only at fc
 refine ac hF fc ?_
 cbv
 refine bcs (fun f412 => ?_) (fun f412 => ?_)
 replace hh := ifT hh f412
 try rw [f412]
 cbv
 replace hh := bind_some hh
 obtain ⟨x414, h413, hh⟩ := hh
 refine ac hF (cC hQ h413) ?_
 cbv
 replace hh := bind_some hh
 obtain ⟨x417, h416, hh⟩ := hh
 refine ac hF (d4 hQ h416) ?_
 cbv
 replace hh := bind_some hh
 obtain ⟨x420, h419, hh⟩ := hh
 refine ac hF (d5 hQ h419) ?_
 cbv
 replace hh := bind_some hh
 obtain ⟨x423, h422, hh⟩ := hh
 refine ac hF (bm hQ h422) ?_
 cbv
 refine bcs (fun f426 => ?_) (fun f426 => ?_)
 replace hh := ifT hh f426
 try rw [f426]
 cbv
 replace hh := ak hh
 rcases hh with ⟨b427, hh⟩ | ⟨b427, hh⟩
 have f428 : x420 = true := Tb b427
 have g := f428; cbv at g; try rw [f428]
 try rw [g]
 cbv
 replace hh := bind_some hh
 obtain ⟨x430, h429, hh⟩ := hh
 refine ac hF (bm hQ h429) ?_
 cbv
 replace hh := ak hh
 rcases hh with ⟨b432, hh⟩ | ⟨b432, hh⟩
 have f433 : x430 = true := Tb b432
 have g := f433; cbv at g; try rw [f433]
 try rw [g]
 cbv
 replace hh := ak hh
 rcases hh with ⟨b434, hh⟩ | ⟨b434, hh⟩
 have f435 : x389_1 = true := Tb b434
 have g := f435; cbv at g; try rw [f435]
 try rw [g]
 cbv
 replace hh := ak hh
 rcases hh with ⟨b436, hh⟩ | ⟨b436, hh⟩
 have f437 : x395_1 = true := Tb b436
 have g := f437; cbv at g; try rw [f437]
 try rw [g]
 cbv
 replace hh := bind_some hh
 obtain ⟨x439, h438, hh⟩ := hh
 refine ac hF (ay hQ h438) ?_
 cbv
 exact Eb
 have f437 : x395_1 = false := Fb b436
 have g := f437; cbv at g; try rw [f437]
 try rw [g]
 cbv
 exact Eb
 have f435 : x389_1 = false := Fb b434
 have g := f435; cbv at g; try rw [f435]
 try rw [g]
 cbv
 replace hh := ak hh
 rcases hh with ⟨b441, hh⟩ | ⟨b441, hh⟩
 have f442 : x395_1 = true := Tb b441
 have g := f442; cbv at g; try rw [f442]
 try rw [g]
 cbv
 exact Eb
 have f442 : x395_1 = false := Fb b441
 have g := f442; cbv at g; try rw [f442]
 try rw [g]
 cbv
 replace hh := bind_some hh
 obtain ⟨x444, h443, hh⟩ := hh
 refine ac hF (ay hQ h443) ?_
 cbv
 exact Eb
 have f433 : x430 = false := Fb b432
 have g := f433; cbv at g; try rw [f433]
 try rw [g]
 cbv
 exact Eb
 have f428 : x420 = false := Fb b427
 have g := f428; cbv at g; try rw [f428]
 try rw [g]
 cbv
 exact Eb
 replace hh := ifF hh f426
 try rw [f426]
 cbv
 replace hh := ak hh
 rcases hh with ⟨b446, hh⟩ | ⟨b446, hh⟩
 have f447 : x420 = true := Tb b446
 have g := f447; cbv at g; try rw [f447]
 try rw [g]
 cbv
 replace hh := ak hh
 rcases hh with ⟨b448, hh⟩ | ⟨b448, hh⟩
 have f449 : (eq (cast (len (qGEv x386_2))) 0) = true := Tb b448
 have g := f449; cbv at g; try rw [f449]
 try rw [g]
 cbv
 replace hh := bind_some hh
 obtain ⟨x451, h450, hh⟩ := hh
 refine ac hF (bm hQ h450) ?_
 cbv
 replace hh := ak hh
 rcases hh with ⟨b453, hh⟩ | ⟨b453, hh⟩
 have f454 : x451 = true := Tb b453
 have g := f454; cbv at g; try rw [f454]
 try rw [g]
 cbv
 replace hh := ak hh
 rcases hh with ⟨b455, hh⟩ | ⟨b455, hh⟩
 have f456 : x389_1 = true := Tb b455
 have g := f456; cbv at g; try rw [f456]
 try rw [g]
 cbv
 replace hh := ak hh
 rcases hh with ⟨b457, hh⟩ | ⟨b457, hh⟩
 have f458 : x395_1 = true := Tb b457
 have g := f458; cbv at g; try rw [f458]
 try rw [g]
 cbv
 replace hh := bind_some hh
 obtain ⟨x460, h459, hh⟩ := hh
 refine ac hF (ay hQ h459) ?_
 cbv
 exact Eb
 have f458 : x395_1 = false := Fb b457
 have g := f458; cbv at g; try rw [f458]
 try rw [g]
 cbv
 exact Eb
 have f456 : x389_1 = false := Fb b455
 have g := f456; cbv at g; try rw [f456]
 try rw [g]
 cbv
 replace hh := ak hh
 rcases hh with ⟨b462, hh⟩ | ⟨b462, hh⟩
 have f463 : x395_1 = true := Tb b462
 have g := f463; cbv at g; try rw [f463]
 try rw [g]
 cbv
 exact Eb
 have f463 : x395_1 = false := Fb b462
 have g := f463; cbv at g; try rw [f463]
 try rw [g]
 cbv
 replace hh := bind_some hh
 obtain ⟨x465, h464, hh⟩ := hh
 refine ac hF (ay hQ h464) ?_
 cbv
 exact Eb
 have f454 : x451 = false := Fb b453
 have g := f454; cbv at g; try rw [f454]
 try rw [g]
 cbv
 exact Eb
 have f449 : (eq (cast (len (qGEv x386_2))) 0) = false := Fb b448
 have g := f449; cbv at g; try rw [f449]
 try rw [g]
 cbv
 exact Eb
 have f447 : x420 = false := Fb b446
 have g := f447; cbv at g; try rw [f447]
 try rw [g]
 cbv
 replace hh := ak hh
 rcases hh with ⟨b467, hh⟩ | ⟨b467, hh⟩
 have f468 : (eq (cast (len (qGEv x386_2))) 0) = true := Tb b467
 have g := f468; cbv at g; try rw [f468]
 try rw [g]
 cbv
 exact Eb
 have f468 : (eq (cast (len (qGEv x386_2))) 0) = false := Fb b467
 have g := f468; cbv at g; try rw [f468]
 try rw [g]
 cbv
 replace hh := bind_some hh
 obtain ⟨x470, h469, hh⟩ := hh
 refine ac hF (bm hQ h469) ?_
 cbv
 replace hh := ak hh
 rcases hh with ⟨b472, hh⟩ | ⟨b472, hh⟩
 have f473 : x470 = true := Tb b472
 have g := f473; cbv at g; try rw [f473]
 try rw [g]
 cbv
 replace hh := ak hh
 rcases hh with ⟨b474, hh⟩ | ⟨b474, hh⟩
 have f475 : x389_1 = true := Tb b474
 have g := f475; cbv at g; try rw [f475]
 try rw [g]
 cbv
 replace hh := ak hh
 rcases hh with ⟨b476, hh⟩ | ⟨b476, hh⟩
 have f477 : x395_1 = true := Tb b476
 have g := f477; cbv at g; try rw [f477]
 try rw [g]
 cbv
 replace hh := bind_some hh
 obtain ⟨x479, h478, hh⟩ := hh
 refine ac hF (ay hQ h478) ?_
 cbv
 exact Eb
 have f477 : x395_1 = false := Fb b476
 have g := f477; cbv at g; try rw [f477]
 try rw [g]
 cbv
 exact Eb
 have f475 : x389_1 = false := Fb b474
 have g := f475; cbv at g; try rw [f475]
 try rw [g]
 cbv
 replace hh := ak hh
 rcases hh with ⟨b481, hh⟩ | ⟨b481, hh⟩
 have f482 : x395_1 = true := Tb b481
 have g := f482; cbv at g; try rw [f482]
 try rw [g]
 cbv
 exact Eb
 have f482 : x395_1 = false := Fb b481
 have g := f482; cbv at g; try rw [f482]
 try rw [g]
 cbv
 replace hh := bind_some hh
 obtain ⟨x484, h483, hh⟩ := hh
 refine ac hF (ay hQ h483) ?_
 cbv
 exact Eb
 have f473 : x470 = false := Fb b472
 have g := f473; cbv at g; try rw [f473]
 try rw [g]
 cbv
 exact Eb
 replace hh := ifF hh f412
 try rw [f412]
 cbv
 exact Eb
 replace hh := ifF hh f404
 try rw [f404]
 cbv
 exact Eb
 rintro n ⟨s361, s362⟩ N1 D1 hh hN1 hD1 hQ1
 dsimp only at hh
 unfold aw.l2 at hh
 cbv
 refine bcs (fun f374 => ?_) (fun f374 => ?_)
 replace hh := ifT hh f374
 try rw [f374]
 cbv
 replace hh := aa hh
 obtain ⟨h375, hh⟩ := hh
 replace hh := bind_some hh
 obtain ⟨e376, h377, hh⟩ := hh
 refine ⟨[iA e376], Nb h375, Gb h377, ?_⟩
 cbv
 replace hh := aa hh
 obtain ⟨h378, hh⟩ := hh
 replace hh := aa hh
 obtain ⟨h379, hh⟩ := hh
 refine ⟨Nb h378, Mb h379, ?_⟩
 replace hh := bind_some hh
 obtain ⟨e380, h381, hh⟩ := hh
 refine ⟨[iA e380], Gb h381, ?_⟩
 cbv
 ·refine hN1 (_, _) _ hh fun ⟨t0, t1⟩ e => ?_
  refine aj ?_
  cbv
  all_goals exact J2
 replace hh := ifF hh f374
 try rw [f374]
 cbv
 ·refine hD1 _ _ hh fun t0 e => ?_
  refine aj ?_
  cbv
  all_goals exact J1
 have f348 : x345 = false := Fb b347
 have g := f348; cbv at g; try rw [f348]
 try rw [g]
 cbv
 exact Eb
 have f343 : x340 = false := Fb b342
 have g := f343; cbv at g; try rw [f343]
 try rw [g]
 cbv
 exact Eb
 have f338 : x333 = false := Fb b337
 have g := f338; cbv at g; try rw [f338]
 try rw [g]
 cbv
 exact Eb
 have f336 : x330 = false := Fb b335
 have g := f336; cbv at g; try rw [f336]
 try rw [g]
 cbv
 replace hh := ak hh
 rcases hh with ⟨b486, hh⟩ | ⟨b486, hh⟩
 have f487 : x333 = true := Tb b486
 have g := f487; cbv at g; try rw [f487]
 try rw [g]
 cbv
 exact Eb
 have f487 : x333 = false := Fb b486
 have g := f487; cbv at g; try rw [f487]
 try rw [g]
 cbv
 replace hh := bind_some hh
 obtain ⟨x489, h488, hh⟩ := hh
 refine ac hF (dG hQ h488) ?_
 cbv
 replace hh := ak hh
 rcases hh with ⟨b491, hh⟩ | ⟨b491, hh⟩
 have f492 : x489 = true := Tb b491
 have g := f492; cbv at g; try rw [f492]
 try rw [g]
 cbv
 replace hh := bind_some hh
 obtain ⟨x494, h493, hh⟩ := hh
 have fc := eU hQ h493
 try dsimp only at fc
 refine ac hF fc ?_
 cbv
 replace hh := ak hh
 rcases hh with ⟨b496, hh⟩ | ⟨b496, hh⟩
 have f497 : x494 = true := Tb b496
 have g := f497; cbv at g; try rw [f497]
 try rw [g]
 cbv
 replace hh := aa hh
 obtain ⟨h498, hh⟩ := hh
 replace hh := aa hh
 obtain ⟨h499, hh⟩ := hh
 replace hh := aa hh
 obtain ⟨h500, hh⟩ := hh
 refine ⟨⟨Nb h498, Nb h499, Wb h500⟩, ?_⟩
 replace hh := bind_some hh
 obtain ⟨o1, hl1, hq1⟩ := hh
 refine aA hC eok mixed (fun n (i : (List Int) × Int) => aw.l3 k (⟨⟨x6_0a, x6_0b, x6_0c, x6_0d⟩, x6_1⟩ : GEx × (List Int)) n i.1 i.2)
  (fun ⟨s510, s511⟩ => (⟨[(1, tA (qIu8 p1)), (5, .mptr (5, 0) 1 0 0), (6, tA (qInt x6_1)), (8, .ref (53, 0) 1 0 (len (qInt s510))), (9, iA s511)], [((5, 0), .box 1 [iA x6_0a, iA x6_0b, iA x6_0c, .ref (28, 0) 1 0 (len (qGExO x6_0d))]), ((28, 0), .arr 1 4 (qGExO x6_0d)), ((53, 0), .arr 1 1 (qInt s510))]⟩ : St))
  (fun (x521 : List Int) => (⟨[(1, tA (qIu8 p1)), (5, .mptr (5, 0) 1 0 0), (6, tA (qInt x6_1)), (8, .ref (53, 0) 1 0 (len (qInt x521)))], [((5, 0), .box 1 [iA x6_0a, iA x6_0b, iA x6_0c, .ref (28, 0) 1 0 (len (qGExO x6_0d))]), ((28, 0), .arr 1 4 (qGExO x6_0d)), ((53, 0), .arr 1 1 (qInt x521))]⟩ : St)) (fun x => x) (.exit 0)
  (i0 := (_, _)) hl1 (fun _ => rfl) ?_ ?_ ?_
 ·rintro ⟨t0, t1⟩ e
  refine aj ?_
  cbv
  all_goals exact J2
 rintro x521 hx
 subst o1
 have hh := hq1
 cbv
 replace hh := bind_some hh
 obtain ⟨⟨x532a, x532b, x532c, x532d⟩, h531, hh⟩ := hh
 try dsimp only at hh
 have fc := eZ hQ h531
 try dsimp only at fc
 refine ac hF fc ?_
 cbv
 replace hh := bind_some hh
 obtain ⟨⟨⟨x535_0a, x535_0b, x535_0c, x535_0d⟩, x535_1, x535_2⟩, h534, hh⟩ := hh
 try dsimp only at hh
 have fc := eL hQ h534
 try dsimp only at fc
 refine ac hF fc ?_
 cbv
 replace hh := bind_some hh
 obtain ⟨⟨x538_0, x538_1⟩, h537, hh⟩ := hh
 try dsimp only at hh
 have fc := b8 hQ h537
 try dsimp only at fc
 refine ac hF fc ?_
 cbv
 replace hh := bind_some hh
 obtain ⟨x541, h540, hh⟩ := hh
 refine ac hF (cC hQ h540) ?_
 cbv
 replace hh := bind_some hh
 obtain ⟨⟨x544_0, x544_1⟩, h543, hh⟩ := hh
 try dsimp only at hh
 have fc := b8 hQ h543
 try dsimp only at fc
 refine ac hF fc ?_
 cbv
 replace hh := bind_some hh
 obtain ⟨⟨x547a, x547b, x547c, x547d⟩, h546, hh⟩ := hh
 try dsimp only at hh
 have fc := ei hQ h546
 try dsimp only at fc
 refine ac hF fc ?_
 cbv
 replace hh := bind_some hh
 obtain ⟨x550, h549, hh⟩ := hh
 have fc := ez hQ h549
 try dsimp only at fc
 refine ac hF fc ?_
 cbv
 refine bcs (fun f553 => ?_) (fun f553 => ?_)
 replace hh := ifT hh f553
 try rw [f553]
 cbv
 replace hh := bind_some hh
 obtain ⟨x555, h554, hh⟩ := hh
 have fc := ck hQ h554
 try dsimp only at fc
 refine ac hF fc ?_
 cbv
 replace hh := bind_some hh
 obtain ⟨x558, h557, hh⟩ := hh
 have fc := ck hQ h557
 try dsimp only at fc
 refine ac hF fc ?_
 cbv
 refine bcs (fun f561 => ?_) (fun f561 => ?_)
 replace hh := ifT hh f561
 try rw [f561]
 cbv
 replace hh := bind_some hh
 obtain ⟨x563, h562, hh⟩ := hh
 refine ac hF (cC hQ h562) ?_
 cbv
 replace hh := bind_some hh
 obtain ⟨x566, h565, hh⟩ := hh
 refine ac hF (d4 hQ h565) ?_
 cbv
 replace hh := bind_some hh
 obtain ⟨x569, h568, hh⟩ := hh
 refine ac hF (d5 hQ h568) ?_
 cbv
 replace hh := bind_some hh
 obtain ⟨x572, h571, hh⟩ := hh
 refine ac hF (bm hQ h571) ?_
 cbv
 refine bcs (fun f575 => ?_) (fun f575 => ?_)
 replace hh := ifT hh f575
 try rw [f575]
 cbv
 replace hh := ak hh
 rcases hh with ⟨b576, hh⟩ | ⟨b576, hh⟩
 have f577 : x569 = true := Tb b576
 have g := f577; cbv at g; try rw [f577]
 try rw [g]
 cbv
 replace hh := bind_some hh
 obtain ⟨x579, h578, hh⟩ := hh
 refine ac hF (bm hQ h578) ?_
 cbv
 replace hh := ak hh
 rcases hh with ⟨b581, hh⟩ | ⟨b581, hh⟩
 have f582 : x579 = true := Tb b581
 have g := f582; cbv at g; try rw [f582]
 try rw [g]
 cbv
 replace hh := ak hh
 rcases hh with ⟨b583, hh⟩ | ⟨b583, hh⟩
 have f584 : x538_1 = true := Tb b583
 have g := f584; cbv at g; try rw [f584]
 try rw [g]
 cbv
 replace hh := ak hh
 rcases hh with ⟨b585, hh⟩ | ⟨b585, hh⟩
 have f586 : x544_1 = true := Tb b585
 have g := f586; cbv at g; try rw [f586]
 try rw [g]
 cbv
 replace hh := bind_some hh
 obtain ⟨x588, h587, hh⟩ := hh
 refine ac hF (ay hQ h587) ?_
 cbv
 exact Eb
 have f586 : x544_1 = false := Fb b585
 have g := f586; cbv at g; try rw [f586]
 try rw [g]
 cbv
 exact Eb
 have f584 : x538_1 = false := Fb b583
 have g := f584; cbv at g; try rw [f584]
 try rw [g]
 cbv
 replace hh := ak hh
 rcases hh with ⟨b590, hh⟩ | ⟨b590, hh⟩
 have f591 : x544_1 = true := Tb b590
 have g := f591; cbv at g; try rw [f591]
 try rw [g]
 cbv
 exact Eb
 have f591 : x544_1 = false := Fb b590
 have g := f591; cbv at g; try rw [f591]
 try rw [g]
 cbv
 replace hh := bind_some hh
 obtain ⟨x593, h592, hh⟩ := hh
 refine ac hF (ay hQ h592) ?_
 cbv
 exact Eb
 have f582 : x579 = false := Fb b581
 have g := f582; cbv at g; try rw [f582]
 try rw [g]
 cbv
 exact Eb
 have f577 : x569 = false := Fb b576
 have g := f577; cbv at g; try rw [f577]
 try rw [g]
 cbv
 exact Eb
 replace hh := ifF hh f575
 try rw [f575]
 cbv
 replace hh := ak hh
 rcases hh with ⟨b595, hh⟩ | ⟨b595, hh⟩
 have f596 : x569 = true := Tb b595
 have g := f596; cbv at g; try rw [f596]
 try rw [g]
 cbv
 replace hh := ak hh
 rcases hh with ⟨b597, hh⟩ | ⟨b597, hh⟩
 have f598 : (eq (cast (len (qGEv x535_2))) 0) = true := Tb b597
 have g := f598; cbv at g; try rw [f598]
 try rw [g]
 cbv
 replace hh := bind_some hh
 obtain ⟨x600, h599, hh⟩ := hh
 refine ac hF (bm hQ h599) ?_
 cbv
 replace hh := ak hh
 rcases hh with ⟨b602, hh⟩ | ⟨b602, hh⟩
 have f603 : x600 = true := Tb b602
 have g := f603; cbv at g; try rw [f603]
 try rw [g]
 cbv
 replace hh := ak hh
 rcases hh with ⟨b604, hh⟩ | ⟨b604, hh⟩
 have f605 : x538_1 = true := Tb b604
 have g := f605; cbv at g; try rw [f605]
 try rw [g]
 cbv
 replace hh := ak hh
 rcases hh with ⟨b606, hh⟩ | ⟨b606, hh⟩
 have f607 : x544_1 = true := Tb b606
 have g := f607; cbv at g; try rw [f607]
 try rw [g]
 cbv
 replace hh := bind_some hh
 obtain ⟨x609, h608, hh⟩ := hh
 refine ac hF (ay hQ h608) ?_
 cbv
 exact Eb
 have f607 : x544_1 = false := Fb b606
 have g := f607; cbv at g; try rw [f607]
 try rw [g]
 cbv
 exact Eb
 have f605 : x538_1 = false := Fb b604
 have g := f605; cbv at g; try rw [f605]
 try rw [g]
 cbv
 replace hh := ak hh
 rcases hh with ⟨b611, hh⟩ | ⟨b611, hh⟩
 have f612 : x544_1 = true := Tb b611
 have g := f612; cbv at g; try rw [f612]
 try rw [g]
 cbv
 exact Eb
 have f612 : x544_1 = false := Fb b611
 have g := f612; cbv at g; try rw [f612]
 try rw [g]
 cbv
 replace hh := bind_some hh
 obtain ⟨x614, h613, hh⟩ := hh
 refine ac hF (ay hQ h613) ?_
 cbv
 exact Eb
 have f603 : x600 = false := Fb b602
 have g := f603; cbv at g; try rw [f603]
 try rw [g]
 cbv
 exact Eb
 have f598 : (eq (cast (len (qGEv x535_2))) 0) = false := Fb b597
 have g := f598; cbv at g; try rw [f598]
 try rw [g]
 cbv
 exact Eb
 have f596 : x569 = false := Fb b595
 have g := f596; cbv at g; try rw [f596]
 try rw [g]
 cbv
 replace hh := ak hh
 rcases hh with ⟨b616, hh⟩ | ⟨b616, hh⟩
 have f617 : (eq (cast (len (qGEv x535_2))) 0) = true := Tb b616
 have g := f617; cbv at g; try rw [f617]
 try rw [g]
 cbv
 exact Eb
 have f617 : (eq (cast (len (qGEv x535_2))) 0) = false := Fb b616
 have g := f617; cbv at g; try rw [f617]
 try rw [g]
 cbv
 replace hh := bind_some hh
 obtain ⟨x619, h618, hh⟩ := hh
 refine ac hF (bm hQ h618) ?_
 cbv
 replace hh := ak hh
 rcases hh with ⟨b621, hh⟩ | ⟨b621, hh⟩
 have f622 : x619 = true := Tb b621
 have g := f622; cbv at g; try rw [f622]
 try rw [g]
 cbv
 replace hh := ak hh
 rcases hh with ⟨b623, hh⟩ | ⟨b623, hh⟩
 have f624 : x538_1 = true := Tb b623
 have g := f624; cbv at g; try rw [f624]
 try rw [g]
 cbv
 replace hh := ak hh
 rcases hh with ⟨b625, hh⟩ | ⟨b625, hh⟩
 have f626 : x544_1 = true := Tb b625
 have g := f626; cbv at g; try rw [f626]
 try rw [g]
 cbv
 replace hh := bind_some hh
 obtain ⟨x628, h627, hh⟩ := hh
 refine ac hF (ay hQ h627) ?_
 cbv
 exact Eb
 have f626 : x544_1 = false := Fb b625
 have g := f626; cbv at g; try rw [f626]
 try rw [g]
 cbv
 exact Eb
 have f624 : x538_1 = false := Fb b623
 have g := f624; cbv at g; try rw [f624]
 try rw [g]
 cbv
 replace hh := ak hh
 rcases hh with ⟨b630, hh⟩ | ⟨b630, hh⟩
 have f631 : x544_1 = true := Tb b630
 have g := f631; cbv at g; try rw [f631]
 try rw [g]
 cbv
 exact Eb
 have f631 : x544_1 = false := Fb b630
 have g := f631; cbv at g; try rw [f631]
 try rw [g]
 cbv
 replace hh := bind_some hh
 obtain ⟨x633, h632, hh⟩ := hh
 refine ac hF (ay hQ h632) ?_
 cbv
 exact Eb
 have f622 : x619 = false := Fb b621
 have g := f622; cbv at g; try rw [f622]
 try rw [g]
 cbv
 exact Eb
 replace hh := ifF hh f561
 try rw [f561]
 cbv
 exact Eb
 replace hh := ifF hh f553
 try rw [f553]
 cbv
 exact Eb
 rintro n ⟨s510, s511⟩ N1 D1 hh hN1 hD1 hQ1
 dsimp only at hh
 unfold aw.l3 at hh
 cbv
 refine bcs (fun f523 => ?_) (fun f523 => ?_)
 replace hh := ifT hh f523
 try rw [f523]
 cbv
 replace hh := aa hh
 obtain ⟨h524, hh⟩ := hh
 replace hh := bind_some hh
 obtain ⟨e525, h526, hh⟩ := hh
 refine ⟨[iA e525], Nb h524, Gb h526, ?_⟩
 cbv
 replace hh := aa hh
 obtain ⟨h527, hh⟩ := hh
 replace hh := aa hh
 obtain ⟨h528, hh⟩ := hh
 refine ⟨Nb h527, Mb h528, ?_⟩
 replace hh := bind_some hh
 obtain ⟨e529, h530, hh⟩ := hh
 refine ⟨[iA e529], Gb h530, ?_⟩
 cbv
 ·refine hN1 (_, _) _ hh fun ⟨t0, t1⟩ e => ?_
  refine aj ?_
  cbv
  all_goals exact J2
 replace hh := ifF hh f523
 try rw [f523]
 cbv
 ·refine hD1 _ _ hh fun t0 e => ?_
  refine aj ?_
  cbv
  all_goals exact J1
 have f497 : x494 = false := Fb b496
 have g := f497; cbv at g; try rw [f497]
 try rw [g]
 cbv
 exact Eb
 have f492 : x489 = false := Fb b491
 have g := f492; cbv at g; try rw [f492]
 try rw [g]
 cbv
 exact Eb

end Go.Proofs.YtlbnmldopjadoaaGreat
