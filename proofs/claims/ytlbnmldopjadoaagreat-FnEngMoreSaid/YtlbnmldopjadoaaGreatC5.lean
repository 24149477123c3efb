/- The functions of this program do what the plain ones do. -/
import Derived.Test.YtlbnmldopjadoaaGreatC4
namespace Go.Proofs.YtlbnmldopjadoaaGreat
open Go Go.Vm
set_option linter.unusedVariables false
set_option maxHeartbeats 4000000
set_option maxRecDepth 4000
variable {qIu8 : List Int → Vm.Rows} {qGEx : List GEx → Vm.Rows} {qGRule : List GRule → Vm.Rows} {qStr : List ByteArray → Vm.Rows} {qInt : List Int → Vm.Rows} {qGExO : List GEx → Vm.Rows} {qGOcc : List GOcc → Vm.Rows} {qGNode : List GNode → Vm.Rows} {qGGraphS : List GGraph → Vm.Rows} {qGGraph : List GGraph → Vm.Rows} {qGEv : List GEv → Vm.Rows} {qGFire : List GFire → Vm.Rows} {qLGOcc : List (List GOcc) → Vm.Rows} {qGOccO : List GOcc → Vm.Rows} {qLInt : List (List Int) → Vm.Rows} (hQ : EQ qIu8 qGEx qGRule qStr qInt qGExO qGOcc qGNode qGGraphS qGGraph qGEv qGFire qLGOcc qGOccO qLInt)
include hQ
theorem rq {k : Nat} {p0 : List Int} {p1 : List Int} {r : Bool} (hh : aU.f k p0 p1 = some r) : ai P 6 [tA (qIu8 p0), tA (qIu8 p1)] [hA, hA] (bA r) := by
 unfold aU.f at hh
 refine goG (g := [18, 19]) (i := []) (o := []) (sh := []) (ts := [(4, none)]) (rm := [.own]) (pm := [.skip, .skip]) Tryz.func6 ?_
 unhygienic intros
 cbv
 refine bcs (fun f2 => ?_) (fun f2 => ?_)
 replace hh := ifT hh f2
 try rw [f2]
 cbv
 exact Eb
 replace hh := ifF hh f2
 try rw [f2]
 cbv
 refine bcs (fun f4 => ?_) (fun f4 => ?_)
 replace hh := ifT hh f4
 try rw [f4]
 cbv
 exact Eb
 replace hh := ifF hh f4
 try rw [f4]
 cbv
 replace hh := bind_some hh
 obtain ⟨Z, h5, hh⟩ := hh
 refine ac hF (pe hQ h5) ?_
 cbv
 replace hh := bind_some hh
 obtain ⟨⟨Ev, Ew, Ey, ⟨Ez, EA, EB, EC⟩, ED, EE, EF, EG, EH⟩, h8, hh⟩ := hh
 try dsimp only at hh
 have fc := qh hQ h8
 try dsimp only at fc
 refine ac hF fc ?_
 cbv
 replace hh := bind_some hh
 obtain ⟨Df, DM, hh⟩ := hh
 refine ac hF (fm hQ DM) ?_
 cbv
 replace hh := az hh
 rcases hh with ⟨CU, hh⟩ | ⟨CU, hh⟩
 have Cn : Df = true := Tb CU
 have g := Cn; cbv at g; try rw [Cn]
 try rw [g]
 cbv
 replace hh := bind_some hh
 obtain ⟨Dg, DN, hh⟩ := hh
 refine ac hF (ou hQ DN) ?_
 cbv
 replace hh := az hh
 rcases hh with ⟨CZ, hh⟩ | ⟨CZ, hh⟩
 have Co : Dg = true := Tb CZ
 have g := Co; cbv at g; try rw [Co]
 try rw [g]
 cbv
 replace hh := az hh
 rcases hh with ⟨C0, hh⟩ | ⟨C0, hh⟩
 have Cp : (lt (cast (len (qGRule Z))) 4) = true := Tb C0
 have g := Cp; cbv at g; try rw [Cp]
 try rw [g]
 cbv
 replace hh := bind_some hh
 obtain ⟨⟨D3, D4, D5, D6, D7⟩, DO, hh⟩ := hh
 try dsimp only at hh
 refine ⟨Ob, ?_⟩
 have fc := np hQ DO
 try dsimp only at fc
 refine ac hF fc ?_
 cbv
 replace hh := aa hh
 obtain ⟨DP, hh⟩ := hh
 refine ⟨⟨Ob, Ab⟩, ?_⟩
 refine ⟨⟨Ob, Wb DP⟩, ?_⟩
 replace hh := aa hh
 obtain ⟨DQ, hh⟩ := hh
 refine ⟨⟨Ob, Ab⟩, ?_⟩
 refine ⟨⟨Ob, Wb DQ⟩, ?_⟩
 replace hh := bind_some hh
 obtain ⟨⟨D8, D9, Ea, Ec, Ed⟩, DR, hh⟩ := hh
 try dsimp only at hh
 refine ⟨Ob, ?_⟩
 have fc := np hQ DR
 try dsimp only at fc
 refine ac hF fc ?_
 cbv
 replace hh := bind_some hh
 obtain ⟨Dh, DS, hh⟩ := hh
 have fc := iJ hQ DS
 try dsimp only at fc
 refine ac hF fc ?_
 cbv
 replace hh := az hh
 rcases hh with ⟨C1, hh⟩ | ⟨C1, hh⟩
 have Cq : Dh = true := Tb C1
 have g := Cq; cbv at g; try rw [Cq]
 try rw [g]
 cbv
 replace hh := bind_some hh
 obtain ⟨Di, DT, hh⟩ := hh
 have fc := iJ hQ DT
 try dsimp only at fc
 refine ac hF fc ?_
 cbv
 replace hh := az hh
 rcases hh with ⟨C2, hh⟩ | ⟨C2, hh⟩
 have Cs : Di = true := Tb C2
 have g := Cs; cbv at g; try rw [Cs]
 try rw [g]
 cbv
 replace hh := bind_some hh
 obtain ⟨o1, DU, K⟩ := hh
 refine au hC (ck [18, 19] [] []) mixed (fun n (i : (List GRule) × (List GGraph) × (List GEv) × (List Int) × (List GFire) × (List GRule) × (List GGraph) × (List GEv) × (List Int) × (List GFire) × Int) => aU.l2 k p1 Z n i.1 i.2.1 i.2.2.1 i.2.2.2.1 i.2.2.2.2.1 i.2.2.2.2.2.1 i.2.2.2.2.2.2.1 i.2.2.2.2.2.2.2.1 i.2.2.2.2.2.2.2.2.1 i.2.2.2.2.2.2.2.2.2.1 i.2.2.2.2.2.2.2.2.2.2)
  (fun ⟨xI, w, y, z, A, Bo, B, C, D, F, B2⟩ => (⟨[(1, tA (qIu8 p1)), (5, .ref (27, 0) 1 0 (len (qGRule Z))), (7, .mptr (7, 0) 1 0 0), (8, .mptr (8, 0) 1 0 0), (9, iA B2)], [((7, 0), .box 1 [tA (qGRule xI), .ref (53, 0) 1 0 (len (qGGraphS w)), .ref (53, 1) 1 0 (len (qGEv y)), .ref (53, 2) 1 0 (len (qInt z)), .ref (53, 3) 1 0 (len (qGFire A))]), ((8, 0), .box 1 [tA (qGRule Bo), .ref (60, 0) 1 0 (len (qGGraphS B)), .ref (60, 1) 1 0 (len (qGEv C)), .ref (60, 2) 1 0 (len (qInt D)), .ref (60, 3) 1 0 (len (qGFire F))]), ((27, 0), .farr 1 12 (qGRule Z)), ((53, 0), .arr 1 5 (qGGraphS w)), ((53, 1), .arr 1 3 (qGEv y)), ((53, 2), .arr 1 1 (qInt z)), ((53, 3), .arr 1 4 (qGFire A)), ((60, 0), .arr 1 5 (qGGraphS B)), ((60, 1), .arr 1 3 (qGEv C)), ((60, 2), .arr 1 1 (qInt D)), ((60, 3), .arr 1 4 (qGFire F))]⟩ : St))
  (fun (_ : Unit) => (⟨[], []⟩ : St)) .ok (.exit 0)
  (i0 := (_, _, _, _, _, _, _, _, _, _, _)) DU (fun _ => rfl) ?_ ?_ ?_
 ·rintro ⟨t0, t1, t2, t3, t4, t5, t6, t7, t8, t9, DV⟩ e
  refine ah ?_
  cbv
  all_goals exact J11
 rintro _ hx
 subst o1
 have hh := K
 cbv
 exact Eb
 rintro n ⟨xI, w, y, z, A, Bo, B, C, D, F, B2⟩ N1 D1 hh DW Dj dv
 try dsimp only at hh
 unfold aU.l2 at hh
 cbv
 refine bcs (fun L => ?_) (fun L => ?_)
 replace hh := ifT hh L
 try rw [L]
 cbv
 refine bcs (fun M => ?_) (fun M => ?_)
 replace hh := ifT hh M
 try rw [M]
 cbv
 refine vK hC (ck [18, 19] [] []) mixed [(53, 0), (53, 1), (53, 2), (53, 3)] ?_
 cbv
 replace hh := aa hh
 obtain ⟨Dl, hh⟩ := hh
 replace hh := bind_some hh
 obtain ⟨Dm, Dn, hh⟩ := hh
 refine ⟨[.lit (.int .u8 Dm)], Nb Dl, Gb Dn, ?_⟩
 cbv
 replace hh := aa hh
 obtain ⟨Do, hh⟩ := hh
 replace hh := bind_some hh
 obtain ⟨Dp, Dq, hh⟩ := hh
 refine ⟨[.lit (.int .u8 Dp)], Nb Do, Gb Dq, ?_⟩
 cbv
 replace hh := bind_some hh
 obtain ⟨⟨⟨H, c, d, j, p⟩, N, b⟩, Dr, hh⟩ := hh
 try dsimp only at hh
 refine ⟨Ob, ?_⟩
 refine ⟨Ob, ?_⟩
 refine ⟨Ob, ?_⟩
 refine ⟨Ob, ?_⟩
 have fc := nf hQ Dr
 try dsimp only at fc
 refine ac hF fc ?_
 cbv
 refine vK hC (ck [18, 19] [] []) mixed [(60, 0), (60, 1), (60, 2), (60, 3)] ?_
 cbv
 replace hh := aa hh
 obtain ⟨Ds, hh⟩ := hh
 replace hh := bind_some hh
 obtain ⟨Dt, Du, hh⟩ := hh
 refine ⟨[.lit (.int .u8 Dt)], Nb Ds, Gb Du, ?_⟩
 cbv
 replace hh := aa hh
 obtain ⟨Dv, hh⟩ := hh
 replace hh := bind_some hh
 obtain ⟨Dw, Dx, hh⟩ := hh
 refine ⟨[.lit (.int .u8 Dw)], Nb Dv, Gb Dx, ?_⟩
 cbv
 replace hh := bind_some hh
 obtain ⟨⟨⟨I, s, t, u, v⟩, O, Q⟩, Dy, hh⟩ := hh
 try dsimp only at hh
 refine ⟨Ob, ?_⟩
 refine ⟨Ob, ?_⟩
 refine ⟨Ob, ?_⟩
 refine ⟨Ob, ?_⟩
 have fc := nf hQ Dy
 try dsimp only at fc
 refine ac hF fc ?_
 cbv
 replace hh := az hh
 rcases hh with ⟨Ct, hh⟩ | ⟨Ct, hh⟩
 have R : (eq O N) = true := Tb Ct
 have g := R; cbv at g; try rw [R]
 try rw [g]
 cbv
 replace hh := bind_some hh
 obtain ⟨o2, DX, CH⟩ := hh
 refine au hC (ck [18, 19] [] []) mixed (fun n (i : Int × Int) => aU.l3 k Z (⟨⟨H, c, d, j, p⟩, N, b⟩ : GEng × Int × (List GFire)) (⟨⟨I, s, t, u, v⟩, O, Q⟩ : GEng × Int × (List GFire)) n i.1 i.2)
  (fun ⟨B3, C4⟩ => (⟨[(1, tA (qIu8 p1)), (5, .ref (27, 0) 1 0 (len (qGRule Z))), (7, .mptr (7, 0) 1 0 0), (8, .mptr (8, 0) 1 0 0), (9, iA B2), (10, .mptr (10, 0) 1 0 0), (12, .ref (95, 5) 1 0 (len (qGFire b))), (13, .mptr (13, 0) 1 0 0), (15, .ref (115, 5) 1 0 (len (qGFire Q))), (16, iA B3), (17, iA C4)], [((7, 0), .box 1 [tA (qGRule xI), .ref (53, 0) 1 0 (len (qGGraph w)), .ref (53, 1) 1 0 (len (qGEv y)), .ref (53, 2) 1 0 (len (qInt z)), .ref (53, 3) 1 0 (len (qGFire A))]), ((8, 0), .box 1 [tA (qGRule Bo), .ref (60, 0) 1 0 (len (qGGraph B)), .ref (60, 1) 1 0 (len (qGEv C)), .ref (60, 2) 1 0 (len (qInt D)), .ref (60, 3) 1 0 (len (qGFire F))]), ((10, 0), .box 1 [tA (qGRule H), .ref (95, 0) 1 0 (len (qGGraphS c)), .ref (95, 1) 1 0 (len (qGEv d)), .ref (95, 2) 1 0 (len (qInt j)), .ref (95, 3) 1 0 (len (qGFire p))]), ((13, 0), .box 1 [tA (qGRule I), .ref (115, 0) 1 0 (len (qGGraphS s)), .ref (115, 1) 1 0 (len (qGEv t)), .ref (115, 2) 1 0 (len (qInt u)), .ref (115, 3) 1 0 (len (qGFire v))]), ((27, 0), .farr 1 12 (qGRule Z)), ((53, 0), .farr 1 5 (qGGraph w)), ((53, 1), .farr 1 3 (qGEv y)), ((53, 2), .farr 1 1 (qInt z)), ((53, 3), .farr 1 4 (qGFire A)), ((60, 0), .farr 1 5 (qGGraph B)), ((60, 1), .farr 1 3 (qGEv C)), ((60, 2), .farr 1 1 (qInt D)), ((60, 3), .farr 1 4 (qGFire F)), ((95, 0), .arr 1 5 (qGGraphS c)), ((95, 1), .arr 1 3 (qGEv d)), ((95, 2), .arr 1 1 (qInt j)), ((95, 3), .arr 1 4 (qGFire p)), ((95, 5), .arr 1 4 (qGFire b)), ((115, 0), .arr 1 5 (qGGraphS s)), ((115, 1), .arr 1 3 (qGEv t)), ((115, 2), .arr 1 1 (qInt u)), ((115, 3), .arr 1 4 (qGFire v)), ((115, 5), .arr 1 4 (qGFire Q))]⟩ : St))
  (fun (Ce : Int) => (⟨[(1, tA (qIu8 p1)), (5, .ref (27, 0) 1 0 (len (qGRule Z))), (7, .mptr (7, 0) 1 0 0), (8, .mptr (8, 0) 1 0 0), (9, iA B2), (10, .mptr (10, 0) 1 0 0), (12, .ref (95, 5) 1 0 (len (qGFire b))), (13, .mptr (13, 0) 1 0 0), (16, iA Ce)], [((7, 0), .box 1 [tA (qGRule xI), .ref (53, 0) 1 0 (len (qGGraph w)), .ref (53, 1) 1 0 (len (qGEv y)), .ref (53, 2) 1 0 (len (qInt z)), .ref (53, 3) 1 0 (len (qGFire A))]), ((8, 0), .box 1 [tA (qGRule Bo), .ref (60, 0) 1 0 (len (qGGraph B)), .ref (60, 1) 1 0 (len (qGEv C)), .ref (60, 2) 1 0 (len (qInt D)), .ref (60, 3) 1 0 (len (qGFire F))]), ((10, 0), .box 1 [tA (qGRule H), .ref (95, 0) 1 0 (len (qGGraphS c)), .ref (95, 1) 1 0 (len (qGEv d)), .ref (95, 2) 1 0 (len (qInt j)), .ref (95, 3) 1 0 (len (qGFire p))]), ((13, 0), .box 1 [tA (qGRule I), .ref (115, 0) 1 0 (len (qGGraphS s)), .ref (115, 1) 1 0 (len (qGEv t)), .ref (115, 2) 1 0 (len (qInt u)), .ref (115, 3) 1 0 (len (qGFire v))]), ((27, 0), .farr 1 12 (qGRule Z)), ((53, 0), .farr 1 5 (qGGraph w)), ((53, 1), .farr 1 3 (qGEv y)), ((53, 2), .farr 1 1 (qInt z)), ((53, 3), .farr 1 4 (qGFire A)), ((60, 0), .farr 1 5 (qGGraph B)), ((60, 1), .farr 1 3 (qGEv C)), ((60, 2), .farr 1 1 (qInt D)), ((60, 3), .farr 1 4 (qGFire F)), ((95, 0), .arr 1 5 (qGGraphS c)), ((95, 1), .arr 1 3 (qGEv d)), ((95, 2), .arr 1 1 (qInt j)), ((95, 3), .arr 1 4 (qGFire p)), ((95, 5), .arr 1 4 (qGFire b)), ((115, 0), .arr 1 5 (qGGraphS s)), ((115, 1), .arr 1 3 (qGEv t)), ((115, 2), .arr 1 1 (qInt u)), ((115, 3), .arr 1 4 (qGFire v))]⟩ : St)) .ok (.exit 2)
  (i0 := (_, _)) DX (fun _ => rfl) ?_ ?_ ?_
 ·rintro ⟨t0, t1⟩ e
  refine ah ?_
  cbv
  all_goals exact J2
 rintro Ce hx
 subst o2
 have hh := CH
 cbv
 replace hh := az hh
 rcases hh with ⟨Cw, hh⟩ | ⟨Cw, hh⟩
 have S : (eq Ce (cast (len (qGFire b)))) = true := Tb Cw
 have g := S; cbv at g; try rw [S]
 try rw [g]
 cbv
 replace hh := bind_some hh
 obtain ⟨C5, Dz, hh⟩ := hh
 refine ac hF (oI hQ Dz) ?_
 cbv
 replace hh := az hh
 rcases hh with ⟨Cy, hh⟩ | ⟨Cy, hh⟩
 have T : C5 = true := Tb Cy
 have g := T; cbv at g; try rw [T]
 try rw [g]
 cbv
 ·refine DW (_, _, _, _, _, _, _, _, _, _, _) _ hh fun ⟨t0, t1, t2, t3, t4, t5, t6, t7, t8, t9, DV⟩ e => ?_
  refine aw [((7, 0), (7, 0)), ((8, 0), (8, 0)), ((27, 0), (27, 0)), ((53, 0), (95, 0)), ((53, 1), (95, 1)), ((53, 2), (95, 2)), ((53, 3), (95, 3)), ((60, 0), (115, 0)), ((60, 1), (115, 1)), ((60, 2), (115, 2)), ((60, 3), (115, 3))] ?_
  cbv
  all_goals exact J11
 have T : C5 = false := Fb Cy
 have g := T; cbv at g; try rw [T]
 try rw [g]
 cbv
 cases hh
 have hh : some _ = some _ := K
 refine dv _ _ ?_
 cbv
 exact Eb
 have S : (eq Ce (cast (len (qGFire b)))) = false := Fb Cw
 have g := S; cbv at g; try rw [S]
 try rw [g]
 cbv
 cases hh
 have hh : some _ = some _ := K
 refine dv _ _ ?_
 cbv
 exact Eb
 rintro n ⟨B3, C4⟩ N2 D2 hh Dk DY C6
 try dsimp only at hh
 unfold aU.l3 at hh
 cbv
 refine bcs (fun U => ?_) (fun U => ?_)
 replace hh := ifT hh U
 try rw [U]
 cbv
 replace hh := aa hh
 obtain ⟨DA, hh⟩ := hh
 replace hh := aa hh
 obtain ⟨C7, hh⟩ := hh
 try dsimp only at C7
 refine ⟨Nb DA, Mb C7, ?_⟩
 replace hh := bind_some hh
 obtain ⟨⟨G, ⟨Cj, Ck, Cm⟩⟩, Cz, hh⟩ := hh
 try dsimp only at hh
 refine ⟨[iA G, iA Cj, iA Ck, tA (qInt Cm)], Gb Cz, ?_⟩
 cbv
 refine bcs (fun V => ?_) (fun V => ?_)
 replace hh := ifT hh V
 try rw [V]
 cbv
 replace hh := az hh
 rcases hh with ⟨CB, hh⟩ | ⟨CB, hh⟩
 have W : (lt B3 (cast (len (qGFire b)))) = true := Tb CB
 have g := W; cbv at g; try rw [W]
 try rw [g]
 cbv
 replace hh := aa hh
 obtain ⟨DB, hh⟩ := hh
 replace hh := aa hh
 obtain ⟨C8, hh⟩ := hh
 try dsimp only at C8
 refine ⟨Nb DB, Mb C8, ?_⟩
 replace hh := bind_some hh
 obtain ⟨⟨J, ⟨CI, CJ, CK⟩⟩, C9, hh⟩ := hh
 try dsimp only at hh
 refine ⟨[iA J, iA CI, iA CJ, tA (qInt CK)], Gb C9, ?_⟩
 cbv
 replace hh := aa hh
 obtain ⟨DC, hh⟩ := hh
 replace hh := aa hh
 obtain ⟨Da, hh⟩ := hh
 try dsimp only at Da
 refine ⟨Nb DC, Mb Da, ?_⟩
 refine ⟨[iA G, iA Cj, iA Ck, tA (qInt Cm)], Gb Cz, ?_⟩
 cbv
 replace hh := az hh
 rcases hh with ⟨CE, hh⟩ | ⟨CE, hh⟩
 have X : (eq J G) = true := Tb CE
 have g := X; cbv at g; try rw [X]
 try rw [g]
 cbv
 replace hh := aa hh
 obtain ⟨DD, hh⟩ := hh
 replace hh := aa hh
 obtain ⟨Db, hh⟩ := hh
 try dsimp only at Db
 refine ⟨Nb DD, Mb Db, ?_⟩
 refine ⟨[iA J, iA CI, iA CJ, tA (qInt CK)], Gb C9, ?_⟩
 cbv
 replace hh := aa hh
 obtain ⟨DE, hh⟩ := hh
 replace hh := aa hh
 obtain ⟨Dc, hh⟩ := hh
 try dsimp only at Dc
 refine ⟨Nb DE, Mb Dc, ?_⟩
 refine ⟨[iA G, iA Cj, iA Ck, tA (qInt Cm)], Gb Cz, ?_⟩
 cbv
 replace hh := bind_some hh
 obtain ⟨Dd, DF, hh⟩ := hh
 refine ⟨Ob, ?_⟩
 refine ⟨Ob, ?_⟩
 refine ac hF (mT hQ DF) ?_
 cbv
 replace hh := az hh
 rcases hh with ⟨CG, hh⟩ | ⟨CG, hh⟩
 have Y : Dd = true := Tb CG
 have g := Y; cbv at g; try rw [Y]
 try rw [g]
 cbv
 ·refine Dk (_, _) _ hh fun ⟨t0, t1⟩ e => ?_
  refine ah ?_
  cbv
  all_goals exact J2
 have Y : Dd = false := Fb CG
 have g := Y; cbv at g; try rw [Y]
 try rw [g]
 cbv
 cases hh
 have hh : some _ = some _ := CH
 cases hh
 have hh : some _ = some _ := K
 refine C6 _ _ ?_
 refine dv _ _ ?_
 cbv
 exact Eb
 have X : (eq J G) = false := Fb CE
 have g := X; cbv at g; try rw [X]
 try rw [g]
 cbv
 cases hh
 have hh : some _ = some _ := CH
 cases hh
 have hh : some _ = some _ := K
 refine C6 _ _ ?_
 refine dv _ _ ?_
 cbv
 exact Eb
 have W : (lt B3 (cast (len (qGFire b)))) = false := Fb CB
 have g := W; cbv at g; try rw [W]
 try rw [g]
 cbv
 cases hh
 have hh : some _ = some _ := CH
 cases hh
 have hh : some _ = some _ := K
 refine C6 _ _ ?_
 refine dv _ _ ?_
 cbv
 exact Eb
 replace hh := ifF hh V
 try rw [V]
 cbv
 ·refine Dk (_, _) _ hh fun ⟨t0, t1⟩ e => ?_
  refine ah ?_
  cbv
  all_goals exact J2
 replace hh := ifF hh U
 try rw [U]
 cbv
 ·refine DY _ _ hh fun t0 e => ?_
  refine ah ?_
  cbv
  all_goals exact J1
 have R : (eq O N) = false := Fb Ct
 have g := R; cbv at g; try rw [R]
 try rw [g]
 cbv
 cases hh
 have hh : some _ = some _ := K
 refine dv _ _ ?_
 cbv
 exact Eb
 replace hh := ifF hh M
 try rw [M]
 cbv
 ·refine Dj () _ hh fun _ e => ?_
  refine ah ?_
  cbv
  all_goals exact J0
 replace hh := ifF hh L
 try rw [L]
 cbv
 ·refine Dj () _ hh fun _ e => ?_
  refine ah ?_
  cbv
  all_goals exact J0
 have Cs : Di = false := Fb C2
 have g := Cs; cbv at g; try rw [Cs]
 try rw [g]
 cbv
 exact Eb
 have Cq : Dh = false := Fb C1
 have g := Cq; cbv at g; try rw [Cq]
 try rw [g]
 cbv
 exact Eb
 have Cp : (lt (cast (len (qGRule Z))) 4) = false := Fb C0
 have g := Cp; cbv at g; try rw [Cp]
 try rw [g]
 cbv
 replace hh := bind_some hh
 obtain ⟨Ep, DG, hh⟩ := hh
 refine ac hF (ii hQ DG) ?_
 cbv
 replace hh := bind_some hh
 obtain ⟨Eq, DH, hh⟩ := hh
 refine ac hF (fm hQ DH) ?_
 cbv
 exact Eb
 have Co : Dg = false := Fb CZ
 have g := Co; cbv at g; try rw [Co]
 try rw [g]
 cbv
 replace hh := bind_some hh
 obtain ⟨Er, DI, hh⟩ := hh
 refine ac hF (ii hQ DI) ?_
 cbv
 replace hh := bind_some hh
 obtain ⟨Es, DJ, hh⟩ := hh
 refine ac hF (fm hQ DJ) ?_
 cbv
 exact Eb
 have Cn : Df = false := Fb CU
 have g := Cn; cbv at g; try rw [Cn]
 try rw [g]
 cbv
 replace hh := bind_some hh
 obtain ⟨Et, DK, hh⟩ := hh
 refine ac hF (ii hQ DK) ?_
 cbv
 replace hh := bind_some hh
 obtain ⟨Eu, DL, hh⟩ := hh
 refine ac hF (fm hQ DL) ?_
 cbv
 exact Eb

end Go.Proofs.YtlbnmldopjadoaaGreat
