/- The functions of this program do what the plain ones do. -/
import Derived.Test.YtlbnmldopjadoaaGreatC1
namespace Go.Proofs.YtlbnmldopjadoaaGreat
open Go Go.Vm
set_option linter.unusedVariables false
set_option maxHeartbeats 4000000
set_option maxRecDepth 4000
variable {qIu8 : List Int → Vm.Rows} {qGCall : List av → Vm.Rows} {qInt : List Int → Vm.Rows} {qGEx : List GEx → Vm.Rows} {qGRule : List GRule → Vm.Rows} {qGExO : List GEx → Vm.Rows} {qGOcc : List GOcc → Vm.Rows} {qGNode : List GNode → Vm.Rows} {qGGraphS : List GGraph → Vm.Rows} {qGGraph : List GGraph → Vm.Rows} {qGEv : List GEv → Vm.Rows} {qGFire : List aH → Vm.Rows} {qLGOcc : List (List GOcc) → Vm.Rows} {qGOccO : List GOcc → Vm.Rows} {qLInt : List (List Int) → Vm.Rows} (hQ : EQ qIu8 qGCall qInt qGEx qGRule qGExO qGOcc qGNode qGGraphS qGGraph qGEv qGFire qLGOcc qGOccO qLInt)
include hQ
theorem ea {k : Nat} {p0 : GEng} {r : GEng} (hh : bc.f k p0 = some r) : ag P 83 [.agg [tA (qGRule p0.Rules), tA (qGGraph p0.Graphs), tA (qGEv p0.Events), tA (qInt p0.Keys), tA (qGFire p0.Fired)]] [hA] (.agg [tA (qGRule r.Rules), oA 5 (qGGraphS r.Graphs), oA 3 (qGEv r.Events), oA 1 (qInt r.Keys), oA 4 (qGFire r.Fired)]) := by
 obtain ⟨p0a, p0b, p0c, p0d, p0e⟩ := p0
 unfold bc.f at hh
 refine go (ts := [(2, some 53)]) (rm := [.own]) (pm := [.skip]) Tryz.func83 ?_
 intro Fn LW IN len cast toNat wrap add sub mul bin lt eq At set part app fz' rep nadd nmax ssize sext sget scat seq slt Wide Flat Ones Room r' post' hC hF hr hp
 cbv
 replace hh := bind_some hh
 obtain ⟨x2, h1, hh⟩ := hh
 refine ae hF (ag.frz (r' := tA (qGRule x2)) (gE hQ h1) (by cases hQ; simp)) ?_
 cbv
 replace hh := bind_some hh
 obtain ⟨x5, h4, hh⟩ := hh
 refine ae hF (mq hQ h4) ?_
 cbv
 replace hh := aa hh
 obtain ⟨h7, hh⟩ := hh
 try dsimp only at h7
 refine ⟨⟨Ab, Ab⟩, ?_⟩
 refine ⟨Wb h7, ?_⟩
 replace hh := bind_some hh
 obtain ⟨x9, h8, hh⟩ := hh
 refine ae hF (gD hQ h8) ?_
 cbv
 replace hh := bind_some hh
 obtain ⟨o1, hl1, hq1⟩ := hh
 refine ap hC eok mixed (fun n (i : (List GGraph) × Int) => bc.l0 k (⟨p0a, p0b, p0c, p0d, p0e⟩ : GEng) n i.1 i.2)
  (fun ⟨s20, s21⟩ => (⟨[(2, .mptr (2, 0) 1 0 0), (3, .mptr (3, 0) 1 0 0), (20, tA (qGGraph p0b)), (21, iA (cast (len (qGGraph p0b)))), (22, iA s21)], [((2, 0), .box 1 [.lit (.slice none 0 0), .lit (.slice none 0 0), .lit (.slice none 0 0), .lit (.slice none 0 0), .lit (.slice none 0 0)]), ((3, 0), .box 1 [tA (qGRule x2), .ref (3, 51) 1 0 (len (qGGraphS s20)), .ref (11, 0) 1 0 (len (qGEv x5)), .ref (14, 0) 1 0 (len (qInt p0d)), .ref (17, 0) 1 0 (len (qGFire x9))]), ((3, 51), .arr 1 5 (qGGraphS s20)), ((11, 0), .arr 1 3 (qGEv x5)), ((14, 0), .arr 1 1 (qInt p0d)), ((17, 0), .arr 1 4 (qGFire x9))]⟩ : St))
  (fun (x31 : List GGraph) => (⟨[(2, .mptr (2, 0) 1 0 0), (3, .mptr (3, 0) 1 0 0)], [((2, 0), .box 1 [.lit (.slice none 0 0), .lit (.slice none 0 0), .lit (.slice none 0 0), .lit (.slice none 0 0), .lit (.slice none 0 0)]), ((3, 0), .box 1 [tA (qGRule x2), .ref (3, 51) 1 0 (len (qGGraphS x31)), .ref (11, 0) 1 0 (len (qGEv x5)), .ref (14, 0) 1 0 (len (qInt p0d)), .ref (17, 0) 1 0 (len (qGFire x9))]), ((3, 51), .arr 1 5 (qGGraphS x31)), ((11, 0), .arr 1 3 (qGEv x5)), ((14, 0), .arr 1 1 (qInt p0d)), ((17, 0), .arr 1 4 (qGFire x9))]⟩ : St)) (fun x => x) (.exit 0)
  (i0 := (_, _)) hl1 (fun _ => rfl) ?_ ?_ ?_
 ·rintro ⟨t0, t1⟩ e
  refine aq [((2, 0), (2, 0)), ((3, 0), (3, 0)), ((11, 0), (11, 0)), ((14, 0), (14, 0)), ((17, 0), (17, 0))] ?_
  cbv
  all_goals exact J2
 rintro x31 hx
 subst o1
 have hh := hq1
 cbv
 exact Eb
 rintro n ⟨s20, s21⟩ N1 D1 hh hN1 hD1 hQ1
 try dsimp only at hh
 unfold bc.l0 at hh
 cbv
 refine bcs (fun f33 => ?_) (fun f33 => ?_)
 replace hh := ifT hh f33
 try rw [f33]
 cbv
 replace hh := aa hh
 obtain ⟨h34, hh⟩ := hh
 replace hh := bind_some hh
 obtain ⟨⟨e35a, e35b, e35c, e35d, e35e⟩, h36, hh⟩ := hh
 try dsimp only at hh
 refine ⟨[iA e35a, tA (qGNode e35b), iA e35c, iA e35d, bA e35e], Nb h34, Gb h36, ?_⟩
 cbv
 replace hh := bind_some hh
 obtain ⟨⟨x38a, x38b, x38c, x38d, x38e⟩, h37, hh⟩ := hh
 try dsimp only at hh
 have fc := j8 hQ h37
 try dsimp only at fc
 refine ae hF fc ?_
 cbv
 replace hh := aa hh
 obtain ⟨h40, hh⟩ := hh
 refine ⟨⟨Ob, Ab⟩, ?_⟩
 refine ⟨⟨Ob, Wb h40⟩, ?_⟩
 ·refine hN1 (_, _) _ hh fun ⟨t0, t1⟩ e => ?_
  refine aq [((2, 0), (2, 0)), ((3, 0), (3, 0)), ((3, 51), (31, 0)), ((11, 0), (11, 0)), ((14, 0), (14, 0)), ((17, 0), (17, 0))] ?_
  cbv
  all_goals exact J2
 replace hh := ifF hh f33
 try rw [f33]
 cbv
 ·refine hD1 _ _ hh fun t0 e => ?_
  refine ah ?_
  cbv
  all_goals exact J1

theorem mU {p0 : Int} {p1 : Int} {c0 : List GRule} {r : Int} (hh : fJ.f p0 p1 c0 = some r) : ag P 224 [iA p0, iA p1, .iptr [tA (qGRule c0)] 0] [hA, hA, hA] (iA r) := by
 unfold fJ.f at hh
 refine go (ts := [(5, none)]) (rm := [.own]) (pm := [.skip, .skip, .skip]) Tryz.func224 ?_
 intro Fn LW IN len cast toNat wrap add sub mul bin lt eq At set part app fz' rep nadd nmax ssize sext sget scat seq slt Wide Flat Ones Room r' post' hC hF hr hp
 cbv
 replace hh := aa hh
 obtain ⟨h1, hh⟩ := hh
 replace hh := bind_some hh
 obtain ⟨⟨e2a, e2b, e2c, ⟨e2d, e2e, e2f, e2g⟩, e2h, e2i, e2j, e2k, e2l⟩, h3, hh⟩ := hh
 try dsimp only at hh
 refine ⟨[sA e2a, iA e2b, iA e2c, iA e2d, iA e2e, iA e2f, tA (qGEx e2g), iA e2h, iA e2i, iA e2j, iA e2k, iA e2l], Nb h1, Gb h3, ?_⟩
 cbv
 replace hh := aa hh
 obtain ⟨h4, hh⟩ := hh
 replace hh := bind_some hh
 obtain ⟨⟨e5a, e5b, e5c, ⟨e5d, e5e, e5f, e5g⟩, e5h, e5i, e5j, e5k, e5l⟩, h6, hh⟩ := hh
 try dsimp only at hh
 refine ⟨[sA e5a, iA e5b, iA e5c, iA e5d, iA e5e, iA e5f, tA (qGEx e5g), iA e5h, iA e5i, iA e5j, iA e5k, iA e5l], Nb h4, Gb h6, ?_⟩
 cbv
 exact Eb

theorem cr {k : Nat} {g3 : Int → Int → Option Int} {cp3_0 : List GRule} (hg3 : ∀ {y0 : Int} {y1 : Int} {r : Int}, g3 y0 y1 = some r → ag P 224 [iA y0, iA y1, .iptr [tA (qGRule cp3_0)] 0] [hA, hA, hA] (iA r)) {p0 : List Int} {p1 : Int} {p2 : Int} {r : List Int} (hh : ay.f g3 k p0 p1 p2 = some r) : ag P 267 [oA 1 (qInt p0), iA p1, iA p2, .clo 224 [.iptr [tA (qGRule cp3_0)] 0]] [oA 1 (qInt r), hA, hA, hA] (.tup []) := by
 unfold ay.f at hh
 refine go (ts := []) (rm := []) (pm := [.own, .skip, .skip, .skip]) Tryz.func267 ?_
 intro Fn LW IN len cast toNat wrap add sub mul bin lt eq At set part app fz' rep nadd nmax ssize sext sget scat seq slt Wide Flat Ones Room r' post' hC hF hr hp
 cbv
 replace hh := bind_some hh
 obtain ⟨o1, hl1, hq1⟩ := hh
 refine ap hC eok mixed (fun n (i : (List Int) × Int) => ay.l2 k g3 p1 p2 n i.1 i.2)
  (fun ⟨s81, s82⟩ => (⟨[(0, .ref (0, 0) 1 0 (len (qInt s81))), (1, iA p1), (2, iA p2), (3, .clo 224 [.iptr [tA (qGRule cp3_0)] 0]), (8, iA s82), (1000000, .ref (0, 0) 1 0 (len (qInt s81)))], [((0, 0), .arr 1 1 (qInt s81))]⟩ : St))
  (fun (x163 : List Int) => (⟨[(1000000, .ref (0, 0) 1 0 (len (qInt x163)))], [((0, 0), .arr 1 1 (qInt x163))]⟩ : St)) (fun x => x) (.exit 0)
  (i0 := (_, _)) hl1 (fun _ => rfl) ?_ ?_ ?_
 ·rintro ⟨t0, t1⟩ e
  refine ah ?_
  cbv
  all_goals exact J2
 rintro x163 hx
 subst o1
 have hh := hq1
 cbv
 exact Eb
 rintro n ⟨s81, s82⟩ N1 D1 hh hN1 hD1 hQ1
 try dsimp only at hh
 unfold ay.l2 at hh
 cbv
 refine bcs (fun f165 => ?_) (fun f165 => ?_)
 replace hh := ifT hh f165
 try rw [f165]
 cbv
 replace hh := bind_some hh
 obtain ⟨o2, hl2, hq2⟩ := hh
 refine ap hC eok mixed (fun n (i : (List Int) × Int) => ay.l3 k g3 p1 n i.1 i.2)
  (fun ⟨s191, s192⟩ => (⟨[(0, .ref (0, 0) 1 0 (len (qInt s191))), (1, iA p1), (2, iA p2), (3, .clo 224 [.iptr [tA (qGRule cp3_0)] 0]), (8, iA s82), (9, iA s192), (1000000, .ref (0, 0) 1 0 (len (qInt s191)))], [((0, 0), .arr 1 1 (qInt s191))]⟩ : St))
  (fun (x218 : List Int) => (⟨[(0, .ref (0, 0) 1 0 (len (qInt x218))), (1, iA p1), (2, iA p2), (3, .clo 224 [.iptr [tA (qGRule cp3_0)] 0]), (8, iA s82), (1000000, .ref (0, 0) 1 0 (len (qInt x218)))], [((0, 0), .arr 1 1 (qInt x218))]⟩ : St)) (fun x => x) (.exit 2)
  (i0 := (_, _)) hl2 (fun _ => rfl) ?_ ?_ ?_
 ·rintro ⟨t0, t1⟩ e
  refine ah ?_
  cbv
  all_goals exact J2
 rintro x218 hx
 subst o2
 have hh := hq2
 cbv
 ·refine hN1 (_, _) _ hh fun ⟨t0, t1⟩ e => ?_
  refine ah ?_
  cbv
  all_goals exact J2
 rintro n ⟨s191, s192⟩ N2 D2 hh hN2 hD2 hQ2
 try dsimp only at hh
 unfold ay.l3 at hh
 cbv
 refine bcs (fun f220 => ?_) (fun f220 => ?_)
 replace hh := ifT hh f220
 try rw [f220]
 cbv
 replace hh := aa hh
 obtain ⟨h221, hh⟩ := hh
 replace hh := aa hh
 obtain ⟨h222, hh⟩ := hh
 refine ⟨Nb h221, Mb h222, ?_⟩
 replace hh := bind_some hh
 obtain ⟨e223, h224, hh⟩ := hh
 refine ⟨[iA e223], Gb h224, ?_⟩
 cbv
 replace hh := aa hh
 obtain ⟨h225, hh⟩ := hh
 replace hh := aa hh
 obtain ⟨h226, hh⟩ := hh
 refine ⟨Nb h225, Mb h226, ?_⟩
 replace hh := bind_some hh
 obtain ⟨e227, h228, hh⟩ := hh
 refine ⟨[iA e227], Gb h228, ?_⟩
 cbv
 replace hh := bind_some hh
 obtain ⟨x230, h229, hh⟩ := hh
 refine ae hF (hg3 h229) ?_
 cbv
 refine bcs (fun f233 => ?_) (fun f233 => ?_)
 replace hh := ifT hh f233
 try rw [f233]
 cbv
 replace hh := aa hh
 obtain ⟨h234, hh⟩ := hh
 replace hh := aa hh
 obtain ⟨h235, hh⟩ := hh
 refine ⟨Nb h234, Mb h235, ?_⟩
 refine ⟨[iA e227], Gb h228, ?_⟩
 cbv
 replace hh := aa hh
 obtain ⟨h236, hh⟩ := hh
 replace hh := aa hh
 obtain ⟨h237, hh⟩ := hh
 refine ⟨Nb h236, Mb h237, ?_⟩
 refine ⟨[iA e223], Gb h224, ?_⟩
 cbv
 replace hh := aa hh
 obtain ⟨h238, hh⟩ := hh
 replace hh := aa hh
 obtain ⟨h239, hh⟩ := hh
 refine ⟨Nb h238, Mb h239, ?_⟩
 refine ⟨[iA e223], Gb h224, ?_⟩
 cbv
 replace hh := aa hh
 obtain ⟨h240, hh⟩ := hh
 replace hh := aa hh
 obtain ⟨h241, hh⟩ := hh
 refine ⟨Nb h240, Mb h241, ?_⟩
 replace hh := bind_some hh
 obtain ⟨e242, h243, hh⟩ := hh
 refine ⟨[iA e242], Gb h243, ?_⟩
 cbv
 ·refine hN2 (_, _) _ hh fun ⟨t0, t1⟩ e => ?_
  refine ah ?_
  cbv
  all_goals exact J2
 replace hh := ifF hh f233
 try rw [f233]
 cbv
 ·refine hD2 _ _ hh fun t0 e => ?_
  refine ah ?_
  cbv
  all_goals exact J1
 replace hh := ifF hh f220
 try rw [f220]
 cbv
 ·refine hD2 _ _ hh fun t0 e => ?_
  refine ah ?_
  cbv
  all_goals exact J1
 replace hh := ifF hh f165
 try rw [f165]
 cbv
 ·refine hD1 _ _ hh fun t0 e => ?_
  refine ah ?_
  cbv
  all_goals exact J1

theorem eP {k : Nat} {g2 : Int → Int → Option Int} {cp2_0 : List GRule} (hg2 : ∀ {y0 : Int} {y1 : Int} {r : Int}, g2 y0 y1 = some r → ag P 224 [iA y0, iA y1, .iptr [tA (qGRule cp2_0)] 0] [hA, hA, hA] (iA r)) {p0 : List Int} {p1 : Int} {r : List Int} (hh : aE.f g2 k p0 p1 = some r) : ag P 251 [oA 1 (qInt p0), iA p1, .clo 224 [.iptr [tA (qGRule cp2_0)] 0]] [oA 1 (qInt r), hA, hA] (.tup []) := by
 unfold aE.f at hh
 refine go (ts := []) (rm := []) (pm := [.own, .skip, .skip]) Tryz.func251 ?_
 intro Fn LW IN len cast toNat wrap add sub mul bin lt eq At set part app fz' rep nadd nmax ssize sext sget scat seq slt Wide Flat Ones Room r' post' hC hF hr hp
 cbv
 replace hh := bind_some hh
 obtain ⟨o1, hl1, hq1⟩ := hh
 refine ap hC eok mixed (fun n (i : (List Int) × Int × Int) => aE.l0 k g2 p1 n i.1 i.2.1 i.2.2)
  (fun ⟨s7, s8, s9⟩ => (⟨[(0, .ref (0, 0) 1 0 (len (qInt s7))), (1, iA p1), (2, .clo 224 [.iptr [tA (qGRule cp2_0)] 0]), (6, iA 20), (7, iA s8), (8, iA s9), (1000000, .ref (0, 0) 1 0 (len (qInt s7)))], [((0, 0), .arr 1 1 (qInt s7))]⟩ : St))
  (fun (⟨x16, x17⟩ : (List Int) × Int) => (⟨[(0, .ref (0, 0) 1 0 (len (qInt x16))), (1, iA p1), (2, .clo 224 [.iptr [tA (qGRule cp2_0)] 0]), (6, iA 20), (7, iA x17), (1000000, .ref (0, 0) 1 0 (len (qInt x16)))], [((0, 0), .arr 1 1 (qInt x16))]⟩ : St)) (fun x => x) (.exit 0)
  (i0 := (_, _, _)) hl1 (fun _ => rfl) ?_ ?_ ?_
 ·rintro ⟨t0, t1, t2⟩ e
  refine ah ?_
  cbv
  all_goals exact J3
 rintro ⟨x16, x17⟩ hx
 subst o1
 have hh := hq1
 cbv
 replace hh := bind_some hh
 obtain ⟨x25, h24, hh⟩ := hh
 replace hh := aa hh
 obtain ⟨h52, hh⟩ := hh
 refine ae hF (cr hQ (g3 := g2) hg2 h24) ?_
 cbv
 replace hh := bind_some hh
 obtain ⟨o1, hl1, hq1⟩ := hh
 refine ap hC eok mixed (aE.l3 k p1)
  (fun s35 => (⟨[(0, .ref (0, 0) 1 0 (len (qInt x25))), (1, iA p1), (2, .clo 224 [.iptr [tA (qGRule cp2_0)] 0]), (6, iA s35), (1000000, .ref (0, 0) 1 0 (len (qInt x25)))], [((0, 0), .arr 1 1 (qInt x25))]⟩ : St))
  (fun (_ : Unit) => (⟨[(1000000, .ref (0, 0) 1 0 (len (qInt x25)))], [((0, 0), .arr 1 1 (qInt x25))]⟩ : St)) (fun x => x) (.exit 2)
  (i0 := _) hl1 (fun _ => rfl) ?_ ?_ ?_
 ·rintro t0 e
  refine ah ?_
  cbv
  all_goals exact J1
 rintro _ hx
 subst o1
 have hh := hq1
 cbv
 exact Eb
 rintro n s35 N1 D1 hh hN1 hD1 hQ1
 unfold aE.l3 at hh
 cbv
 refine bcs (fun f45 => ?_) (fun f45 => ?_)
 replace hh := ifT hh f45
 try rw [f45]
 cbv
 replace hh := bind_some hh
 obtain ⟨o2, hl2, hq2⟩ := hh
 refine ap hC eok mixed (fun n (_ : Unit) => aE.l4 k p1 s35 n)
  (fun _ => (⟨[(0, .ref (0, 0) 1 0 (len (qInt x25))), (1, iA p1), (2, .clo 224 [.iptr [tA (qGRule cp2_0)] 0]), (6, iA s35), (7, iA 0), (8, iA (wrap .i64 (mul 2 s35))), (1000000, .ref (0, 0) 1 0 (len (qInt x25)))], [((0, 0), .arr 1 1 (qInt x25))]⟩ : St))
  (fun (_ : Unit) => (⟨[(0, .ref (0, 0) 1 0 (len (qInt x25))), (1, iA p1), (2, .clo 224 [.iptr [tA (qGRule cp2_0)] 0]), (6, iA s35), (7, iA 0), (1000000, .ref (0, 0) 1 0 (len (qInt x25)))], [((0, 0), .arr 1 1 (qInt x25))]⟩ : St)) (fun x => x) (.exit 4)
  (i0 := ()) hl2 (fun _ => rfl) ?_ ?_ ?_
 ·rintro _ e
  refine ah ?_
  cbv
  all_goals exact J0
 rintro _ hx
 subst o2
 have hh := hq2
 cbv
 refine bcs (fun f51 => ?_) (fun f51 => ?_)
 replace hh := ifT hh f51
 try rw [f51]
 cbv
 cases hh
 replace hh := ifF hh f51
 try rw [f51]
 cbv
 ·refine hN1 _ _ hh fun t0 e => ?_
  refine ah ?_
  cbv
  all_goals exact J1
 rintro n _ N2 D2 hh hN2 hD2 hQ2
 try dsimp only at hh
 unfold aE.l4 at hh
 cbv
 replace hh := az hh
 rcases hh with ⟨b48, hh⟩ | ⟨b48, hh⟩
 have f49 : (lt p1 (wrap .i64 (mul 2 s35))) = true := Tb b48
 have g := f49; cbv at g; try rw [f49]
 try rw [g]
 cbv
 ·refine hD2 () _ hh fun _ e => ?_
  refine ah ?_
  cbv
  all_goals exact J0
 have f49 : (lt p1 (wrap .i64 (mul 2 s35))) = false := Fb b48
 have g := f49; cbv at g; try rw [f49]
 try rw [g]
 cbv
 cases hh
 replace hh := ifF hh f45
 try rw [f45]
 cbv
 ·refine hD1 () _ hh fun _ e => ?_
  refine ah ?_
  cbv
  all_goals exact J0
 rintro n ⟨s7, s8, s9⟩ N1 D1 hh hN1 hD1 hQ1
 try dsimp only at hh
 unfold aE.l0 at hh
 cbv
 replace hh := az hh
 rcases hh with ⟨b18, hh⟩ | ⟨b18, hh⟩
 have f19 : (lt p1 s9) = true := Tb b18
 have g := f19; cbv at g; try rw [f19]
 try rw [g]
 cbv
 ·refine hD1 (_, _) _ hh fun ⟨t0, t1⟩ e => ?_
  refine ah ?_
  cbv
  all_goals exact J2
 have f19 : (lt p1 s9) = false := Fb b18
 have g := f19; cbv at g; try rw [f19]
 try rw [g]
 cbv
 replace hh := bind_some hh
 obtain ⟨x21, h20, hh⟩ := hh
 replace hh := aa hh
 obtain ⟨h23, hh⟩ := hh
 refine ae hF (cr hQ (g3 := g2) hg2 h20) ?_
 cbv
 ·refine hN1 (_, _, _) _ hh fun ⟨t0, t1, t2⟩ e => ?_
  refine ah ?_
  cbv
  all_goals exact J3

theorem eD {k : Nat} {g1 : Int → Int → Option Int} {cp1_0 : List GRule} (hg1 : ∀ {y0 : Int} {y1 : Int} {r : Int}, g1 y0 y1 = some r → ag P 224 [iA y0, iA y1, .iptr [tA (qGRule cp1_0)] 0] [hA, hA, hA] (iA r)) {p0 : List Int} {r : List Int} (hh : dG.f g1 k p0 = some r) : ag P 223 [oA 1 (qInt p0), .clo 224 [.iptr [tA (qGRule cp1_0)] 0]] [oA 1 (qInt r), hA] (.tup []) := by
 unfold dG.f at hh
 refine go (ts := []) (rm := []) (pm := [.own, .skip]) Tryz.func223 ?_
 intro Fn LW IN len cast toNat wrap add sub mul bin lt eq At set part app fz' rep nadd nmax ssize sext sget scat seq slt Wide Flat Ones Room r' post' hC hF hr hp
 cbv
 replace hh := bind_some hh
 obtain ⟨x2, h1, hh⟩ := hh
 replace hh := aa hh
 obtain ⟨h4, hh⟩ := hh
 refine ae hF (eP hQ (g2 := g1) hg1 h1) ?_
 cbv
 exact Eb

theorem oW {k : Nat} {p0 : List GRule} {r : List Int} (hh : cM.f k p0 = some r) : ag P 189 [tA (qGRule p0)] [hA] (oA 1 (qInt r)) := by
 unfold cM.f at hh
 refine go (ts := [(2, none)]) (rm := [.own]) (pm := [.skip]) Tryz.func189 ?_
 intro Fn LW IN len cast toNat wrap add sub mul bin lt eq At set part app fz' rep nadd nmax ssize sext sget scat seq slt Wide Flat Ones Room r' post' hC hF hr hp
 cbv
 replace hh := bind_some hh
 obtain ⟨o1, hl1, hq1⟩ := hh
 refine ap hC eok mixed (fun n (i : (List Int) × Int) => cM.l0 k p0 n i.1 i.2)
  (fun ⟨s4, s5⟩ => (⟨[(1, .mptr (1, 0) 1 0 0), (3, .ref (3, 50) 1 0 (len (qInt s4))), (6, iA (cast (len (qGRule p0)))), (7, iA s5)], [((1, 0), .box 1 [tA (qGRule p0)]), ((3, 50), .arr 1 1 (qInt s4))]⟩ : St))
  (fun (x9 : List Int) => (⟨[(1, .mptr (1, 0) 1 0 0), (3, .ref (3, 50) 1 0 (len (qInt x9)))], [((1, 0), .box 1 [tA (qGRule p0)]), ((3, 50), .arr 1 1 (qInt x9))]⟩ : St)) (fun x => x) (.exit 0)
  (i0 := (_, _)) hl1 (fun _ => rfl) ?_ ?_ ?_
 ·rintro ⟨t0, t1⟩ e
  refine aq [((1, 0), (1, 0))] ?_
  cbv
  all_goals exact J2
 rintro x9 hx
 subst o1
 have hh := hq1
 cbv
 replace hh := bind_some hh
 obtain ⟨x14, h13, hh⟩ := hh
 replace hh := aa hh
 obtain ⟨h16, hh⟩ := hh
 refine ae hF (eD hQ (g1 := fun y0 y1 => fJ.f y0 y1 p0) (fun h => mU hQ h) h13) ?_
 cbv
 exact Eb
 rintro n ⟨s4, s5⟩ N1 D1 hh hN1 hD1 hQ1
 try dsimp only at hh
 unfold cM.l0 at hh
 cbv
 refine bcs (fun f11 => ?_) (fun f11 => ?_)
 replace hh := ifT hh f11
 try rw [f11]
 cbv
 replace hh := aa hh
 obtain ⟨h12, hh⟩ := hh
 refine ⟨⟨Ob, Ab⟩, ?_⟩
 refine ⟨⟨Ob, Wb h12⟩, ?_⟩
 ·refine hN1 (_, _) _ hh fun ⟨t0, t1⟩ e => ?_
  refine aq [((1, 0), (1, 0)), ((3, 50), (13, 0))] ?_
  cbv
  all_goals exact J2
 replace hh := ifF hh f11
 try rw [f11]
 cbv
 ·refine hD1 _ _ hh fun t0 e => ?_
  refine ah ?_
  cbv
  all_goals exact J1

theorem lI {k : Nat} {p0 : GGraph} {p1 : Int} {r : Int × Bool × GGraph} (hh : bi.f k p0 p1 = some r) : ag P 129 [.obox [iA p0.Mode, oA 10 (qGNode p0.Nodes), iA p0.Seen, iA p0.Now, bA p0.Full], iA p1] [.obox [iA r.2.2.Mode, oA 10 (qGNode r.2.2.Nodes), iA r.2.2.Seen, iA r.2.2.Now, bA r.2.2.Full], hA] (.tup [iA r.1, bA r.2.1]) := by
 obtain ⟨p0a, p0b, p0c, p0d, p0e⟩ := p0
 unfold bi.f at hh
 refine go (ts := [(4, none), (5, none)]) (rm := [.own, .own]) (pm := [.own, .skip]) Tryz.func129 ?_
 intro Fn LW IN len cast toNat wrap add sub mul bin lt eq At set part app fz' rep nadd nmax ssize sext sget scat seq slt Wide Flat Ones Room r' post' hC hF hr hp
 cbv
 replace hh := bind_some hh
 obtain ⟨o1, hl1, hq1⟩ := hh
 refine ap hC eok mixed (fun n (i : Int × Int) => bi.l2 k (⟨p0a, p0b, p0c, p0d, p0e⟩ : GGraph) n i.1 i.2)
  (fun ⟨s31, s32⟩ => (⟨[(1, iA p1), (6, iA s31), (15, .ref (15, 0) 1 0 (len (qGNode p0b))), (16, iA (cast (len (qGNode p0b)))), (17, iA s32), (1000000, .mptr (0, 0) 1 0 0)], [((0, 0), .box 1 [iA p0a, .ref (15, 0) 1 0 (len (qGNode p0b)), iA p0c, iA p0d, bA p0e]), ((15, 0), .arr 1 10 (qGNode p0b))]⟩ : St))
  (fun (x63 : Int) => (⟨[(1, iA p1), (6, iA x63), (1000000, .mptr (0, 0) 1 0 0)], [((0, 0), .box 1 [iA p0a, .ref (15, 0) 1 0 (len (qGNode p0b)), iA p0c, iA p0d, bA p0e]), ((15, 0), .arr 1 10 (qGNode p0b))]⟩ : St)) (fun x => x) (.exit 0)
  (i0 := (_, _)) hl1 (fun _ => rfl) ?_ ?_ ?_
 ·rintro ⟨t0, t1⟩ e
  refine ah ?_
  cbv
  all_goals exact J2
 rintro x63 hx
 subst o1
 have hh := hq1
 cbv
 exact Eb
 rintro n ⟨s31, s32⟩ N1 D1 hh hN1 hD1 hQ1
 try dsimp only at hh
 unfold bi.l2 at hh
 cbv
 refine bcs (fun f65 => ?_) (fun f65 => ?_)
 replace hh := ifT hh f65
 try rw [f65]
 cbv
 replace hh := aa hh
 obtain ⟨h66, hh⟩ := hh
 replace hh := aa hh
 obtain ⟨h67, hh⟩ := hh
 try dsimp only at h67
 refine ⟨Nb h66, Mb h67, ?_⟩
 replace hh := bind_some hh
 obtain ⟨⟨e68a, e68b, e68c, e68d, ⟨e68e, e68f⟩, ⟨e68g, e68h⟩, e68i, e68j⟩, h69, hh⟩ := hh
 try dsimp only at hh
 refine ⟨[iA e68a, iA e68b, iA e68c, tA (qInt e68d), tA (qGOcc e68e), tA (qGOcc e68f), tA (qGOcc e68g), tA (qGOcc e68h), tA (qGOcc e68i), iA e68j], Gb h69, ?_⟩
 cbv
 replace hh := bind_some hh
 obtain ⟨o2, hl2, hq2⟩ := hh
 refine ap hC eok mixed (fun n (i : Int × Int) => bi.l3 k (⟨e68a, e68b, e68c, e68d, ⟨e68e, e68f⟩, ⟨e68g, e68h⟩, e68i, e68j⟩ : GNode) n i.1 i.2)
  (fun ⟨s77, s78⟩ => (⟨[(1, iA p1), (6, iA s77), (15, .ref (15, 0) 1 0 (len (qGNode p0b))), (16, iA (cast (len (qGNode p0b)))), (17, iA s32), (22, tA (qGOcc e68i)), (23, iA (cast (len (qGOcc e68i)))), (24, iA s78), (1000000, .mptr (0, 0) 1 0 0)], [((0, 0), .box 1 [iA p0a, .ref (15, 0) 1 0 (len (qGNode p0b)), iA p0c, iA p0d, bA p0e]), ((15, 0), .arr 1 10 (qGNode p0b))]⟩ : St))
  (fun (x86 : Int) => (⟨[(1, iA p1), (6, iA x86), (15, .ref (15, 0) 1 0 (len (qGNode p0b))), (16, iA (cast (len (qGNode p0b)))), (17, iA s32), (1000000, .mptr (0, 0) 1 0 0)], [((0, 0), .box 1 [iA p0a, .ref (15, 0) 1 0 (len (qGNode p0b)), iA p0c, iA p0d, bA p0e]), ((15, 0), .arr 1 10 (qGNode p0b))]⟩ : St)) (fun x => x) (.exit 2)
  (i0 := (_, _)) hl2 (fun _ => rfl) ?_ ?_ ?_
 ·rintro ⟨t0, t1⟩ e
  refine ah ?_
  cbv
  all_goals exact J2
 rintro x86 hx
 subst o2
 have hh := hq2
 cbv
 ·refine hN1 (_, _) _ hh fun ⟨t0, t1⟩ e => ?_
  refine ah ?_
  cbv
  all_goals exact J2
 rintro n ⟨s77, s78⟩ N2 D2 hh hN2 hD2 hQ2
 try dsimp only at hh
 unfold bi.l3 at hh
 cbv
 refine bcs (fun f88 => ?_) (fun f88 => ?_)
 replace hh := ifT hh f88
 try rw [f88]
 cbv
 replace hh := aa hh
 obtain ⟨h89, hh⟩ := hh
 replace hh := bind_some hh
 obtain ⟨⟨e90a, e90b, e90c⟩, h91, hh⟩ := hh
 try dsimp only at hh
 refine ⟨[iA e90a, iA e90b, tA (qInt e90c)], Nb h89, Gb h91, ?_⟩
 cbv
 replace hh := az hh
 rcases hh with ⟨b92, hh⟩ | ⟨b92, hh⟩
 have f93 : (lt e90b s77) = true := Tb b92
 have g := f93; cbv at g; try rw [f93]
 try rw [g]
 cbv
 ·refine hN2 (_, _) _ hh fun ⟨t0, t1⟩ e => ?_
  refine ah ?_
  cbv
  all_goals exact J2
 have f93 : (lt e90b s77) = false := Fb b92
 have g := f93; cbv at g; try rw [f93]
 try rw [g]
 cbv
 ·refine hN2 (_, _) _ hh fun ⟨t0, t1⟩ e => ?_
  refine ah ?_
  cbv
  all_goals exact J2
 replace hh := ifF hh f88
 try rw [f88]
 cbv
 ·refine hD2 _ _ hh fun t0 e => ?_
  refine ah ?_
  cbv
  all_goals exact J1
 replace hh := ifF hh f65
 try rw [f65]
 cbv
 ·refine hD1 _ _ hh fun t0 e => ?_
  refine ah ?_
  cbv
  all_goals exact J1

theorem o7 {p0 : GOcc} {c0 : Int} {r : Bool} (hh : iC.f p0 c0 = some r) : ag P 250 [.agg [iA p0.From, iA p0.To, tA (qInt p0.Ids)], .iptr [iA c0] 0] [hA, hA] (bA r) := by
 obtain ⟨p0a, p0b, p0c⟩ := p0
 unfold iC.f at hh
 refine go (ts := [(3, none)]) (rm := [.own]) (pm := [.skip, .skip]) Tryz.func250 ?_
 intro Fn LW IN len cast toNat wrap add sub mul bin lt eq At set part app fz' rep nadd nmax ssize sext sget scat seq slt Wide Flat Ones Room r' post' hC hF hr hp
 cbv
 exact Eb

theorem iV {k : Nat} {g1 : GOcc → Option Bool} {cp1_0 : Int} (hg1 : ∀ {y0 : GOcc} {r : Bool}, g1 y0 = some r → ag P 250 [.agg [iA y0.From, iA y0.To, tA (qInt y0.Ids)], .iptr [iA cp1_0] 0] [hA, hA] (bA r)) {p0 : List GOcc} {r : List GOcc} (hh : aS.f g1 k p0 = some r) : ag P 218 [tA (qGOcc p0), .clo 250 [.iptr [iA cp1_0] 0]] [hA, hA] (oA 3 (qGOcc r)) := by
 unfold aS.f at hh
 refine go (ts := [(4, none)]) (rm := [.own]) (pm := [.skip, .skip]) Tryz.func218 ?_
 intro Fn LW IN len cast toNat wrap add sub mul bin lt eq At set part app fz' rep nadd nmax ssize sext sget scat seq slt Wide Flat Ones Room r' post' hC hF hr hp
 cbv
 replace hh := bind_some hh
 obtain ⟨o1, hl1, hq1⟩ := hh
 refine ap hC eok mixed (fun n (i : (List GOcc) × Int) => aS.l0 k g1 p0 n i.1 i.2)
  (fun ⟨s12, s13⟩ => (⟨[(1, .clo 250 [.iptr [iA cp1_0] 0]), (5, .ref (5, 50) 1 0 (len (qGOcc s12))), (8, tA (qGOcc p0)), (9, iA (cast (len (qGOcc p0)))), (10, iA s13)], [((5, 50), .arr 1 3 (qGOcc s12))]⟩ : St))
  (fun (x25 : List GOcc) => (⟨[(5, .ref (5, 50) 1 0 (len (qGOcc x25)))], [((5, 50), .arr 1 3 (qGOcc x25))]⟩ : St)) (fun x => x) (.exit 0)
  (i0 := (_, _)) hl1 (fun _ => rfl) ?_ ?_ ?_
 ·rintro ⟨t0, t1⟩ e
  refine aq [] ?_
  cbv
  all_goals exact J2
 rintro x25 hx
 subst o1
 have hh := hq1
 cbv
 exact Eb
 rintro n ⟨s12, s13⟩ N1 D1 hh hN1 hD1 hQ1
 try dsimp only at hh
 unfold aS.l0 at hh
 cbv
 refine bcs (fun f27 => ?_) (fun f27 => ?_)
 replace hh := ifT hh f27
 try rw [f27]
 cbv
 replace hh := aa hh
 obtain ⟨h28, hh⟩ := hh
 replace hh := bind_some hh
 obtain ⟨⟨e29a, e29b, e29c⟩, h30, hh⟩ := hh
 try dsimp only at hh
 refine ⟨[iA e29a, iA e29b, tA (qInt e29c)], Nb h28, Gb h30, ?_⟩
 cbv
 replace hh := bind_some hh
 obtain ⟨x32, h31, hh⟩ := hh
 refine ae hF (hg1 h31) ?_
 cbv
 refine bcs (fun f35 => ?_) (fun f35 => ?_)
 replace hh := ifT hh f35
 try rw [f35]
 cbv
 replace hh := aa hh
 obtain ⟨h36, hh⟩ := hh
 refine ⟨⟨Ob, Ab⟩, ?_⟩
 refine ⟨⟨Ob, Wb h36⟩, ?_⟩
 ·refine hN1 (_, _) _ hh fun ⟨t0, t1⟩ e => ?_
  refine aq [((5, 50), (20, 0))] ?_
  cbv
  all_goals exact J2
 replace hh := ifF hh f35
 try rw [f35]
 cbv
 ·refine hN1 (_, _) _ hh fun ⟨t0, t1⟩ e => ?_
  refine ah ?_
  cbv
  all_goals exact J2
 replace hh := ifF hh f27
 try rw [f27]
 cbv
 ·refine hD1 _ _ hh fun t0 e => ?_
  refine ah ?_
  cbv
  all_goals exact J1

theorem nI {k : Nat} {p0 : List GOcc} {p1 : Int} {r : List GOcc} (hh : kK.f k p0 p1 = some r) : ag P 217 [tA (qGOcc p0), iA p1] [hA, hA] (oA 3 (qGOcc r)) := by
 unfold kK.f at hh
 refine go (ts := [(4, none)]) (rm := [.own]) (pm := [.skip, .skip]) Tryz.func217 ?_
 intro Fn LW IN len cast toNat wrap add sub mul bin lt eq At set part app fz' rep nadd nmax ssize sext sget scat seq slt Wide Flat Ones Room r' post' hC hF hr hp
 cbv
 replace hh := bind_some hh
 obtain ⟨x2, h1, hh⟩ := hh
 refine ae hF (iV hQ (g1 := fun y0 => iC.f y0 p1) (fun h => o7 hQ h) h1) ?_
 cbv
 exact Eb

theorem gr {p0 : GOcc} {c0 : Int} {r : Bool} (hh : cI.f p0 c0 = some r) : ag P 219 [.agg [iA p0.From, iA p0.To, tA (qInt p0.Ids)], .iptr [iA c0] 0] [hA, hA] (bA r) := by
 obtain ⟨p0a, p0b, p0c⟩ := p0
 unfold cI.f at hh
 refine go (ts := [(3, none)]) (rm := [.own]) (pm := [.skip, .skip]) Tryz.func219 ?_
 intro Fn LW IN len cast toNat wrap add sub mul bin lt eq At set part app fz' rep nadd nmax ssize sext sget scat seq slt Wide Flat Ones Room r' post' hC hF hr hp
 cbv
 exact Eb

theorem dz {k : Nat} {g1 : GOcc → Option Bool} {cp1_0 : Int} (hg1 : ∀ {y0 : GOcc} {r : Bool}, g1 y0 = some r → ag P 219 [.agg [iA y0.From, iA y0.To, tA (qInt y0.Ids)], .iptr [iA cp1_0] 0] [hA, hA] (bA r)) {p0 : List GOcc} {r : List GOcc} (hh : aS.f g1 k p0 = some r) : ag P 218 [tA (qGOcc p0), .clo 219 [.iptr [iA cp1_0] 0]] [hA, hA] (oA 3 (qGOcc r)) := by
 unfold aS.f at hh
 refine go (ts := [(4, none)]) (rm := [.own]) (pm := [.skip, .skip]) Tryz.func218 ?_
 intro Fn LW IN len cast toNat wrap add sub mul bin lt eq At set part app fz' rep nadd nmax ssize sext sget scat seq slt Wide Flat Ones Room r' post' hC hF hr hp
 cbv
 replace hh := bind_some hh
 obtain ⟨o1, hl1, hq1⟩ := hh
 refine ap hC eok mixed (fun n (i : (List GOcc) × Int) => aS.l0 k g1 p0 n i.1 i.2)
  (fun ⟨s12, s13⟩ => (⟨[(1, .clo 219 [.iptr [iA cp1_0] 0]), (5, .ref (5, 50) 1 0 (len (qGOcc s12))), (8, tA (qGOcc p0)), (9, iA (cast (len (qGOcc p0)))), (10, iA s13)], [((5, 50), .arr 1 3 (qGOcc s12))]⟩ : St))
  (fun (x25 : List GOcc) => (⟨[(5, .ref (5, 50) 1 0 (len (qGOcc x25)))], [((5, 50), .arr 1 3 (qGOcc x25))]⟩ : St)) (fun x => x) (.exit 0)
  (i0 := (_, _)) hl1 (fun _ => rfl) ?_ ?_ ?_
 ·rintro ⟨t0, t1⟩ e
  refine aq [] ?_
  cbv
  all_goals exact J2
 rintro x25 hx
 subst o1
 have hh := hq1
 cbv
 exact Eb
 rintro n ⟨s12, s13⟩ N1 D1 hh hN1 hD1 hQ1
 try dsimp only at hh
 unfold aS.l0 at hh
 cbv
 refine bcs (fun f27 => ?_) (fun f27 => ?_)
 replace hh := ifT hh f27
 try rw [f27]
 cbv
 replace hh := aa hh
 obtain ⟨h28, hh⟩ := hh
 replace hh := bind_some hh
 obtain ⟨⟨e29a, e29b, e29c⟩, h30, hh⟩ := hh
 try dsimp only at hh
 refine ⟨[iA e29a, iA e29b, tA (qInt e29c)], Nb h28, Gb h30, ?_⟩
 cbv
 replace hh := bind_some hh
 obtain ⟨x32, h31, hh⟩ := hh
 refine ae hF (hg1 h31) ?_
 cbv
 refine bcs (fun f35 => ?_) (fun f35 => ?_)
 replace hh := ifT hh f35
 try rw [f35]
 cbv
 replace hh := aa hh
 obtain ⟨h36, hh⟩ := hh
 refine ⟨⟨Ob, Ab⟩, ?_⟩
 refine ⟨⟨Ob, Wb h36⟩, ?_⟩
 ·refine hN1 (_, _) _ hh fun ⟨t0, t1⟩ e => ?_
  refine aq [((5, 50), (20, 0))] ?_
  cbv
  all_goals exact J2
 replace hh := ifF hh f35
 try rw [f35]
 cbv
 ·refine hN1 (_, _) _ hh fun ⟨t0, t1⟩ e => ?_
  refine ah ?_
  cbv
  all_goals exact J2
 replace hh := ifF hh f27
 try rw [f27]
 cbv
 ·refine hD1 _ _ hh fun t0 e => ?_
  refine ah ?_
  cbv
  all_goals exact J1

theorem cD {k : Nat} {g2 : GOcc → GOcc → Option Int} (hg2 : ∀ {y0 : GOcc} {y1 : GOcc} {r : Int}, g2 y0 y1 = some r → ag P 70 [.agg [iA y0.From, iA y0.To, tA (qInt y0.Ids)], .agg [iA y1.From, iA y1.To, tA (qInt y1.Ids)]] [hA, hA] (iA r)) {p0 : List GOcc} {p1 : GOcc} {r : Int × Bool} (hh : aT.f g2 k p0 p1 = some r) : ag P 182 [tA (qGOcc p0), .agg [iA p1.From, iA p1.To, tA (qInt p1.Ids)], .clo 70 []] [hA, hA, hA] (.tup [iA r.1, bA r.2]) := by
 obtain ⟨p1a, p1b, p1c⟩ := p1
 unfold aT.f at hh
 refine go (ts := [(6, none), (7, none)]) (rm := [.own, .own]) (pm := [.skip, .skip, .skip]) Tryz.func182 ?_
 intro Fn LW IN len cast toNat wrap add sub mul bin lt eq At set part app fz' rep nadd nmax ssize sext sget scat seq slt Wide Flat Ones Room r' post' hC hF hr hp
 cbv
 replace hh := bind_some hh
 obtain ⟨o1, hl1, hq1⟩ := hh
 refine ap hC eok mixed (fun n (i : Int × Int) => aT.l0 k g2 p0 (⟨p1a, p1b, p1c⟩ : GOcc) n i.1 i.2)
  (fun ⟨s12, s13⟩ => (⟨[(0, tA (qGOcc p0)), (2, .clo 70 []), (4, .mptr (4, 0) 1 0 0), (8, iA (cast (len (qGOcc p0)))), (9, iA s12), (10, iA s13)], [((4, 0), .box 1 [iA p1a, iA p1b, tA (qInt p1c)])]⟩ : St))
  (fun (x25 : Int) => (⟨[(0, tA (qGOcc p0)), (2, .clo 70 []), (4, .mptr (4, 0) 1 0 0), (8, iA (cast (len (qGOcc p0)))), (9, iA x25)], [((4, 0), .box 1 [iA p1a, iA p1b, tA (qInt p1c)])]⟩ : St)) (fun x => x) (.exit 0)
  (i0 := (_, _)) hl1 (fun _ => rfl) ?_ ?_ ?_
 ·rintro ⟨t0, t1⟩ e
  refine ah ?_
  cbv
  all_goals exact J2
 rintro x25 hx
 subst o1
 have hh := hq1
 cbv
 refine bcs (fun f38 => ?_) (fun f38 => ?_)
 replace hh := ifT hh f38
 try rw [f38]
 cbv
 replace hh := aa hh
 obtain ⟨h39, hh⟩ := hh
 replace hh := bind_some hh
 obtain ⟨⟨e40a, e40b, e40c⟩, h41, hh⟩ := hh
 try dsimp only at hh
 refine ⟨[iA e40a, iA e40b, tA (qInt e40c)], Nb h39, Gb h41, ?_⟩
 cbv
 replace hh := bind_some hh
 obtain ⟨x43, h42, hh⟩ := hh
 refine ae hF (hg2 h42) ?_
 cbv
 exact Eb
 replace hh := ifF hh f38
 try rw [f38]
 cbv
 exact Eb
 rintro n ⟨s12, s13⟩ N1 D1 hh hN1 hD1 hQ1
 try dsimp only at hh
 unfold aT.l0 at hh
 cbv
 refine bcs (fun f27 => ?_) (fun f27 => ?_)
 replace hh := ifT hh f27
 try rw [f27]
 cbv
 replace hh := aa hh
 obtain ⟨h28, hh⟩ := hh
 refine ⟨Nb h28, ?_⟩
 replace hh := aa hh
 obtain ⟨h29, hh⟩ := hh
 replace hh := bind_some hh
 obtain ⟨⟨e30a, e30b, e30c⟩, h31, hh⟩ := hh
 try dsimp only at hh
 refine ⟨[iA e30a, iA e30b, tA (qInt e30c)], Nb h29, Gb h31, ?_⟩
 cbv
 replace hh := bind_some hh
 obtain ⟨x33, h32, hh⟩ := hh
 refine ae hF (hg2 h32) ?_
 cbv
 refine bcs (fun f36 => ?_) (fun f36 => ?_)
 replace hh := ifT hh f36
 try rw [f36]
 cbv
 ·refine hN1 (_, _) _ hh fun ⟨t0, t1⟩ e => ?_
  refine ah ?_
  cbv
  all_goals exact J2
 replace hh := ifF hh f36
 try rw [f36]
 cbv
 ·refine hN1 (_, _) _ hh fun ⟨t0, t1⟩ e => ?_
  refine ah ?_
  cbv
  all_goals exact J2
 replace hh := ifF hh f27
 try rw [f27]
 cbv
 ·refine hD1 _ _ hh fun t0 e => ?_
  refine ah ?_
  cbv
  all_goals exact J1

theorem nv {p0 : List GOcc} {r : List GOcc} (hh : hO.f p0 = some r) : ag P 184 [tA (qGOcc p0)] [hA] (oA 3 (qGOcc r)) := by
 unfold hO.f at hh
 refine go (ts := [(2, none)]) (rm := [.own]) (pm := [.skip]) Tryz.func184 ?_
 intro Fn LW IN len cast toNat wrap add sub mul bin lt eq At set part app fz' rep nadd nmax ssize sext sget scat seq slt Wide Flat Ones Room r' post' hC hF hr hp
 cbv
 replace hh := aa hh
 obtain ⟨h1, hh⟩ := hh
 intro b hb
 cases b
 · cbv
   refine ⟨⟨Ab, Ab⟩, ?_⟩
   refine ⟨⟨Ob, Wb h1⟩, ?_⟩
   exact Eb
 · have e : p0 = [] := by cases hC; cases hQ; simpa using hb rfl
   cbv
   refine ⟨3, ?_⟩
   cbv
   subst e
   exact Eb


theorem my {p0 : List GOcc} {p1 : Int} {p2 : List GOcc} {r : List GOcc} (hh : fg.f p0 p1 p2 = some r) : ag P 183 [oA 3 (qGOcc p0), iA p1, oA 3 (qGOcc p2)] [hA, hA, hA] (oA 3 (qGOcc r)) := by
  cases hQ
  exact mJ hh


theorem eK {k : Nat} {p0 : List GOcc} {p1 : GOcc} {r : List GOcc} (hh : eu.f k p0 p1 = some r) : ag P 128 [tA (qGOcc p0), .agg [iA p1.From, iA p1.To, tA (qInt p1.Ids)]] [hA, hA] (tA (qGOcc r)) := by
 obtain ⟨p1a, p1b, p1c⟩ := p1
 unfold eu.f at hh
 refine go (ts := [(4, none)]) (rm := [.val]) (pm := [.skip, .skip]) Tryz.func128 ?_
 intro Fn LW IN len cast toNat wrap add sub mul bin lt eq At set part app fz' rep nadd nmax ssize sext sget scat seq slt Wide Flat Ones Room r' post' hC hF hr hp
 cbv
 replace hh := bind_some hh
 obtain ⟨⟨x2_0, x2_1⟩, h1, hh⟩ := hh
 try dsimp only at hh
 refine ae hF (cD hQ (g2 := fun y0 y1 => dg.f k y0 y1) (fun h => fS hQ h) h1) ?_
 cbv
 refine bcs (fun f5 => ?_) (fun f5 => ?_)
 replace hh := ifT hh f5
 try rw [f5]
 cbv
 exact Eb
 replace hh := ifF hh f5
 try rw [f5]
 cbv
 replace hh := bind_some hh
 obtain ⟨x7, h6, hh⟩ := hh
 refine ae hF (nv hQ h6) ?_
 cbv
 replace hh := bind_some hh
 obtain ⟨x10, h9, hh⟩ := hh
 refine ⟨Ob, ?_⟩
 refine ae hF (my hQ h9) ?_
 cbv
 exact Eb

theorem bG {k : Nat} {p0 : List GOcc} {p1 : List GOcc} {r : List GOcc} (hh : bd.f k p0 p1 = some r) : ag P 61 [tA (qGOcc p0), tA (qGOcc p1)] [hA, hA] (tA (qGOcc r)) := by
 unfold bd.f at hh
 refine go (ts := [(4, none)]) (rm := [.val]) (pm := [.skip, .skip]) Tryz.func61 ?_
 intro Fn LW IN len cast toNat wrap add sub mul bin lt eq At set part app fz' rep nadd nmax ssize sext sget scat seq slt Wide Flat Ones Room r' post' hC hF hr hp
 cbv
 replace hh := bind_some hh
 obtain ⟨o1, hl1, hq1⟩ := hh
 refine ap hC eok mixed (fun n (i : (List GOcc) × Int) => bd.l0 k p1 n i.1 i.2)
  (fun ⟨s9, s10⟩ => (⟨[(0, tA (qGOcc s9)), (7, tA (qGOcc p1)), (8, iA (cast (len (qGOcc p1)))), (9, iA s10)], []⟩ : St))
  (fun (x19 : List GOcc) => (⟨[(0, tA (qGOcc x19))], []⟩ : St)) (fun x => x) (.exit 0)
  (i0 := (_, _)) hl1 (fun _ => rfl) ?_ ?_ ?_
 ·rintro ⟨t0, t1⟩ e
  refine ah ?_
  cbv
  all_goals exact J2
 rintro x19 hx
 subst o1
 have hh := hq1
 cbv
 exact Eb
 rintro n ⟨s9, s10⟩ N1 D1 hh hN1 hD1 hQ1
 try dsimp only at hh
 unfold bd.l0 at hh
 cbv
 refine bcs (fun f21 => ?_) (fun f21 => ?_)
 replace hh := ifT hh f21
 try rw [f21]
 cbv
 replace hh := aa hh
 obtain ⟨h22, hh⟩ := hh
 replace hh := bind_some hh
 obtain ⟨⟨e23a, e23b, e23c⟩, h24, hh⟩ := hh
 try dsimp only at hh
 refine ⟨[iA e23a, iA e23b, tA (qInt e23c)], Nb h22, Gb h24, ?_⟩
 cbv
 replace hh := bind_some hh
 obtain ⟨x26, h25, hh⟩ := hh
 refine ae hF (eK hQ h25) ?_
 cbv
 ·refine hN1 (_, _) _ hh fun ⟨t0, t1⟩ e => ?_
  refine ah ?_
  cbv
  all_goals exact J2
 replace hh := ifF hh f21
 try rw [f21]
 cbv
 ·refine hD1 _ _ hh fun t0 e => ?_
  refine ah ?_
  cbv
  all_goals exact J1

theorem nP {p0 : List Int} {p1 : Int} {r : List Int} (hh : fZ.f p0 p1 = some r) : ag P 288 [.lit (.slice none 0 0), iA p1] [hA, hA] (oA 1 (qInt r)) := by
  cases hQ
  exact nR hh


theorem mF {k : Nat} {p0 : List (List Int)} {r : List Int} (hh : bm.f k p0 = some r) : ag P 271 [tA (qLInt p0)] [hA] (oA 1 (qInt r)) := by
 unfold bm.f at hh
 refine go (ts := [(2, none)]) (rm := [.own]) (pm := [.skip]) Tryz.func271 ?_
 intro Fn LW IN len cast toNat wrap add sub mul bin lt eq At set part app fz' rep nadd nmax ssize sext sget scat seq slt Wide Flat Ones Room r' post' hC hF hr hp
 cbv
 replace hh := bind_some hh
 obtain ⟨o1, hl1, hq1⟩ := hh
 refine ap hC eok mixed (fun n (i : Int × Int) => bm.l0 k p0 n i.1 i.2)
  (fun ⟨s8, s9⟩ => (⟨[(0, tA (qLInt p0)), (3, iA s8), (9, tA (qLInt p0)), (10, iA (cast (len (qLInt p0)))), (11, iA s9)], []⟩ : St))
  (fun (x17 : Int) => (⟨[(0, tA (qLInt p0)), (3, iA x17)], []⟩ : St)) (fun x => x) (.exit 0)
  (i0 := (_, _)) hl1 (fun _ => rfl) ?_ ?_ ?_
 ·rintro ⟨t0, t1⟩ e
  refine ah ?_
  cbv
  all_goals exact J2
 rintro x17 hx
 subst o1
 have hh := hq1
 cbv
 replace hh := bind_some hh
 obtain ⟨x26, h25, hh⟩ := hh
 refine ae hF (nP hQ h25) ?_
 cbv
 replace hh := bind_some hh
 obtain ⟨o1, hl1, hq1⟩ := hh
 refine ap hC eok mixed (fun n (i : (List Int) × Int) => bm.l1 k p0 n i.1 i.2)
  (fun ⟨s34, s35⟩ => (⟨[(6, .ref (24, 0) 1 0 (len (qInt s34))), (25, tA (qLInt p0)), (26, iA (cast (len (qLInt p0)))), (27, iA s35)], [((24, 0), .arr 1 1 (qInt s34))]⟩ : St))
  (fun (x42 : List Int) => (⟨[(6, .ref (24, 0) 1 0 (len (qInt x42)))], [((24, 0), .arr 1 1 (qInt x42))]⟩ : St)) (fun x => x) (.exit 2)
  (i0 := (_, _)) hl1 (fun _ => rfl) ?_ ?_ ?_
 ·rintro ⟨t0, t1⟩ e
  refine ah ?_
  cbv
  all_goals exact J2
 rintro x42 hx
 subst o1
 have hh := hq1
 cbv
 exact Eb
 rintro n ⟨s34, s35⟩ N1 D1 hh hN1 hD1 hQ1
 try dsimp only at hh
 unfold bm.l1 at hh
 cbv
 refine bcs (fun f44 => ?_) (fun f44 => ?_)
 replace hh := ifT hh f44
 try rw [f44]
 cbv
 replace hh := aa hh
 obtain ⟨h45, hh⟩ := hh
 replace hh := bind_some hh
 obtain ⟨e46, h47, hh⟩ := hh
 refine ⟨[tA (qInt e46)], Nb h45, Gb h47, ?_⟩
 cbv
 replace hh := aa hh
 obtain ⟨h48, hh⟩ := hh
 refine ⟨⟨Ab, Ab⟩, ?_⟩
 refine ⟨⟨Ob, Wb h48⟩, ?_⟩
 ·refine hN1 (_, _) _ hh fun ⟨t0, t1⟩ e => ?_
  refine aq [((24, 0), (33, 0))] ?_
  cbv
  all_goals exact J2
 replace hh := ifF hh f44
 try rw [f44]
 cbv
 ·refine hD1 _ _ hh fun t0 e => ?_
  refine ah ?_
  cbv
  all_goals exact J1
 rintro n ⟨s8, s9⟩ N1 D1 hh hN1 hD1 hQ1
 try dsimp only at hh
 unfold bm.l0 at hh
 cbv
 refine bcs (fun f19 => ?_) (fun f19 => ?_)
 replace hh := ifT hh f19
 try rw [f19]
 cbv
 replace hh := aa hh
 obtain ⟨h20, hh⟩ := hh
 replace hh := bind_some hh
 obtain ⟨e21, h22, hh⟩ := hh
 refine ⟨[tA (qInt e21)], Nb h20, Gb h22, ?_⟩
 cbv
 refine bcs (fun f24 => ?_) (fun f24 => ?_)
 replace hh := ifT hh f24
 try rw [f24]
 cbv
 cases hh
 replace hh := ifF hh f24
 try rw [f24]
 cbv
 ·refine hN1 (_, _) _ hh fun ⟨t0, t1⟩ e => ?_
  refine ah ?_
  cbv
  all_goals exact J2
 replace hh := ifF hh f19
 try rw [f19]
 cbv
 ·refine hD1 _ _ hh fun t0 e => ?_
  refine ah ?_
  cbv
  all_goals exact J1
theorem j4 {k : Nat} {p0 : List (List Int)} {r : List Int} (hh : bm.f k p0 = some r) : ag P 271 [oA 1 (qLInt p0)] [oA 1 (qLInt p0)] (oA 1 (qInt r)) := by
  cases hQ; exact (mF .mk hh).lend (pK _) (.lend (congrArg A.tree (nE _).symm) .nil)

theorem nX {p0 : List Int} {r : List Int} (hh : gf.f p0 = some r) : ag P 252 [oA 1 (qInt p0)] [oA 1 (qInt r)] (.tup []) := by
  cases hQ
  exact nY hh


theorem eb {p0 : List Int} {r : List Int} (hh : cG.f p0 = some r) : ag P 253 [oA 1 (qInt p0)] [hA] (tA (qInt r)) := by
  cases hQ
  exact lv hh


theorem gi {k : Nat} {p0 : GOcc} {p1 : GOcc} {r : GOcc} (hh : fv.f k p0 p1 = some r) : ag P 254 [.agg [iA p0.From, iA p0.To, tA (qInt p0.Ids)], .agg [iA p1.From, iA p1.To, tA (qInt p1.Ids)]] [hA, hA] (.agg [iA r.From, iA r.To, oA 1 (qInt r.Ids)]) := by
 obtain ⟨p0a, p0b, p0c⟩ := p0
 obtain ⟨p1a, p1b, p1c⟩ := p1
 unfold fv.f at hh
 refine go (ts := [(4, some 67)]) (rm := [.own]) (pm := [.skip, .skip]) Tryz.func254 ?_
 intro Fn LW IN len cast toNat wrap add sub mul bin lt eq At set part app fz' rep nadd nmax ssize sext sget scat seq slt Wide Flat Ones Room r' post' hC hF hr hp
 cbv
 replace hh := bind_some hh
 obtain ⟨x2, h1, hh⟩ := hh
 refine ⟨Ob, ?_⟩
 refine ae hF (j4 hQ h1) ?_
 cbv
 replace hh := bind_some hh
 obtain ⟨x5, h4, hh⟩ := hh
 replace hh := aa hh
 obtain ⟨h29, hh⟩ := hh
 refine ae hF (nX hQ h4) ?_
 cbv
 replace hh := az hh
 rcases hh with ⟨b7, hh⟩ | ⟨b7, hh⟩
 have f8 : (lt p1a p0a) = true := Tb b7
 have g := f8; cbv at g; try rw [f8]
 try rw [g]
 cbv
 replace hh := az hh
 rcases hh with ⟨b9, hh⟩ | ⟨b9, hh⟩
 have f10 : (lt p0b p1b) = true := Tb b9
 have g := f10; cbv at g; try rw [f10]
 try rw [g]
 cbv
 replace hh := bind_some hh
 obtain ⟨x12, h11, hh⟩ := hh
 refine ⟨Ob, ?_⟩
 refine ae hF (eb hQ h11) ?_
 cbv
 replace hh := aa hh
 obtain ⟨h14, hh⟩ := hh
 refine ⟨⟨Ab, Ab⟩, ?_⟩
 refine ⟨Wb h14, ?_⟩
 exact Eb
 have f10 : (lt p0b p1b) = false := Fb b9
 have g := f10; cbv at g; try rw [f10]
 try rw [g]
 cbv
 replace hh := bind_some hh
 obtain ⟨x16, h15, hh⟩ := hh
 refine ⟨Ob, ?_⟩
 refine ae hF (eb hQ h15) ?_
 cbv
 replace hh := aa hh
 obtain ⟨h18, hh⟩ := hh
 refine ⟨⟨Ab, Ab⟩, ?_⟩
 refine ⟨Wb h18, ?_⟩
 exact Eb
 have f8 : (lt p1a p0a) = false := Fb b7
 have g := f8; cbv at g; try rw [f8]
 try rw [g]
 cbv
 replace hh := az hh
 rcases hh with ⟨b19, hh⟩ | ⟨b19, hh⟩
 have f20 : (lt p0b p1b) = true := Tb b19
 have g := f20; cbv at g; try rw [f20]
 try rw [g]
 cbv
 replace hh := bind_some hh
 obtain ⟨x22, h21, hh⟩ := hh
 refine ⟨Ob, ?_⟩
 refine ae hF (eb hQ h21) ?_
 cbv
 replace hh := aa hh
 obtain ⟨h24, hh⟩ := hh
 refine ⟨⟨Ab, Ab⟩, ?_⟩
 refine ⟨Wb h24, ?_⟩
 exact Eb
 have f20 : (lt p0b p1b) = false := Fb b19
 have g := f20; cbv at g; try rw [f20]
 try rw [g]
 cbv
 replace hh := bind_some hh
 obtain ⟨x26, h25, hh⟩ := hh
 refine ⟨Ob, ?_⟩
 refine ae hF (eb hQ h25) ?_
 cbv
 replace hh := aa hh
 obtain ⟨h28, hh⟩ := hh
 refine ⟨⟨Ab, Ab⟩, ?_⟩
 refine ⟨Wb h28, ?_⟩
 exact Eb

theorem dN {k : Nat} {p0 : Int} {p1 : GOcc} {p2 : List GOcc} {r : (List GOcc) × (List GOcc)} (hh : bf.f k p0 p1 p2 = some r) : ag P 233 [iA p0, .agg [iA p1.From, iA p1.To, tA (qInt p1.Ids)], tA (qGOcc p2)] [hA, hA, hA] (.tup [tA (qGOcc r.1), tA (qGOcc r.2)]) := by
 obtain ⟨p1a, p1b, p1c⟩ := p1
 unfold bf.f at hh
 refine go (ts := [(6, none), (7, none)]) (rm := [.val, .val]) (pm := [.skip, .skip, .skip]) Tryz.func233 ?_
 intro Fn LW IN len cast toNat wrap add sub mul bin lt eq At set part app fz' rep nadd nmax ssize sext sget scat seq slt Wide Flat Ones Room r' post' hC hF hr hp
 cbv
 refine bcs (fun f2 => ?_) (fun f2 => ?_)
 replace hh := ifT hh f2
 try rw [f2]
 cbv
 exact Eb
 replace hh := ifF hh f2
 try rw [f2]
 cbv
 refine bcs (fun f4 => ?_) (fun f4 => ?_)
 replace hh := ifT hh f4
 try rw [f4]
 cbv
 replace hh := aa hh
 obtain ⟨h5, hh⟩ := hh
 replace hh := bind_some hh
 obtain ⟨⟨e6a, e6b, e6c⟩, h7, hh⟩ := hh
 try dsimp only at hh
 refine ⟨[iA e6a, iA e6b, tA (qInt e6c)], Nb h5, Gb h7, ?_⟩
 cbv
 replace hh := bind_some hh
 obtain ⟨⟨x9a, x9b, x9c⟩, h8, hh⟩ := hh
 try dsimp only at hh
 have fc := gi hQ h8
 try dsimp only at fc
 refine ae hF fc ?_
 cbv
 exact Eb
 replace hh := ifF hh f4
 try rw [f4]
 cbv
 refine bcs (fun f12 => ?_) (fun f12 => ?_)
 replace hh := ifT hh f12
 try rw [f12]
 cbv
 replace hh := aa hh
 obtain ⟨h13, hh⟩ := hh
 replace hh := bind_some hh
 obtain ⟨⟨e14a, e14b, e14c⟩, h15, hh⟩ := hh
 try dsimp only at hh
 refine ⟨[iA e14a, iA e14b, tA (qInt e14c)], Nb h13, Gb h15, ?_⟩
 cbv
 replace hh := bind_some hh
 obtain ⟨⟨x17a, x17b, x17c⟩, h16, hh⟩ := hh
 try dsimp only at hh
 have fc := gi hQ h16
 try dsimp only at fc
 refine ae hF fc ?_
 cbv
 replace hh := aa hh
 obtain ⟨h19, hh⟩ := hh
 replace hh := aa hh
 obtain ⟨h20, hh⟩ := hh
 replace hh := aa hh
 obtain ⟨h21, hh⟩ := hh
 refine ⟨⟨Nb h19, Nb h20, Nb h21, Ab⟩, ?_⟩
 exact Eb
 replace hh := ifF hh f12
 try rw [f12]
 cbv
 refine bcs (fun f23 => ?_) (fun f23 => ?_)
 replace hh := ifT hh f23
 try rw [f23]
 cbv
 replace hh := bind_some hh
 obtain ⟨o1, hl1, hq1⟩ := hh
 refine ap hC eok mixed (fun n (i : Int × Int × (List Int) × Int) => bf.l0 k p2 n i.1 i.2.1 i.2.2.1 i.2.2.2)
  (fun ⟨s32, s33, s34, s35⟩ => (⟨[(2, tA (qGOcc p2)), (4, .mptr (4, 0) 1 0 0), (39, tA (qGOcc p2)), (40, iA (cast (len (qGOcc p2)))), (41, iA s35)], [((4, 0), .box 1 [iA s32, iA s33, tA (qInt s34)])]⟩ : St))
  (fun (⟨x44, x45, x46⟩ : Int × Int × (List Int)) => (⟨[(2, tA (qGOcc p2)), (4, .mptr (4, 0) 1 0 0)], [((4, 0), .box 1 [iA x44, iA x45, tA (qInt x46)])]⟩ : St)) (fun x => x) (.exit 1)
  (i0 := (_, _, _, _)) hl1 (fun _ => rfl) ?_ ?_ ?_
 ·rintro ⟨t0, t1, t2, t3⟩ e
  refine ah ?_
  cbv
  all_goals exact J4
 rintro ⟨x44, x45, x46⟩ hx
 subst o1
 have hh := hq1
 cbv
 exact Eb
 rintro n ⟨s32, s33, s34, s35⟩ N1 D1 hh hN1 hD1 hQ1
 try dsimp only at hh
 unfold bf.l0 at hh
 cbv
 refine bcs (fun f48 => ?_) (fun f48 => ?_)
 replace hh := ifT hh f48
 try rw [f48]
 cbv
 replace hh := aa hh
 obtain ⟨h49, hh⟩ := hh
 replace hh := bind_some hh
 obtain ⟨⟨e50a, e50b, e50c⟩, h51, hh⟩ := hh
 try dsimp only at hh
 refine ⟨[iA e50a, iA e50b, tA (qInt e50c)], Nb h49, Gb h51, ?_⟩
 cbv
 replace hh := bind_some hh
 obtain ⟨⟨x53a, x53b, x53c⟩, h52, hh⟩ := hh
 try dsimp only at hh
 have fc := ag.frz (r' := .agg [iA x53a, iA x53b, tA (qInt x53c)]) (gi hQ h52) (by cases hQ; simp)
 try dsimp only at fc
 refine ae hF fc ?_
 cbv
 ·refine hN1 (_, _, _, _) _ hh fun ⟨t0, t1, t2, t3⟩ e => ?_
  refine ah ?_
  cbv
  all_goals exact J4
 replace hh := ifF hh f48
 try rw [f48]
 cbv
 ·refine hD1 (_, _, _) _ hh fun ⟨t0, t1, t2⟩ e => ?_
  refine ah ?_
  cbv
  all_goals exact J3
 replace hh := ifF hh f23
 try rw [f23]
 cbv
 replace hh := bind_some hh
 obtain ⟨o1, hl1, hq1⟩ := hh
 refine ap hC eok mixed (fun n (i : (List GOcc) × Int) => bf.l1 k (⟨p1a, p1b, p1c⟩ : GOcc) p2 n i.1 i.2)
  (fun ⟨s66, s67⟩ => (⟨[(0, iA p0), (2, tA (qGOcc p2)), (4, .mptr (4, 0) 1 0 0), (6, tA (qGOcc s66)), (7, .lit (.slice none 0 0)), (52, tA (qGOcc p2)), (53, iA (cast (len (qGOcc p2)))), (54, iA s67)], [((4, 0), .box 1 [iA p1a, iA p1b, tA (qInt p1c)])]⟩ : St))
  (fun (x79 : List GOcc) => (⟨[(0, iA p0), (2, tA (qGOcc p2)), (6, tA (qGOcc x79)), (7, .lit (.slice none 0 0))], []⟩ : St)) (fun x => x) (.exit 3)
  (i0 := (_, _)) hl1 (fun _ => rfl) ?_ ?_ ?_
 ·rintro ⟨t0, t1⟩ e
  refine ah ?_
  cbv
  all_goals exact J2
 rintro x79 hx
 subst o1
 have hh := hq1
 cbv
 refine bcs (fun f92 => ?_) (fun f92 => ?_)
 replace hh := ifT hh f92
 try rw [f92]
 cbv
 exact Eb
 replace hh := ifF hh f92
 try rw [f92]
 cbv
 exact Eb
 rintro n ⟨s66, s67⟩ N1 D1 hh hN1 hD1 hQ1
 try dsimp only at hh
 unfold bf.l1 at hh
 cbv
 refine bcs (fun f81 => ?_) (fun f81 => ?_)
 replace hh := ifT hh f81
 try rw [f81]
 cbv
 replace hh := aa hh
 obtain ⟨h82, hh⟩ := hh
 replace hh := bind_some hh
 obtain ⟨⟨e83a, e83b, e83c⟩, h84, hh⟩ := hh
 try dsimp only at hh
 refine ⟨[iA e83a, iA e83b, tA (qInt e83c)], Nb h82, Gb h84, ?_⟩
 cbv
 replace hh := bind_some hh
 obtain ⟨⟨x86a, x86b, x86c⟩, h85, hh⟩ := hh
 try dsimp only at hh
 have fc := gi hQ h85
 try dsimp only at fc
 refine ae hF fc ?_
 cbv
 replace hh := bind_some hh
 obtain ⟨x89, h88, hh⟩ := hh
 refine ⟨Ob, ?_⟩
 refine ae hF (eK hQ h88) ?_
 cbv
 ·refine hN1 (_, _) _ hh fun ⟨t0, t1⟩ e => ?_
  refine ah ?_
  cbv
  all_goals exact J2
 replace hh := ifF hh f81
 try rw [f81]
 cbv
 ·refine hD1 _ _ hh fun t0 e => ?_
  refine ah ?_
  cbv
  all_goals exact J1

theorem eU {k : Nat} {p0 : List GOcc} {p1 : List GOcc} {r : List GOcc} (hh : bP.f k p0 p1 = some r) : ag P 234 [tA (qGOcc p0), tA (qGOcc p1)] [hA, hA] (oA 3 (qGOcc r)) := by
 unfold bP.f at hh
 refine go (ts := [(4, none)]) (rm := [.own]) (pm := [.skip, .skip]) Tryz.func234 ?_
 intro Fn LW IN len cast toNat wrap add sub mul bin lt eq At set part app fz' rep nadd nmax ssize sext sget scat seq slt Wide Flat Ones Room r' post' hC hF hr hp
 cbv
 replace hh := bind_some hh
 obtain ⟨o1, hl1, hq1⟩ := hh
 refine ap hC eok mixed (fun n (i : (List GOcc) × Int) => bP.l0 k p0 p1 n i.1 i.2)
  (fun ⟨s12, s13⟩ => (⟨[(1, tA (qGOcc p1)), (5, .ref (5, 50) 1 0 (len (qGOcc s12))), (10, tA (qGOcc p0)), (11, iA (cast (len (qGOcc p0)))), (12, iA s13)], [((5, 50), .arr 1 3 (qGOcc s12))]⟩ : St))
  (fun (x25 : List GOcc) => (⟨[(5, .ref (5, 50) 1 0 (len (qGOcc x25)))], [((5, 50), .arr 1 3 (qGOcc x25))]⟩ : St)) (fun x => x) (.exit 0)
  (i0 := (_, _)) hl1 (fun _ => rfl) ?_ ?_ ?_
 ·rintro ⟨t0, t1⟩ e
  refine aq [] ?_
  cbv
  all_goals exact J2
 rintro x25 hx
 subst o1
 have hh := hq1
 cbv
 exact Eb
 rintro n ⟨s12, s13⟩ N1 D1 hh hN1 hD1 hQ1
 try dsimp only at hh
 unfold bP.l0 at hh
 cbv
 refine bcs (fun f27 => ?_) (fun f27 => ?_)
 replace hh := ifT hh f27
 try rw [f27]
 cbv
 replace hh := aa hh
 obtain ⟨h28, hh⟩ := hh
 replace hh := bind_some hh
 obtain ⟨⟨e29a, e29b, e29c⟩, h30, hh⟩ := hh
 try dsimp only at hh
 refine ⟨[iA e29a, iA e29b, tA (qInt e29c)], Nb h28, Gb h30, ?_⟩
 cbv
 replace hh := bind_some hh
 obtain ⟨⟨x32_0, x32_1⟩, h31, hh⟩ := hh
 try dsimp only at hh
 refine ae hF (cD hQ (g2 := fun y0 y1 => dg.f k y0 y1) (fun h => fS hQ h) h31) ?_
 cbv
 replace hh := az hh
 rcases hh with ⟨b34, hh⟩ | ⟨b34, hh⟩
 have f35 : x32_1 = true := Tb b34
 have g := f35; cbv at g; try rw [f35]
 try rw [g]
 cbv
 ·refine hN1 (_, _) _ hh fun ⟨t0, t1⟩ e => ?_
  refine ah ?_
  cbv
  all_goals exact J2
 have f35 : x32_1 = false := Fb b34
 have g := f35; cbv at g; try rw [f35]
 try rw [g]
 cbv
 replace hh := aa hh
 obtain ⟨h36, hh⟩ := hh
 refine ⟨⟨Ob, Ab⟩, ?_⟩
 refine ⟨⟨Ob, Wb h36⟩, ?_⟩
 ·refine hN1 (_, _) _ hh fun ⟨t0, t1⟩ e => ?_
  refine aq [((5, 50), (27, 0))] ?_
  cbv
  all_goals exact J2
 replace hh := ifF hh f27
 try rw [f27]
 cbv
 ·refine hD1 _ _ hh fun t0 e => ?_
  refine ah ?_
  cbv
  all_goals exact J1

theorem kt {k : Nat} {p0 : Int} {p1 : List GOcc} {p2 : GOcc} {p3 : Bool} {r : List GOcc} (hh : gG.f k p0 p1 p2 p3 = some r) : ag P 235 [iA p0, tA (qGOcc p1), .agg [iA p2.From, iA p2.To, tA (qInt p2.Ids)], bA p3] [hA, hA, hA, hA] (tA (qGOcc r)) := by
 obtain ⟨p2a, p2b, p2c⟩ := p2
 unfold gG.f at hh
 refine go (ts := [(8, none)]) (rm := [.val]) (pm := [.skip, .skip, .skip, .skip]) Tryz.func235 ?_
 intro Fn LW IN len cast toNat wrap add sub mul bin lt eq At set part app fz' rep nadd nmax ssize sext sget scat seq slt Wide Flat Ones Room r' post' hC hF hr hp
 cbv
 refine bcs (fun f2 => ?_) (fun f2 => ?_)
 replace hh := ifT hh f2
 try rw [f2]
 cbv
 exact Eb
 replace hh := ifF hh f2
 try rw [f2]
 cbv
 refine bcs (fun f4 => ?_) (fun f4 => ?_)
 replace hh := ifT hh f4
 try rw [f4]
 cbv
 replace hh := bind_some hh
 obtain ⟨x6, h5, hh⟩ := hh
 refine ae hF (eK hQ h5) ?_
 cbv
 exact Eb
 replace hh := ifF hh f4
 try rw [f4]
 cbv
 refine bcs (fun f9 => ?_) (fun f9 => ?_)
 replace hh := ifT hh f9
 try rw [f9]
 cbv
 replace hh := bind_some hh
 obtain ⟨x11, h10, hh⟩ := hh
 refine ae hF (eK hQ h10) ?_
 cbv
 exact Eb
 replace hh := ifF hh f9
 try rw [f9]
 cbv
 exact Eb

theorem iM {k : Nat} {p0 : GPair} {p1 : Int} {p2 : List GOcc} {p3 : List GOcc} {r : GPair × (List GOcc)} (hh : bl.f k p0 p1 p2 p3 = some r) : ag P 197 [.agg [tA (qGOcc p0.Left), tA (qGOcc p0.Right)], iA p1, tA (qGOcc p2), tA (qGOcc p3)] [hA, hA, hA, hA] (.tup [.agg [tA (qGOcc r.1.Left), tA (qGOcc r.1.Right)], tA (qGOcc r.2)]) := by
 obtain ⟨p0a, p0b⟩ := p0
 unfold bl.f at hh
 refine go (ts := [(8, some 171), (9, none)]) (rm := [.val, .val]) (pm := [.skip, .skip, .skip, .skip]) Tryz.func197 ?_
 intro Fn LW IN len cast toNat wrap add sub mul bin lt eq At set part app fz' rep nadd nmax ssize sext sget scat seq slt Wide Flat Ones Room r' post' hC hF hr hp
 cbv
 replace hh := bind_some hh
 obtain ⟨o1, hl1, hq1⟩ := hh
 refine ap hC eok mixed (fun n (i : (List GOcc) × (List GOcc) × (List GOcc) × Int) => bl.l0 k p1 p2 n i.1 i.2.1 i.2.2.1 i.2.2.2)
  (fun ⟨s18, s19, s20, s21⟩ => (⟨[(1, iA p1), (3, tA (qGOcc p3)), (4, .mptr (4, 0) 1 0 0), (8, .mptr (8, 0) 1 0 0), (10, tA (qGOcc s20)), (19, tA (qGOcc p2)), (20, iA (cast (len (qGOcc p2)))), (21, iA s21)], [((4, 0), .box 1 [tA (qGOcc s18), tA (qGOcc s19)]), ((8, 0), .box 1 [.lit (.slice none 0 0), .lit (.slice none 0 0)])]⟩ : St))
  (fun (⟨x39, x40, x41⟩ : (List GOcc) × (List GOcc) × (List GOcc)) => (⟨[(1, iA p1), (3, tA (qGOcc p3)), (4, .mptr (4, 0) 1 0 0), (8, .mptr (8, 0) 1 0 0), (10, tA (qGOcc x41))], [((4, 0), .box 1 [tA (qGOcc x39), tA (qGOcc x40)]), ((8, 0), .box 1 [.lit (.slice none 0 0), .lit (.slice none 0 0)])]⟩ : St)) (fun x => x) (.exit 0)
  (i0 := (_, _, _, _)) hl1 (fun _ => rfl) ?_ ?_ ?_
 ·rintro ⟨t0, t1, t2, t3⟩ e
  refine ah ?_
  cbv
  all_goals exact J4
 rintro ⟨x39, x40, x41⟩ hx
 subst o1
 have hh := hq1
 cbv
 replace hh := bind_some hh
 obtain ⟨o1, hl1, hq1⟩ := hh
 refine ap hC eok mixed (fun n (i : (List GOcc) × (List GOcc) × (List GOcc) × Int) => bl.l1 k p1 p3 n i.1 i.2.1 i.2.2.1 i.2.2.2)
  (fun ⟨s76, s77, s78, s79⟩ => (⟨[(1, iA p1), (4, .mptr (4, 0) 1 0 0), (8, .mptr (8, 0) 1 0 0), (10, tA (qGOcc s78)), (51, tA (qGOcc p3)), (52, iA (cast (len (qGOcc p3)))), (53, iA s79)], [((4, 0), .box 1 [tA (qGOcc s76), tA (qGOcc s77)]), ((8, 0), .box 1 [.lit (.slice none 0 0), .lit (.slice none 0 0)])]⟩ : St))
  (fun (⟨x97, x98, x99⟩ : (List GOcc) × (List GOcc) × (List GOcc)) => (⟨[(4, .mptr (4, 0) 1 0 0), (8, .mptr (8, 0) 1 0 0), (10, tA (qGOcc x99))], [((4, 0), .box 1 [tA (qGOcc x97), tA (qGOcc x98)]), ((8, 0), .box 1 [.lit (.slice none 0 0), .lit (.slice none 0 0)])]⟩ : St)) (fun x => x) (.exit 2)
  (i0 := (_, _, _, _)) hl1 (fun _ => rfl) ?_ ?_ ?_
 ·rintro ⟨t0, t1, t2, t3⟩ e
  refine ah ?_
  cbv
  all_goals exact J4
 rintro ⟨x97, x98, x99⟩ hx
 subst o1
 have hh := hq1
 cbv
 exact Eb
 rintro n ⟨s76, s77, s78, s79⟩ N1 D1 hh hN1 hD1 hQ1
 try dsimp only at hh
 unfold bl.l1 at hh
 cbv
 refine bcs (fun f101 => ?_) (fun f101 => ?_)
 replace hh := ifT hh f101
 try rw [f101]
 cbv
 replace hh := aa hh
 obtain ⟨h102, hh⟩ := hh
 replace hh := bind_some hh
 obtain ⟨⟨e103a, e103b, e103c⟩, h104, hh⟩ := hh
 try dsimp only at hh
 refine ⟨[iA e103a, iA e103b, tA (qInt e103c)], Nb h102, Gb h104, ?_⟩
 cbv
 replace hh := bind_some hh
 obtain ⟨⟨x106_0, x106_1⟩, h105, hh⟩ := hh
 try dsimp only at hh
 have fc := dN hQ h105
 try dsimp only at fc
 refine ae hF fc ?_
 cbv
 replace hh := bind_some hh
 obtain ⟨x109, h108, hh⟩ := hh
 refine ae hF (bG hQ h108) ?_
 cbv
 replace hh := bind_some hh
 obtain ⟨x112, h111, hh⟩ := hh
 refine ae hF (ag.frz (r' := tA (qGOcc x112)) (eU hQ h111) (by cases hQ; simp)) ?_
 cbv
 replace hh := bind_some hh
 obtain ⟨x115, h114, hh⟩ := hh
 refine ae hF (kt hQ h114) ?_
 cbv
 ·refine hN1 (_, _, _, _) _ hh fun ⟨t0, t1, t2, t3⟩ e => ?_
  refine ah ?_
  cbv
  all_goals exact J4
 replace hh := ifF hh f101
 try rw [f101]
 cbv
 ·refine hD1 (_, _, _) _ hh fun ⟨t0, t1, t2⟩ e => ?_
  refine ah ?_
  cbv
  all_goals exact J3
 rintro n ⟨s18, s19, s20, s21⟩ N1 D1 hh hN1 hD1 hQ1
 try dsimp only at hh
 unfold bl.l0 at hh
 cbv
 refine bcs (fun f43 => ?_) (fun f43 => ?_)
 replace hh := ifT hh f43
 try rw [f43]
 cbv
 replace hh := aa hh
 obtain ⟨h44, hh⟩ := hh
 replace hh := bind_some hh
 obtain ⟨⟨e45a, e45b, e45c⟩, h46, hh⟩ := hh
 try dsimp only at hh
 refine ⟨[iA e45a, iA e45b, tA (qInt e45c)], Nb h44, Gb h46, ?_⟩
 cbv
 replace hh := bind_some hh
 obtain ⟨⟨x48_0, x48_1⟩, h47, hh⟩ := hh
 try dsimp only at hh
 have fc := dN hQ h47
 try dsimp only at fc
 refine ae hF fc ?_
 cbv
 replace hh := bind_some hh
 obtain ⟨x51, h50, hh⟩ := hh
 refine ae hF (bG hQ h50) ?_
 cbv
 replace hh := bind_some hh
 obtain ⟨x54, h53, hh⟩ := hh
 refine ae hF (ag.frz (r' := tA (qGOcc x54)) (eU hQ h53) (by cases hQ; simp)) ?_
 cbv
 replace hh := bind_some hh
 obtain ⟨x57, h56, hh⟩ := hh
 refine ae hF (kt hQ h56) ?_
 cbv
 ·refine hN1 (_, _, _, _) _ hh fun ⟨t0, t1, t2, t3⟩ e => ?_
  refine ah ?_
  cbv
  all_goals exact J4
 replace hh := ifF hh f43
 try rw [f43]
 cbv
 ·refine hD1 (_, _, _) _ hh fun ⟨t0, t1, t2⟩ e => ?_
  refine ah ?_
  cbv
  all_goals exact J3

theorem kV {p0 : GOcc} {c0 : GOcc} {r : Bool} (hh : ej.f p0 c0 = some r) : ag P 236 [.agg [iA p0.From, iA p0.To, tA (qInt p0.Ids)], .iptr [iA c0.From, iA c0.To, tA (qInt c0.Ids)] 0] [hA, hA] (bA r) := by
 obtain ⟨p0a, p0b, p0c⟩ := p0
 obtain ⟨c0a, c0b, c0c⟩ := c0
 unfold ej.f at hh
 refine go (ts := [(3, none)]) (rm := [.own]) (pm := [.skip, .skip]) Tryz.func236 ?_
 intro Fn LW IN len cast toNat wrap add sub mul bin lt eq At set part app fz' rep nadd nmax ssize sext sget scat seq slt Wide Flat Ones Room r' post' hC hF hr hp
 cbv
 exact Eb

theorem fV {k : Nat} {g1 : GOcc → Option Bool} {cp1_0 : GOcc} (hg1 : ∀ {y0 : GOcc} {r : Bool}, g1 y0 = some r → ag P 236 [.agg [iA y0.From, iA y0.To, tA (qInt y0.Ids)], .iptr [iA cp1_0.From, iA cp1_0.To, tA (qInt cp1_0.Ids)] 0] [hA, hA] (bA r)) {p0 : List GOcc} {r : List GOcc} (hh : aS.f g1 k p0 = some r) : ag P 218 [tA (qGOcc p0), .clo 236 [.iptr [iA cp1_0.From, iA cp1_0.To, tA (qInt cp1_0.Ids)] 0]] [hA, hA] (oA 3 (qGOcc r)) := by
 obtain ⟨cp1_0a, cp1_0b, cp1_0c⟩ := cp1_0
 unfold aS.f at hh
 refine go (ts := [(4, none)]) (rm := [.own]) (pm := [.skip, .skip]) Tryz.func218 ?_
 intro Fn LW IN len cast toNat wrap add sub mul bin lt eq At set part app fz' rep nadd nmax ssize sext sget scat seq slt Wide Flat Ones Room r' post' hC hF hr hp
 cbv
 replace hh := bind_some hh
 obtain ⟨o1, hl1, hq1⟩ := hh
 refine ap hC eok mixed (fun n (i : (List GOcc) × Int) => aS.l0 k g1 p0 n i.1 i.2)
  (fun ⟨s12, s13⟩ => (⟨[(1, .clo 236 [.iptr [iA cp1_0a, iA cp1_0b, tA (qInt cp1_0c)] 0]), (5, .ref (5, 50) 1 0 (len (qGOcc s12))), (8, tA (qGOcc p0)), (9, iA (cast (len (qGOcc p0)))), (10, iA s13)], [((5, 50), .arr 1 3 (qGOcc s12))]⟩ : St))
  (fun (x25 : List GOcc) => (⟨[(5, .ref (5, 50) 1 0 (len (qGOcc x25)))], [((5, 50), .arr 1 3 (qGOcc x25))]⟩ : St)) (fun x => x) (.exit 0)
  (i0 := (_, _)) hl1 (fun _ => rfl) ?_ ?_ ?_
 ·rintro ⟨t0, t1⟩ e
  refine aq [] ?_
  cbv
  all_goals exact J2
 rintro x25 hx
 subst o1
 have hh := hq1
 cbv
 exact Eb
 rintro n ⟨s12, s13⟩ N1 D1 hh hN1 hD1 hQ1
 try dsimp only at hh
 unfold aS.l0 at hh
 cbv
 refine bcs (fun f27 => ?_) (fun f27 => ?_)
 replace hh := ifT hh f27
 try rw [f27]
 cbv
 replace hh := aa hh
 obtain ⟨h28, hh⟩ := hh
 replace hh := bind_some hh
 obtain ⟨⟨e29a, e29b, e29c⟩, h30, hh⟩ := hh
 try dsimp only at hh
 refine ⟨[iA e29a, iA e29b, tA (qInt e29c)], Nb h28, Gb h30, ?_⟩
 cbv
 replace hh := bind_some hh
 obtain ⟨x32, h31, hh⟩ := hh
 refine ae hF (hg1 h31) ?_
 cbv
 refine bcs (fun f35 => ?_) (fun f35 => ?_)
 replace hh := ifT hh f35
 try rw [f35]
 cbv
 replace hh := aa hh
 obtain ⟨h36, hh⟩ := hh
 refine ⟨⟨Ob, Ab⟩, ?_⟩
 refine ⟨⟨Ob, Wb h36⟩, ?_⟩
 ·refine hN1 (_, _) _ hh fun ⟨t0, t1⟩ e => ?_
  refine aq [((5, 50), (20, 0))] ?_
  cbv
  all_goals exact J2
 replace hh := ifF hh f35
 try rw [f35]
 cbv
 ·refine hN1 (_, _) _ hh fun ⟨t0, t1⟩ e => ?_
  refine ah ?_
  cbv
  all_goals exact J2
 replace hh := ifF hh f27
 try rw [f27]
 cbv
 ·refine hD1 _ _ hh fun t0 e => ?_
  refine ah ?_
  cbv
  all_goals exact J1

theorem iz {k : Nat} {p0 : GPair} {p1 : Int} {p2 : List GOcc} {p3 : List GOcc} {r : GPair × (List GOcc)} (hh : cl.f k p0 p1 p2 p3 = some r) : ag P 198 [.agg [tA (qGOcc p0.Left), tA (qGOcc p0.Right)], iA p1, tA (qGOcc p2), tA (qGOcc p3)] [hA, hA, hA, hA] (.tup [.agg [tA (qGOcc r.1.Left), tA (qGOcc r.1.Right)], tA (qGOcc r.2)]) := by
 obtain ⟨p0a, p0b⟩ := p0
 unfold cl.f at hh
 refine goG (g := [5]) (i := []) (o := []) (sh := []) (ts := [(8, some 171), (9, none)]) (rm := [.val, .val]) (pm := [.skip, .skip, .skip, .skip]) Tryz.func198 ?_
 intro Fn LW IN len cast toNat wrap add sub mul bin lt eq At set part app fz' rep nadd nmax ssize sext sget scat seq slt Wide Flat Ones Room r' post' hC hF hr hp
 cbv
 replace hh := bind_some hh
 obtain ⟨o1, hl1, hq1⟩ := hh
 refine ap hC (bN [5] [] []) mixed (fun n (i : (List GOcc) × (List GOcc) × Int) => cl.l0 k p1 p3 n i.1 i.2.1 i.2.2)
  (fun ⟨s18, s19, s20⟩ => (⟨[(1, iA p1), (2, tA (qGOcc p2)), (4, .mptr (4, 0) 1 0 0), (8, .mptr (8, 0) 1 0 0), (10, tA (qGOcc s19)), (15, tA (qGOcc p3)), (16, iA (cast (len (qGOcc p3)))), (17, iA s20)], [((4, 0), .box 1 [tA (qGOcc s18), tA (qGOcc p0b)]), ((8, 0), .box 1 [.lit (.slice none 0 0), .lit (.slice none 0 0)])]⟩ : St))
  (fun (⟨x38, x39⟩ : (List GOcc) × (List GOcc)) => (⟨[(2, tA (qGOcc p2)), (4, .mptr (4, 0) 1 0 0), (8, .mptr (8, 0) 1 0 0), (10, tA (qGOcc x39))], [((4, 0), .box 1 [tA (qGOcc x38), tA (qGOcc p0b)]), ((8, 0), .box 1 [.lit (.slice none 0 0), .lit (.slice none 0 0)])]⟩ : St)) (fun x => x) (.exit 0)
  (i0 := (_, _, _)) hl1 (fun _ => rfl) ?_ ?_ ?_
 ·rintro ⟨t0, t1, t2⟩ e
  refine ah ?_
  cbv
  all_goals exact J3
 rintro ⟨x38, x39⟩ hx
 subst o1
 have hh := hq1
 cbv
 replace hh := bind_some hh
 obtain ⟨x58, h57, hh⟩ := hh
 refine ae hF (bG hQ h57) ?_
 cbv
 exact Eb
 rintro n ⟨s18, s19, s20⟩ N1 D1 hh hN1 hD1 hQ1
 try dsimp only at hh
 unfold cl.l0 at hh
 cbv
 refine bcs (fun f41 => ?_) (fun f41 => ?_)
 replace hh := ifT hh f41
 try rw [f41]
 cbv
 replace hh := aa hh
 obtain ⟨h42, hh⟩ := hh
 replace hh := bind_some hh
 obtain ⟨⟨e43a, e43b, e43c⟩, h44, hh⟩ := hh
 try dsimp only at hh
 refine ⟨[iA e43a, iA e43b, tA (qInt e43c)], Nb h42, Gb h44, ?_⟩
 cbv
 refine rT hC (bN [5] [] []) mixed (⟨[(1, iA p1), (2, tA (qGOcc p2)), (4, .mptr (4, 0) 1 0 0), (8, .mptr (8, 0) 1 0 0), (10, tA (qGOcc s19)), (12, .mptr (12, 0) 1 0 0), (15, tA (qGOcc p3)), (16, iA (cast (len (qGOcc p3)))), (17, iA s20)], [((4, 0), .box 1 [tA (qGOcc s18), tA (qGOcc p0b)]), ((8, 0), .box 1 [.lit (.slice none 0 0), .lit (.slice none 0 0)]), ((12, 0), .fbox 1 [iA e43a, iA e43b, tA (qInt e43c)])]⟩ : St) (aq [((4, 0), (4, 0)), ((8, 0), (8, 0)), ((12, 0), (12, 0))] ?_) ?_
 ·cbv
  all_goals exact Zb
 cbv
 replace hh := bind_some hh
 obtain ⟨x46, h45, hh⟩ := hh
 refine ae hF (fV hQ (g1 := fun y0 => ej.f y0 ((⟨e43a, e43b, e43c⟩ : GOcc))) (fun h => kV hQ h) h45) ?_
 cbv
 replace hh := bind_some hh
 obtain ⟨⟨x49_0, x49_1⟩, h48, hh⟩ := hh
 try dsimp only at hh
 refine ⟨Ob, ?_⟩
 have fc := dN hQ h48
 try dsimp only at fc
 refine ae hF fc ?_
 cbv
 replace hh := bind_some hh
 obtain ⟨x52, h51, hh⟩ := hh
 refine ae hF (bG hQ h51) ?_
 cbv
 replace hh := bind_some hh
 obtain ⟨x55, h54, hh⟩ := hh
 refine ae hF (ag.frz (r' := tA (qGOcc x55)) (eU hQ h54) (by cases hQ; simp)) ?_
 cbv
 ·refine hN1 (_, _, _) _ hh fun ⟨t0, t1, t2⟩ e => ?_
  refine ah ?_
  cbv
  all_goals exact J3
 replace hh := ifF hh f41
 try rw [f41]
 cbv
 ·refine hD1 (_, _) _ hh fun ⟨t0, t1⟩ e => ?_
  refine ah ?_
  cbv
  all_goals exact J2

theorem jJ {p0 : GOcc} {c0 : GOcc} {c1 : GOcc} {r : Bool} (hh : dv.f p0 c0 c1 = some r) : ag P 256 [.agg [iA p0.From, iA p0.To, tA (qInt p0.Ids)], .iptr [iA c0.From, iA c0.To, tA (qInt c0.Ids)] 0, .iptr [iA c1.From, iA c1.To, tA (qInt c1.Ids)] 0] [hA, hA, hA] (bA r) := by
 obtain ⟨p0a, p0b, p0c⟩ := p0
 obtain ⟨c0a, c0b, c0c⟩ := c0
 obtain ⟨c1a, c1b, c1c⟩ := c1
 unfold dv.f at hh
 refine go (ts := [(4, none)]) (rm := [.own]) (pm := [.skip, .skip, .skip]) Tryz.func256 ?_
 intro Fn LW IN len cast toNat wrap add sub mul bin lt eq At set part app fz' rep nadd nmax ssize sext sget scat seq slt Wide Flat Ones Room r' post' hC hF hr hp
 cbv
 refine bcs (fun f2 => ?_) (fun f2 => ?_)
 replace hh := ifT hh f2
 try rw [f2]
 cbv
 exact Eb
 replace hh := ifF hh f2
 try rw [f2]
 cbv
 exact Eb

theorem dP {k : Nat} {g1 : GOcc → Option Bool} {cp1_0 : GOcc} {cp1_1 : GOcc} (hg1 : ∀ {y0 : GOcc} {r : Bool}, g1 y0 = some r → ag P 256 [.agg [iA y0.From, iA y0.To, tA (qInt y0.Ids)], .iptr [iA cp1_0.From, iA cp1_0.To, tA (qInt cp1_0.Ids)] 0, .iptr [iA cp1_1.From, iA cp1_1.To, tA (qInt cp1_1.Ids)] 0] [hA, hA, hA] (bA r)) {p0 : List GOcc} {r : Int} (hh : aF.f g1 k p0 = some r) : ag P 230 [tA (qGOcc p0), .clo 256 [.iptr [iA cp1_0.From, iA cp1_0.To, tA (qInt cp1_0.Ids)] 0, .iptr [iA cp1_1.From, iA cp1_1.To, tA (qInt cp1_1.Ids)] 0]] [hA, hA] (iA r) := by
 obtain ⟨cp1_0a, cp1_0b, cp1_0c⟩ := cp1_0
 obtain ⟨cp1_1a, cp1_1b, cp1_1c⟩ := cp1_1
 unfold aF.f at hh
 refine go (ts := [(4, none)]) (rm := [.own]) (pm := [.skip, .skip]) Tryz.func230 ?_
 intro Fn LW IN len cast toNat wrap add sub mul bin lt eq At set part app fz' rep nadd nmax ssize sext sget scat seq slt Wide Flat Ones Room r' post' hC hF hr hp
 cbv
 replace hh := bind_some hh
 obtain ⟨o1, hl1, hq1⟩ := hh
 refine ap hC eok mixed (aF.l0 k g1 p0)
  (fun s11 => (⟨[(0, tA (qGOcc p0)), (1, .clo 256 [.iptr [iA cp1_0a, iA cp1_0b, tA (qInt cp1_0c)] 0, .iptr [iA cp1_1a, iA cp1_1b, tA (qInt cp1_1c)] 0]), (7, iA (cast (len (qGOcc p0)))), (8, iA s11)], []⟩ : St))
  (fun (_ : Unit) => (⟨[], []⟩ : St)) .ok (.exit 0)
  (i0 := _) hl1 (fun _ => rfl) ?_ ?_ ?_
 ·rintro t0 e
  refine ah ?_
  cbv
  all_goals exact J1
 rintro _ hx
 subst o1
 have hh := hq1
 cbv
 exact Eb
 rintro n s11 N1 D1 hh hN1 hD1 hQ1
 unfold aF.l0 at hh
 cbv
 refine bcs (fun f23 => ?_) (fun f23 => ?_)
 replace hh := ifT hh f23
 try rw [f23]
 cbv
 replace hh := aa hh
 obtain ⟨h24, hh⟩ := hh
 replace hh := bind_some hh
 obtain ⟨⟨e25a, e25b, e25c⟩, h26, hh⟩ := hh
 try dsimp only at hh
 refine ⟨[iA e25a, iA e25b, tA (qInt e25c)], Nb h24, Gb h26, ?_⟩
 cbv
 replace hh := bind_some hh
 obtain ⟨x28, h27, hh⟩ := hh
 refine ae hF (hg1 h27) ?_
 cbv
 refine bcs (fun f31 => ?_) (fun f31 => ?_)
 replace hh := ifT hh f31
 try rw [f31]
 cbv
 cases hh
 have hh : some _ = some _ := hq1
 refine hQ1 _ _ ?_
 cbv
 exact Eb
 replace hh := ifF hh f31
 try rw [f31]
 cbv
 ·refine hN1 _ _ hh fun t0 e => ?_
  refine ah ?_
  cbv
  all_goals exact J1
 replace hh := ifF hh f23
 try rw [f23]
 cbv
 ·refine hD1 () _ hh fun _ e => ?_
  refine ah ?_
  cbv
  all_goals exact J0

theorem dw {k : Nat} {g1 : GOcc → Option Bool} {cp1_0 : GOcc} {cp1_1 : GOcc} (hg1 : ∀ {y0 : GOcc} {r : Bool}, g1 y0 = some r → ag P 256 [.agg [iA y0.From, iA y0.To, tA (qInt y0.Ids)], .iptr [iA cp1_0.From, iA cp1_0.To, tA (qInt cp1_0.Ids)] 0, .iptr [iA cp1_1.From, iA cp1_1.To, tA (qInt cp1_1.Ids)] 0] [hA, hA, hA] (bA r)) {p0 : List GOcc} {r : Bool} (hh : aU.f g1 k p0 = some r) : ag P 192 [tA (qGOcc p0), .clo 256 [.iptr [iA cp1_0.From, iA cp1_0.To, tA (qInt cp1_0.Ids)] 0, .iptr [iA cp1_1.From, iA cp1_1.To, tA (qInt cp1_1.Ids)] 0]] [hA, hA] (bA r) := by
 obtain ⟨cp1_0a, cp1_0b, cp1_0c⟩ := cp1_0
 obtain ⟨cp1_1a, cp1_1b, cp1_1c⟩ := cp1_1
 unfold aU.f at hh
 refine go (ts := [(4, none)]) (rm := [.own]) (pm := [.skip, .skip]) Tryz.func192 ?_
 intro Fn LW IN len cast toNat wrap add sub mul bin lt eq At set part app fz' rep nadd nmax ssize sext sget scat seq slt Wide Flat Ones Room r' post' hC hF hr hp
 cbv
 replace hh := bind_some hh
 obtain ⟨x2, h1, hh⟩ := hh
 refine ae hF (dP hQ (g1 := g1) hg1 h1) ?_
 cbv
 exact Eb

theorem kD {k : Nat} {p0 : GOcc} {c0 : GOcc} {c1 : GSpan} {r : Bool} (hh : dS.f k p0 c0 c1 = some r) : ag P 255 [.agg [iA p0.From, iA p0.To, tA (qInt p0.Ids)], .iptr [iA c0.From, iA c0.To, tA (qInt c0.Ids)] 0, .iptr [tA (qGOcc c1.Left), tA (qGOcc c1.Mid)] 0] [hA, hA, hA] (bA r) := by
 obtain ⟨p0a, p0b, p0c⟩ := p0
 obtain ⟨c0a, c0b, c0c⟩ := c0
 obtain ⟨c1a, c1b⟩ := c1
 unfold dS.f at hh
 refine go (ts := [(4, none)]) (rm := [.own]) (pm := [.skip, .skip, .skip]) Tryz.func255 ?_
 intro Fn LW IN len cast toNat wrap add sub mul bin lt eq At set part app fz' rep nadd nmax ssize sext sget scat seq slt Wide Flat Ones Room r' post' hC hF hr hp
 cbv
 refine bcs (fun f2 => ?_) (fun f2 => ?_)
 replace hh := ifT hh f2
 try rw [f2]
 cbv
 replace hh := bind_some hh
 obtain ⟨x4, h3, hh⟩ := hh
 refine ae hF (dw hQ (g1 := fun y0 => dv.f y0 ((⟨p0a, p0b, p0c⟩ : GOcc)) ((⟨c0a, c0b, c0c⟩ : GOcc))) (fun h => jJ hQ h) h3) ?_
 cbv
 exact Eb
 replace hh := ifF hh f2
 try rw [f2]
 cbv
 exact Eb

theorem fK {k : Nat} {g1 : GOcc → Option Bool} {cp1_0 : GOcc} {cp1_1 : GSpan} (hg1 : ∀ {y0 : GOcc} {r : Bool}, g1 y0 = some r → ag P 255 [.agg [iA y0.From, iA y0.To, tA (qInt y0.Ids)], .iptr [iA cp1_0.From, iA cp1_0.To, tA (qInt cp1_0.Ids)] 0, .iptr [tA (qGOcc cp1_1.Left), tA (qGOcc cp1_1.Mid)] 0] [hA, hA, hA] (bA r)) {p0 : List GOcc} {r : List GOcc} (hh : aS.f g1 k p0 = some r) : ag P 218 [tA (qGOcc p0), .clo 255 [.iptr [iA cp1_0.From, iA cp1_0.To, tA (qInt cp1_0.Ids)] 0, .iptr [tA (qGOcc cp1_1.Left), tA (qGOcc cp1_1.Mid)] 0]] [hA, hA] (oA 3 (qGOcc r)) := by
 obtain ⟨cp1_0a, cp1_0b, cp1_0c⟩ := cp1_0
 obtain ⟨cp1_1a, cp1_1b⟩ := cp1_1
 unfold aS.f at hh
 refine go (ts := [(4, none)]) (rm := [.own]) (pm := [.skip, .skip]) Tryz.func218 ?_
 intro Fn LW IN len cast toNat wrap add sub mul bin lt eq At set part app fz' rep nadd nmax ssize sext sget scat seq slt Wide Flat Ones Room r' post' hC hF hr hp
 cbv
 replace hh := bind_some hh
 obtain ⟨o1, hl1, hq1⟩ := hh
 refine ap hC eok mixed (fun n (i : (List GOcc) × Int) => aS.l0 k g1 p0 n i.1 i.2)
  (fun ⟨s12, s13⟩ => (⟨[(1, .clo 255 [.iptr [iA cp1_0a, iA cp1_0b, tA (qInt cp1_0c)] 0, .iptr [tA (qGOcc cp1_1a), tA (qGOcc cp1_1b)] 0]), (5, .ref (5, 50) 1 0 (len (qGOcc s12))), (8, tA (qGOcc p0)), (9, iA (cast (len (qGOcc p0)))), (10, iA s13)], [((5, 50), .arr 1 3 (qGOcc s12))]⟩ : St))
  (fun (x25 : List GOcc) => (⟨[(5, .ref (5, 50) 1 0 (len (qGOcc x25)))], [((5, 50), .arr 1 3 (qGOcc x25))]⟩ : St)) (fun x => x) (.exit 0)
  (i0 := (_, _)) hl1 (fun _ => rfl) ?_ ?_ ?_
 ·rintro ⟨t0, t1⟩ e
  refine aq [] ?_
  cbv
  all_goals exact J2
 rintro x25 hx
 subst o1
 have hh := hq1
 cbv
 exact Eb
 rintro n ⟨s12, s13⟩ N1 D1 hh hN1 hD1 hQ1
 try dsimp only at hh
 unfold aS.l0 at hh
 cbv
 refine bcs (fun f27 => ?_) (fun f27 => ?_)
 replace hh := ifT hh f27
 try rw [f27]
 cbv
 replace hh := aa hh
 obtain ⟨h28, hh⟩ := hh
 replace hh := bind_some hh
 obtain ⟨⟨e29a, e29b, e29c⟩, h30, hh⟩ := hh
 try dsimp only at hh
 refine ⟨[iA e29a, iA e29b, tA (qInt e29c)], Nb h28, Gb h30, ?_⟩
 cbv
 replace hh := bind_some hh
 obtain ⟨x32, h31, hh⟩ := hh
 refine ae hF (hg1 h31) ?_
 cbv
 refine bcs (fun f35 => ?_) (fun f35 => ?_)
 replace hh := ifT hh f35
 try rw [f35]
 cbv
 replace hh := aa hh
 obtain ⟨h36, hh⟩ := hh
 refine ⟨⟨Ob, Ab⟩, ?_⟩
 refine ⟨⟨Ob, Wb h36⟩, ?_⟩
 ·refine hN1 (_, _) _ hh fun ⟨t0, t1⟩ e => ?_
  refine aq [((5, 50), (20, 0))] ?_
  cbv
  all_goals exact J2
 replace hh := ifF hh f35
 try rw [f35]
 cbv
 ·refine hN1 (_, _) _ hh fun ⟨t0, t1⟩ e => ?_
  refine ah ?_
  cbv
  all_goals exact J2
 replace hh := ifF hh f27
 try rw [f27]
 cbv
 ·refine hD1 _ _ hh fun t0 e => ?_
  refine ah ?_
  cbv
  all_goals exact J1

theorem gY {k : Nat} {p0 : GSpan} {p1 : GOcc} {r : List GOcc} (hh : eO.f k p0 p1 = some r) : ag P 238 [.agg [tA (qGOcc p0.Left), tA (qGOcc p0.Mid)], .agg [iA p1.From, iA p1.To, tA (qInt p1.Ids)]] [hA, hA] (oA 3 (qGOcc r)) := by
 obtain ⟨p0a, p0b⟩ := p0
 obtain ⟨p1a, p1b, p1c⟩ := p1
 unfold eO.f at hh
 refine go (ts := [(4, none)]) (rm := [.own]) (pm := [.skip, .skip]) Tryz.func238 ?_
 intro Fn LW IN len cast toNat wrap add sub mul bin lt eq At set part app fz' rep nadd nmax ssize sext sget scat seq slt Wide Flat Ones Room r' post' hC hF hr hp
 cbv
 replace hh := bind_some hh
 obtain ⟨x2, h1, hh⟩ := hh
 refine ae hF (fK hQ (g1 := fun y0 => dS.f k y0 ((⟨p1a, p1b, p1c⟩ : GOcc)) ((⟨p0a, p0b⟩ : GSpan))) (fun h => kD hQ h) h1) ?_
 cbv
 exact Eb

theorem iK {k : Nat} {p0 : GSpan} {p1 : Int} {p2 : List GOcc} {p3 : List GOcc} {p4 : List GOcc} {r : GSpan × (List GOcc)} (hh : co.f k p0 p1 p2 p3 p4 = some r) : ag P 200 [.agg [tA (qGOcc p0.Left), tA (qGOcc p0.Mid)], iA p1, tA (qGOcc p2), tA (qGOcc p3), tA (qGOcc p4)] [hA, hA, hA, hA, hA] (.tup [.agg [tA (qGOcc r.1.Left), tA (qGOcc r.1.Mid)], tA (qGOcc r.2)]) := by
 obtain ⟨p0a, p0b⟩ := p0
 unfold co.f at hh
 refine go (ts := [(10, some 173), (11, none)]) (rm := [.val, .val]) (pm := [.skip, .skip, .skip, .skip, .skip]) Tryz.func200 ?_
 intro Fn LW IN len cast toNat wrap add sub mul bin lt eq At set part app fz' rep nadd nmax ssize sext sget scat seq slt Wide Flat Ones Room r' post' hC hF hr hp
 cbv
 replace hh := bind_some hh
 obtain ⟨o1, hl1, hq1⟩ := hh
 refine ap hC eok mixed (fun n (i : (List GOcc) × (List GOcc) × Int) => co.l0 k (⟨p0a, p0b⟩ : GSpan) p1 p4 n i.1 i.2.1 i.2.2)
  (fun ⟨s18, s19, s20⟩ => (⟨[(1, iA p1), (2, tA (qGOcc p2)), (3, tA (qGOcc p3)), (5, .mptr (5, 0) 1 0 0), (10, .mptr (10, 0) 1 0 0), (12, tA (qGOcc s19)), (17, tA (qGOcc p4)), (18, iA (cast (len (qGOcc p4)))), (19, iA s20)], [((5, 0), .box 1 [tA (qGOcc s18), tA (qGOcc p0b)]), ((10, 0), .box 1 [.lit (.slice none 0 0), .lit (.slice none 0 0)])]⟩ : St))
  (fun (⟨x38, x39⟩ : (List GOcc) × (List GOcc)) => (⟨[(2, tA (qGOcc p2)), (3, tA (qGOcc p3)), (5, .mptr (5, 0) 1 0 0), (10, .mptr (10, 0) 1 0 0), (12, tA (qGOcc x39))], [((5, 0), .box 1 [tA (qGOcc x38), tA (qGOcc p0b)]), ((10, 0), .box 1 [.lit (.slice none 0 0), .lit (.slice none 0 0)])]⟩ : St)) (fun x => x) (.exit 0)
  (i0 := (_, _, _)) hl1 (fun _ => rfl) ?_ ?_ ?_
 ·rintro ⟨t0, t1, t2⟩ e
  refine ah ?_
  cbv
  all_goals exact J3
 rintro ⟨x38, x39⟩ hx
 subst o1
 have hh := hq1
 cbv
 replace hh := bind_some hh
 obtain ⟨x58, h57, hh⟩ := hh
 refine ae hF (bG hQ h57) ?_
 cbv
 replace hh := bind_some hh
 obtain ⟨x61, h60, hh⟩ := hh
 refine ae hF (bG hQ h60) ?_
 cbv
 exact Eb
 rintro n ⟨s18, s19, s20⟩ N1 D1 hh hN1 hD1 hQ1
 try dsimp only at hh
 unfold co.l0 at hh
 cbv
 refine bcs (fun f41 => ?_) (fun f41 => ?_)
 replace hh := ifT hh f41
 try rw [f41]
 cbv
 replace hh := aa hh
 obtain ⟨h42, hh⟩ := hh
 replace hh := bind_some hh
 obtain ⟨⟨e43a, e43b, e43c⟩, h44, hh⟩ := hh
 try dsimp only at hh
 refine ⟨[iA e43a, iA e43b, tA (qInt e43c)], Nb h42, Gb h44, ?_⟩
 cbv
 replace hh := bind_some hh
 obtain ⟨x46, h45, hh⟩ := hh
 refine ae hF (gY hQ h45) ?_
 cbv
 replace hh := bind_some hh
 obtain ⟨⟨x49_0, x49_1⟩, h48, hh⟩ := hh
 try dsimp only at hh
 refine ⟨Ob, ?_⟩
 have fc := dN hQ h48
 try dsimp only at fc
 refine ae hF fc ?_
 cbv
 replace hh := bind_some hh
 obtain ⟨x52, h51, hh⟩ := hh
 refine ae hF (bG hQ h51) ?_
 cbv
 replace hh := bind_some hh
 obtain ⟨x55, h54, hh⟩ := hh
 refine ae hF (ag.frz (r' := tA (qGOcc x55)) (eU hQ h54) (by cases hQ; simp)) ?_
 cbv
 ·refine hN1 (_, _, _) _ hh fun ⟨t0, t1, t2⟩ e => ?_
  refine ah ?_
  cbv
  all_goals exact J3
 replace hh := ifF hh f41
 try rw [f41]
 cbv
 ·refine hD1 (_, _) _ hh fun ⟨t0, t1⟩ e => ?_
  refine ah ?_
  cbv
  all_goals exact J2

end Go.Proofs.YtlbnmldopjadoaaGreat
