/- The functions of this program do what the plain ones do. -/
import Derived.Test.YtlbnmldopjadoaaGreatN
import Derived.Test.YtlbnmldopjadoaaGreatVE
import Derived.Test.YtlbnmldopjadoaaGreatX
namespace Go.Proofs.YtlbnmldopjadoaaGreat
open Go Go.Vm
set_option linter.unusedVariables false
set_option maxHeartbeats 4000000
set_option maxRecDepth 4000
noncomputable abbrev P : Program := Tryz.prog
variable {qIu8 : List Int → Vm.Rows} {qGCall : List av → Vm.Rows} {qInt : List Int → Vm.Rows} {qGEx : List GEx → Vm.Rows} {qGRule : List GRule → Vm.Rows} {qGExO : List GEx → Vm.Rows} {qGOcc : List GOcc → Vm.Rows} {qGNode : List GNode → Vm.Rows} {qGGraphS : List GGraph → Vm.Rows} {qGGraph : List GGraph → Vm.Rows} {qGEv : List GEv → Vm.Rows} {qGFire : List aH → Vm.Rows} {qLGOcc : List (List GOcc) → Vm.Rows} {qGOccO : List GOcc → Vm.Rows} {qLInt : List (List Int) → Vm.Rows} (hQ : EQ qIu8 qGCall qInt qGEx qGRule qGExO qGOcc qGNode qGGraphS qGGraph qGEv qGFire qLGOcc qGOccO qLInt)
include hQ
theorem np {p0 : List Int} {r : Gl14Rd} (hh : eJ.f p0 = some r) : ag P 48 [tA (qIu8 p0)] [hA] (.obox [tA (qIu8 r.b), iA r.p]) := by
 unfold eJ.f at hh
 refine go (ts := [(2, none)]) (rm := [.own]) (pm := [.skip]) Tryz.func48 ?_
 intro Fn LW IN len cast toNat wrap add sub mul bin lt eq At set part app fz' rep nadd nmax ssize sext sget scat seq slt Wide Flat Ones Room r' post' hC hF hr hp
 cbv
 refine bcs (fun f2 => ?_) (fun f2 => ?_)
 replace hh := ifT hh f2
 try rw [f2]
 cbv
 replace hh := aa hh
 obtain ⟨h3, hh⟩ := hh
 replace hh := aa hh
 obtain ⟨h4, hh⟩ := hh
 replace hh := aa hh
 obtain ⟨h5, hh⟩ := hh
 refine ⟨⟨Nb h3, Nb h4, Nb h5, Ab⟩, ?_⟩
 exact Eb
 replace hh := ifF hh f2
 try rw [f2]
 cbv
 exact Eb

theorem dA {p0 : Gl14Rd} {p1 : Int} {r : Int × Gl14Rd} (hh : cf.f p0 p1 = some r) : ag P 117 [.obox [tA (qIu8 p0.b), iA p0.p], iA p1] [.obox [tA (qIu8 r.2.b), iA r.2.p], hA] (iA r.1) := by
 obtain ⟨p0a, p0b⟩ := p0
 unfold cf.f at hh
 refine go (ts := [(4, none)]) (rm := [.own]) (pm := [.own, .skip]) Tryz.func117 ?_
 intro Fn LW IN len cast toNat wrap add sub mul bin lt eq At set part app fz' rep nadd nmax ssize sext sget scat seq slt Wide Flat Ones Room r' post' hC hF hr hp
 cbv
 refine bcs (fun f2 => ?_) (fun f2 => ?_)
 replace hh := ifT hh f2
 try rw [f2]
 cbv
 exact Eb
 replace hh := ifF hh f2
 try rw [f2]
 cbv
 refine bcs (fun f4 => ?_) (fun f4 => ?_)
 replace hh := ifT hh f4
 try rw [f4]
 cbv
 exact Eb
 replace hh := ifF hh f4
 try rw [f4]
 cbv
 refine bcs (fun f6 => ?_) (fun f6 => ?_)
 replace hh := ifT hh f6
 try rw [f6]
 cbv
 replace hh := aa hh
 obtain ⟨h7, hh⟩ := hh
 try dsimp only at h7
 replace hh := bind_some hh
 obtain ⟨e8, h9, hh⟩ := hh
 refine ⟨[.lit (.int .u8 e8)], Nb h7, Gb h9, ?_⟩
 cbv
 replace hh := aa hh
 obtain ⟨h10, hh⟩ := hh
 refine ⟨Wb h10, ?_⟩
 exact Eb
 replace hh := ifF hh f6
 try rw [f6]
 cbv
 replace hh := aa hh
 obtain ⟨h11, hh⟩ := hh
 try dsimp only at h11
 refine ⟨Wb h11, ?_⟩
 replace hh := aa hh
 obtain ⟨h12, hh⟩ := hh
 try dsimp only at h12
 replace hh := bind_some hh
 obtain ⟨e13, h14, hh⟩ := hh
 refine ⟨[.lit (.int .u8 e13)], Nb h12, Gb h14, ?_⟩
 cbv
 replace hh := aa hh
 obtain ⟨h15, hh⟩ := hh
 try dsimp only at h15
 refine ⟨Wb h15, ?_⟩
 replace hh := aa hh
 obtain ⟨h16, hh⟩ := hh
 try dsimp only at h16
 replace hh := bind_some hh
 obtain ⟨e17, h18, hh⟩ := hh
 refine ⟨[.lit (.int .u8 e17)], Nb h16, Gb h18, ?_⟩
 cbv
 replace hh := aa hh
 obtain ⟨h19, hh⟩ := hh
 try dsimp only at h19
 refine ⟨Wb h19, ?_⟩
 replace hh := aa hh
 obtain ⟨h21, hh⟩ := hh
 refine ⟨Wb h21, ?_⟩
 exact Eb

theorem cH {p0 : Gl14Rd} {p1 : List Int} {r : Int × Gl14Rd} (hh : bJ.f p0 p1 = some r) : ag P 101 [.obox [tA (qIu8 p0.b), iA p0.p], tA (qInt p1)] [.obox [tA (qIu8 r.2.b), iA r.2.p], hA] (iA r.1) := by
 obtain ⟨p0a, p0b⟩ := p0
 unfold bJ.f at hh
 refine go (ts := [(4, none)]) (rm := [.own]) (pm := [.own, .skip]) Tryz.func101 ?_
 intro Fn LW IN len cast toNat wrap add sub mul bin lt eq At set part app fz' rep nadd nmax ssize sext sget scat seq slt Wide Flat Ones Room r' post' hC hF hr hp
 cbv
 replace hh := bind_some hh
 obtain ⟨⟨x2_0, ⟨x2_1a, x2_1b⟩⟩, h1, hh⟩ := hh
 try dsimp only at hh
 have fc := dA hQ h1
 try dsimp only at fc
 refine ae hF fc ?_
 cbv
 replace hh := aa hh
 obtain ⟨h4, hh⟩ := hh
 try dsimp only at h4
 replace hh := bind_some hh
 obtain ⟨e5, h6, hh⟩ := hh
 refine ⟨[iA e5], Nb h4, Gb h6, ?_⟩
 cbv
 exact Eb

theorem mc {k : Nat} {p0 : Gl14Rd} {r : (List av) × Gl14Rd} (hh : bt.f k p0 = some r) : ag P 134 [.obox [tA (qIu8 p0.b), iA p0.p]] [.obox [tA (qIu8 r.2.b), iA r.2.p]] (oA 3 (qGCall r.1)) := by
 obtain ⟨p0a, p0b⟩ := p0
 unfold bt.f at hh
 refine go (ts := [(2, none)]) (rm := [.own]) (pm := [.own]) Tryz.func134 ?_
 intro Fn LW IN len cast toNat wrap add sub mul bin lt eq At set part app fz' rep nadd nmax ssize sext sget scat seq slt Wide Flat Ones Room r' post' hC hF hr hp
 cbv
 replace hh := bind_some hh
 obtain ⟨⟨x2_0, ⟨x2_1a, x2_1b⟩⟩, h1, hh⟩ := hh
 try dsimp only at hh
 have fc := dA hQ h1
 try dsimp only at fc
 refine ae hF fc ?_
 cbv
 replace hh := bind_some hh
 obtain ⟨o1, hl1, hq1⟩ := hh
 refine ap hC eok mixed (fun n (i : (List Int) × Int × (List av) × Int) => bt.l0 k n i.1 i.2.1 i.2.2.1 i.2.2.2)
  (fun ⟨s16, s17, s18, s19⟩ => (⟨[(0, .mptr (0, 0) 1 0 0), (3, .ref (5, 0) 1 0 (len (qGCall s18))), (4, iA s19), (1000000, .mptr (0, 0) 1 0 0)], [((0, 0), .box 1 [tA (qIu8 s16), iA s17]), ((5, 0), .arr 1 3 (qGCall s18))]⟩ : St))
  (fun (⟨x32, x33, x34⟩ : (List av) × (List Int) × Int) => (⟨[(3, .ref (5, 0) 1 0 (len (qGCall x32))), (1000000, .mptr (0, 0) 1 0 0)], [((0, 0), .box 1 [tA (qIu8 x33), iA x34]), ((5, 0), .arr 1 3 (qGCall x32))]⟩ : St)) (fun x => x) (.exit 0)
  (i0 := (_, _, _, _)) hl1 (fun _ => rfl) ?_ ?_ ?_
 ·rintro ⟨t0, t1, t2, t3⟩ e
  refine ah ?_
  cbv
  all_goals exact J4
 rintro ⟨x32, x33, x34⟩ hx
 subst o1
 have hh := hq1
 cbv
 exact Eb
 rintro n ⟨s16, s17, s18, s19⟩ N1 D1 hh hN1 hD1 hQ1
 try dsimp only at hh
 unfold bt.l0 at hh
 cbv
 refine bcs (fun f36 => ?_) (fun f36 => ?_)
 replace hh := ifT hh f36
 try rw [f36]
 cbv
 replace hh := bind_some hh
 obtain ⟨⟨x38_0, ⟨x38_1a, x38_1b⟩⟩, h37, hh⟩ := hh
 try dsimp only at hh
 refine ⟨Ob, ?_⟩
 have fc := cH hQ h37
 try dsimp only at fc
 refine ae hF fc ?_
 cbv
 replace hh := bind_some hh
 obtain ⟨⟨x41_0, ⟨x41_1a, x41_1b⟩⟩, h40, hh⟩ := hh
 try dsimp only at hh
 refine ⟨Ob, ?_⟩
 have fc := cH hQ h40
 try dsimp only at fc
 refine ae hF fc ?_
 cbv
 replace hh := bind_some hh
 obtain ⟨⟨x44_0, ⟨x44_1a, x44_1b⟩⟩, h43, hh⟩ := hh
 try dsimp only at hh
 refine ⟨Ob, ?_⟩
 have fc := cH hQ h43
 try dsimp only at fc
 refine ae hF fc ?_
 cbv
 replace hh := aa hh
 obtain ⟨h46, hh⟩ := hh
 refine ⟨⟨Ob, Ab⟩, ?_⟩
 refine ⟨⟨Ob, Wb h46⟩, ?_⟩
 ·refine hN1 (_, _, _, _) _ hh fun ⟨t0, t1, t2, t3⟩ e => ?_
  refine aq [((0, 0), (0, 0)), ((5, 0), (24, 0))] ?_
  cbv
  all_goals exact J4
 replace hh := ifF hh f36
 try rw [f36]
 cbv
 ·refine hD1 (_, _, _) _ hh fun ⟨t0, t1, t2⟩ e => ?_
  refine ah ?_
  cbv
  all_goals exact J3

theorem ny {k : Nat} {p0 : Gl14Rd} {r : (List av) × Gl14Rd} (hh : bK.f k p0 = some r) : ag P 71 [.obox [tA (qIu8 p0.b), iA p0.p]] [.obox [tA (qIu8 r.2.b), iA r.2.p]] (oA 3 (qGCall r.1)) := by
 obtain ⟨p0a, p0b⟩ := p0
 unfold bK.f at hh
 refine go (ts := [(2, none)]) (rm := [.own]) (pm := [.own]) Tryz.func71 ?_
 intro Fn LW IN len cast toNat wrap add sub mul bin lt eq At set part app fz' rep nadd nmax ssize sext sget scat seq slt Wide Flat Ones Room r' post' hC hF hr hp
 cbv
 replace hh := bind_some hh
 obtain ⟨⟨x2_0, ⟨x2_1a, x2_1b⟩⟩, h1, hh⟩ := hh
 try dsimp only at hh
 have fc := mc hQ h1
 try dsimp only at fc
 refine ae hF fc ?_
 cbv
 refine bcs (fun f5 => ?_) (fun f5 => ?_)
 replace hh := ifT hh f5
 try rw [f5]
 cbv
 exact Eb
 replace hh := ifF hh f5
 try rw [f5]
 cbv
 replace hh := bind_some hh
 obtain ⟨⟨x7_0, ⟨x7_1a, x7_1b⟩⟩, h6, hh⟩ := hh
 try dsimp only at hh
 have fc := dA hQ h6
 try dsimp only at fc
 refine ae hF fc ?_
 cbv
 replace hh := bind_some hh
 obtain ⟨⟨x10_0, ⟨x10_1a, x10_1b⟩⟩, h9, hh⟩ := hh
 try dsimp only at hh
 have fc := dA hQ h9
 try dsimp only at fc
 refine ae hF fc ?_
 cbv
 refine bcs (fun f13 => ?_) (fun f13 => ?_)
 replace hh := ifT hh f13
 try rw [f13]
 cbv
 replace hh := bind_some hh
 obtain ⟨⟨x15_0, ⟨x15_1a, x15_1b⟩⟩, h14, hh⟩ := hh
 try dsimp only at hh
 refine ⟨Ob, ?_⟩
 have fc := cH hQ h14
 try dsimp only at fc
 refine ae hF fc ?_
 cbv
 replace hh := aa hh
 obtain ⟨h17, hh⟩ := hh
 try dsimp only at h17
 replace hh := aa hh
 obtain ⟨h18, hh⟩ := hh
 try dsimp only at h18
 refine ⟨Nb h17, Mb h18, ?_⟩
 replace hh := bind_some hh
 obtain ⟨⟨e19a, e19b, e19c⟩, h20, hh⟩ := hh
 try dsimp only at hh
 refine ⟨[iA e19a, iA e19b, iA e19c], Gb h20, ?_⟩
 cbv
 exact Eb
 replace hh := ifF hh f13
 try rw [f13]
 cbv
 refine bcs (fun f22 => ?_) (fun f22 => ?_)
 replace hh := ifT hh f22
 try rw [f22]
 cbv
 replace hh := bind_some hh
 obtain ⟨⟨x24_0, ⟨x24_1a, x24_1b⟩⟩, h23, hh⟩ := hh
 try dsimp only at hh
 refine ⟨Ob, ?_⟩
 have fc := cH hQ h23
 try dsimp only at fc
 refine ae hF fc ?_
 cbv
 replace hh := aa hh
 obtain ⟨h26, hh⟩ := hh
 try dsimp only at h26
 replace hh := aa hh
 obtain ⟨h27, hh⟩ := hh
 try dsimp only at h27
 refine ⟨Nb h26, Mb h27, ?_⟩
 replace hh := bind_some hh
 obtain ⟨⟨e28a, e28b, e28c⟩, h29, hh⟩ := hh
 try dsimp only at hh
 refine ⟨[iA e28a, iA e28b, iA e28c], Gb h29, ?_⟩
 cbv
 exact Eb
 replace hh := ifF hh f22
 try rw [f22]
 cbv
 refine bcs (fun f31 => ?_) (fun f31 => ?_)
 replace hh := ifT hh f31
 try rw [f31]
 cbv
 replace hh := bind_some hh
 obtain ⟨⟨x33_0, ⟨x33_1a, x33_1b⟩⟩, h32, hh⟩ := hh
 try dsimp only at hh
 refine ⟨Ob, ?_⟩
 have fc := cH hQ h32
 try dsimp only at fc
 refine ae hF fc ?_
 cbv
 replace hh := aa hh
 obtain ⟨h35, hh⟩ := hh
 try dsimp only at h35
 replace hh := aa hh
 obtain ⟨h36, hh⟩ := hh
 try dsimp only at h36
 refine ⟨Nb h35, Mb h36, ?_⟩
 replace hh := bind_some hh
 obtain ⟨⟨e37a, e37b, e37c⟩, h38, hh⟩ := hh
 try dsimp only at hh
 refine ⟨[iA e37a, iA e37b, iA e37c], Gb h38, ?_⟩
 cbv
 exact Eb
 replace hh := ifF hh f31
 try rw [f31]
 cbv
 refine bcs (fun f40 => ?_) (fun f40 => ?_)
 replace hh := ifT hh f40
 try rw [f40]
 cbv
 replace hh := bind_some hh
 obtain ⟨o1, hl1, hq1⟩ := hh
 refine ap hC eok mixed (bK.l0 k)
  (fun s44 => (⟨[(3, .ref (6, 0) 1 0 (len (qGCall s44))), (1000000, .mptr (0, 0) 1 0 0)], [((0, 0), .box 1 [tA (qIu8 x10_1a), iA x10_1b]), ((6, 0), .arr 1 3 (qGCall s44))]⟩ : St))
  (fun (x48 : List av) => (⟨[(3, .ref (6, 0) 1 0 (len (qGCall x48))), (1000000, .mptr (0, 0) 1 0 0)], [((0, 0), .box 1 [tA (qIu8 x10_1a), iA x10_1b]), ((6, 0), .arr 1 3 (qGCall x48))]⟩ : St)) (fun x => x) (.exit 1)
  (i0 := _) hl1 (fun _ => rfl) ?_ ?_ ?_
 ·rintro t0 e
  refine ah ?_
  cbv
  all_goals exact J1
 rintro x48 hx
 subst o1
 have hh := hq1
 cbv
 exact Eb
 rintro n s44 N1 D1 hh hN1 hD1 hQ1
 unfold bK.l0 at hh
 cbv
 replace hh := az hh
 rcases hh with ⟨b49, hh⟩ | ⟨b49, hh⟩
 have f50 : (lt 30 (cast (len (qGCall s44)))) = true := Tb b49
 have g := f50; cbv at g; try rw [f50]
 try rw [g]
 cbv
 ·refine hD1 _ _ hh fun t0 e => ?_
  refine ah ?_
  cbv
  all_goals exact J1
 have f50 : (lt 30 (cast (len (qGCall s44)))) = false := Fb b49
 have g := f50; cbv at g; try rw [f50]
 try rw [g]
 cbv
 replace hh := aa hh
 obtain ⟨h51, hh⟩ := hh
 refine ⟨⟨Ob, Ab⟩, ?_⟩
 refine ⟨⟨Ob, Wb h51⟩, ?_⟩
 ·refine hN1 _ _ hh fun t0 e => ?_
  refine aq [((0, 0), (0, 0)), ((6, 0), (52, 0))] ?_
  cbv
  all_goals exact J1
 replace hh := ifF hh f40
 try rw [f40]
 cbv
 exact Eb

theorem kW {k : Nat} {p0 : List Int} {r : List av} (hh : dp.f k p0 = some r) : ag P 27 [tA (qIu8 p0)] [hA] (oA 3 (qGCall r)) := by
 unfold dp.f at hh
 refine go (ts := [(2, none)]) (rm := [.own]) (pm := [.skip]) Tryz.func27 ?_
 intro Fn LW IN len cast toNat wrap add sub mul bin lt eq At set part app fz' rep nadd nmax ssize sext sget scat seq slt Wide Flat Ones Room r' post' hC hF hr hp
 cbv
 replace hh := bind_some hh
 obtain ⟨⟨x2a, x2b⟩, h1, hh⟩ := hh
 try dsimp only at hh
 refine ae hF (np hQ h1) ?_
 cbv
 replace hh := bind_some hh
 obtain ⟨⟨x5_0, ⟨x5_1a, x5_1b⟩⟩, h4, hh⟩ := hh
 try dsimp only at hh
 have fc := ny hQ h4
 try dsimp only at fc
 refine ae hF fc ?_
 cbv
 exact Eb

theorem aR {p0 : Int} {p1 : Int} {p2 : Int} {r : Bool} (hh : a8.f p0 p1 p2 = some r) : ag P 81 [iA p0, iA p1, iA p2] [hA, hA, hA] (bA r) := by
 unfold a8.f at hh
 refine go (ts := [(6, none)]) (rm := [.own]) (pm := [.skip, .skip, .skip]) Tryz.func81 ?_
 intro Fn LW IN len cast toNat wrap add sub mul bin lt eq At set part app fz' rep nadd nmax ssize sext sget scat seq slt Wide Flat Ones Room r' post' hC hF hr hp
 cbv
 replace hh := az hh
 rcases hh with ⟨b1, hh⟩ | ⟨b1, hh⟩
 have f2 : (lt p0 p1) = true := Tb b1
 have g := f2; cbv at g; try rw [f2]
 try rw [g]
 cbv
 exact Eb
 have f2 : (lt p0 p1) = false := Fb b1
 have g := f2; cbv at g; try rw [f2]
 try rw [g]
 cbv
 exact Eb

theorem ez {p0 : Int} {r : Bool} (hh : cW.f p0 = some r) : ag P 51 [iA p0] [hA] (bA r) := by
 unfold cW.f at hh
 refine go (ts := [(2, none)]) (rm := [.own]) (pm := [.skip]) Tryz.func51 ?_
 intro Fn LW IN len cast toNat wrap add sub mul bin lt eq At set part app fz' rep nadd nmax ssize sext sget scat seq slt Wide Flat Ones Room r' post' hC hF hr hp
 cbv
 replace hh := bind_some hh
 obtain ⟨x2, h1, hh⟩ := hh
 refine ae hF (aR hQ h1) ?_
 cbv
 exact Eb

theorem jT {p0 : av} {r : Bool} (hh : eg.f p0 = some r) : ag P 74 [.agg [iA p0.Sym, iA p0.Gap, iA p0.Val]] [hA] (bA r) := by
 obtain ⟨p0a, p0b, p0c⟩ := p0
 unfold eg.f at hh
 refine go (ts := [(2, none)]) (rm := [.own]) (pm := [.skip]) Tryz.func74 ?_
 intro Fn LW IN len cast toNat wrap add sub mul bin lt eq At set part app fz' rep nadd nmax ssize sext sget scat seq slt Wide Flat Ones Room r' post' hC hF hr hp
 cbv
 replace hh := bind_some hh
 obtain ⟨x2, h1, hh⟩ := hh
 refine ae hF (ez hQ h1) ?_
 cbv
 refine bcs (fun f5 => ?_) (fun f5 => ?_)
 replace hh := ifT hh f5
 try rw [f5]
 cbv
 replace hh := bind_some hh
 obtain ⟨x7, h6, hh⟩ := hh
 refine ae hF (aR hQ h6) ?_
 cbv
 refine bcs (fun f10 => ?_) (fun f10 => ?_)
 replace hh := ifT hh f10
 try rw [f10]
 cbv
 replace hh := bind_some hh
 obtain ⟨x12, h11, hh⟩ := hh
 refine ae hF (aR hQ h11) ?_
 cbv
 exact Eb
 replace hh := ifF hh f10
 try rw [f10]
 cbv
 exact Eb
 replace hh := ifF hh f5
 try rw [f5]
 cbv
 exact Eb

theorem ma {p0 : av} {r : Bool} (hh : cS.f p0 = some r) : ag P 73 [.agg [iA p0.Sym, iA p0.Gap, iA p0.Val]] [hA] (bA r) := by
 obtain ⟨p0a, p0b, p0c⟩ := p0
 unfold cS.f at hh
 refine go (ts := [(2, none)]) (rm := [.own]) (pm := [.skip]) Tryz.func73 ?_
 intro Fn LW IN len cast toNat wrap add sub mul bin lt eq At set part app fz' rep nadd nmax ssize sext sget scat seq slt Wide Flat Ones Room r' post' hC hF hr hp
 cbv
 replace hh := bind_some hh
 obtain ⟨x2, h1, hh⟩ := hh
 refine ae hF (jT hQ h1) ?_
 cbv
 exact Eb

theorem em {k : Nat} {g1 : av → Option Bool} (hg1 : ∀ {y0 : av} {r : Bool}, g1 y0 = some r → ag P 73 [.agg [iA y0.Sym, iA y0.Gap, iA y0.Val]] [hA] (bA r)) {p0 : List av} {r : Int} (hh : aM.f g1 k p0 = some r) : ag P 135 [tA (qGCall p0), .clo 73 []] [hA, hA] (iA r) := by
 unfold aM.f at hh
 refine go (ts := [(4, none)]) (rm := [.own]) (pm := [.skip, .skip]) Tryz.func135 ?_
 intro Fn LW IN len cast toNat wrap add sub mul bin lt eq At set part app fz' rep nadd nmax ssize sext sget scat seq slt Wide Flat Ones Room r' post' hC hF hr hp
 cbv
 replace hh := bind_some hh
 obtain ⟨o1, hl1, hq1⟩ := hh
 refine ap hC eok mixed (aM.l0 k g1 p0)
  (fun s11 => (⟨[(0, tA (qGCall p0)), (1, .clo 73 []), (7, iA (cast (len (qGCall p0)))), (8, iA s11)], []⟩ : St))
  (fun (_ : Unit) => (⟨[], []⟩ : St)) .ok (.exit 0)
  (i0 := _) hl1 (fun _ => rfl) ?_ ?_ ?_
 ·rintro t0 e
  refine ah ?_
  cbv
  all_goals exact J1
 rintro _ hx
 subst o1
 have hh := hq1
 cbv
 exact Eb
 rintro n s11 N1 D1 hh hN1 hD1 hQ1
 unfold aM.l0 at hh
 cbv
 refine bcs (fun f23 => ?_) (fun f23 => ?_)
 replace hh := ifT hh f23
 try rw [f23]
 cbv
 replace hh := aa hh
 obtain ⟨h24, hh⟩ := hh
 replace hh := bind_some hh
 obtain ⟨⟨e25a, e25b, e25c⟩, h26, hh⟩ := hh
 try dsimp only at hh
 refine ⟨[iA e25a, iA e25b, iA e25c], Nb h24, Gb h26, ?_⟩
 cbv
 replace hh := bind_some hh
 obtain ⟨x28, h27, hh⟩ := hh
 refine ae hF (hg1 h27) ?_
 cbv
 refine bcs (fun f31 => ?_) (fun f31 => ?_)
 replace hh := ifT hh f31
 try rw [f31]
 cbv
 cases hh
 have hh : some _ = some _ := hq1
 refine hQ1 _ _ ?_
 cbv
 exact Eb
 replace hh := ifF hh f31
 try rw [f31]
 cbv
 ·refine hN1 _ _ hh fun t0 e => ?_
  refine ah ?_
  cbv
  all_goals exact J1
 replace hh := ifF hh f23
 try rw [f23]
 cbv
 ·refine hD1 () _ hh fun _ e => ?_
  refine ah ?_
  cbv
  all_goals exact J0

theorem dR {k : Nat} {g1 : av → Option Bool} (hg1 : ∀ {y0 : av} {r : Bool}, g1 y0 = some r → ag P 73 [.agg [iA y0.Sym, iA y0.Gap, iA y0.Val]] [hA] (bA r)) {p0 : List av} {r : Bool} (hh : cw.f g1 k p0 = some r) : ag P 72 [tA (qGCall p0), .clo 73 []] [hA, hA] (bA r) := by
 unfold cw.f at hh
 refine go (ts := [(4, none)]) (rm := [.own]) (pm := [.skip, .skip]) Tryz.func72 ?_
 intro Fn LW IN len cast toNat wrap add sub mul bin lt eq At set part app fz' rep nadd nmax ssize sext sget scat seq slt Wide Flat Ones Room r' post' hC hF hr hp
 cbv
 replace hh := bind_some hh
 obtain ⟨x2, h1, hh⟩ := hh
 refine ae hF (em hQ (g1 := g1) hg1 h1) ?_
 cbv
 exact Eb

theorem jU {k : Nat} {p0 : List av} {r : Bool} (hh : cL.f k p0 = some r) : ag P 28 [tA (qGCall p0)] [hA] (bA r) := by
 unfold cL.f at hh
 refine go (ts := [(2, none)]) (rm := [.own]) (pm := [.skip]) Tryz.func28 ?_
 intro Fn LW IN len cast toNat wrap add sub mul bin lt eq At set part app fz' rep nadd nmax ssize sext sget scat seq slt Wide Flat Ones Room r' post' hC hF hr hp
 cbv
 replace hh := az hh
 rcases hh with ⟨b1, hh⟩ | ⟨b1, hh⟩
 have f2 : (lt 30 (cast (len (qGCall p0)))) = true := Tb b1
 have g := f2; cbv at g; try rw [f2]
 try rw [g]
 cbv
 exact Eb
 have f2 : (lt 30 (cast (len (qGCall p0)))) = false := Fb b1
 have g := f2; cbv at g; try rw [f2]
 try rw [g]
 cbv
 replace hh := bind_some hh
 obtain ⟨x4, h3, hh⟩ := hh
 refine ae hF (dR hQ (g1 := fun y0 => cS.f y0) (fun h => ma hQ h) h3) ?_
 cbv
 exact Eb
theorem fo {k : Nat} {p0 : List av} {r : Bool} (hh : cL.f k p0 = some r) : ag P 28 [oA 3 (qGCall p0)] [oA 3 (qGCall p0)] (bA r) := by
  cases hQ; exact (jU .mk hh).lend (rfl) (.lend (congrArg A.tree (jx _).symm) .nil)

theorem ns {p0 : av} {r : Bool} (hh : ew.f p0 = some r) : ag P 75 [.agg [iA p0.Sym, iA p0.Gap, iA p0.Val]] [hA] (bA r) := by
 obtain ⟨p0a, p0b, p0c⟩ := p0
 unfold ew.f at hh
 refine go (ts := [(2, none)]) (rm := [.own]) (pm := [.skip]) Tryz.func75 ?_
 intro Fn LW IN len cast toNat wrap add sub mul bin lt eq At set part app fz' rep nadd nmax ssize sext sget scat seq slt Wide Flat Ones Room r' post' hC hF hr hp
 cbv
 replace hh := az hh
 rcases hh with ⟨b1, hh⟩ | ⟨b1, hh⟩
 have f2 : (lt p0a 0) = true := Tb b1
 have g := f2; cbv at g; try rw [f2]
 try rw [g]
 cbv
 exact Eb
 have f2 : (lt p0a 0) = false := Fb b1
 have g := f2; cbv at g; try rw [f2]
 try rw [g]
 cbv
 refine bcs (fun f4 => ?_) (fun f4 => ?_)
 replace hh := ifT hh f4
 try rw [f4]
 cbv
 replace hh := az hh
 rcases hh with ⟨b5, hh⟩ | ⟨b5, hh⟩
 have f6 : (lt p0b 1) = true := Tb b5
 have g := f6; cbv at g; try rw [f6]
 try rw [g]
 cbv
 exact Eb
 have f6 : (lt p0b 1) = false := Fb b5
 have g := f6; cbv at g; try rw [f6]
 try rw [g]
 cbv
 replace hh := az hh
 rcases hh with ⟨b7, hh⟩ | ⟨b7, hh⟩
 have f8 : (lt 20 p0b) = true := Tb b7
 have g := f8; cbv at g; try rw [f8]
 try rw [g]
 cbv
 exact Eb
 have f8 : (lt 20 p0b) = false := Fb b7
 have g := f8; cbv at g; try rw [f8]
 try rw [g]
 cbv
 replace hh := az hh
 rcases hh with ⟨b9, hh⟩ | ⟨b9, hh⟩
 have f10 : (lt p0c 0) = true := Tb b9
 have g := f10; cbv at g; try rw [f10]
 try rw [g]
 cbv
 exact Eb
 have f10 : (lt p0c 0) = false := Fb b9
 have g := f10; cbv at g; try rw [f10]
 try rw [g]
 cbv
 exact Eb
 replace hh := ifF hh f4
 try rw [f4]
 cbv
 exact Eb

theorem nO {k : Nat} {p0 : List av} {r : Bool} (hh : bp.f k p0 = some r) : ag P 29 [tA (qGCall p0)] [hA] (bA r) := by
 unfold bp.f at hh
 refine go (ts := [(2, none)]) (rm := [.own]) (pm := [.skip]) Tryz.func29 ?_
 intro Fn LW IN len cast toNat wrap add sub mul bin lt eq At set part app fz' rep nadd nmax ssize sext sget scat seq slt Wide Flat Ones Room r' post' hC hF hr hp
 cbv
 replace hh := bind_some hh
 obtain ⟨o1, hl1, hq1⟩ := hh
 refine ap hC eok mixed (bp.l0 k p0)
  (fun s11 => (⟨[(0, tA (qGCall p0)), (3, iA s11)], []⟩ : St))
  (fun (_ : Unit) => (⟨[(0, tA (qGCall p0))], []⟩ : St)) .ok (.exit 0)
  (i0 := _) hl1 (fun _ => rfl) ?_ ?_ ?_
 ·rintro t0 e
  refine ah ?_
  cbv
  all_goals exact J1
 rintro _ hx
 subst o1
 have hh := hq1
 cbv
 exact Eb
 rintro n s11 N1 D1 hh hN1 hD1 hQ1
 unfold bp.l0 at hh
 cbv
 refine bcs (fun f23 => ?_) (fun f23 => ?_)
 replace hh := ifT hh f23
 try rw [f23]
 cbv
 replace hh := aa hh
 obtain ⟨h24, hh⟩ := hh
 replace hh := bind_some hh
 obtain ⟨⟨e25a, e25b, e25c⟩, h26, hh⟩ := hh
 try dsimp only at hh
 refine ⟨[iA e25a, iA e25b, iA e25c], Nb h24, Gb h26, ?_⟩
 cbv
 replace hh := bind_some hh
 obtain ⟨x28, h27, hh⟩ := hh
 refine ae hF (ns hQ h27) ?_
 cbv
 replace hh := az hh
 rcases hh with ⟨b30, hh⟩ | ⟨b30, hh⟩
 have f31 : x28 = true := Tb b30
 have g := f31; cbv at g; try rw [f31]
 try rw [g]
 cbv
 ·refine hN1 _ _ hh fun t0 e => ?_
  refine ah ?_
  cbv
  all_goals exact J1
 have f31 : x28 = false := Fb b30
 have g := f31; cbv at g; try rw [f31]
 try rw [g]
 cbv
 cases hh
 have hh : some _ = some _ := hq1
 refine hQ1 _ _ ?_
 cbv
 exact Eb
 replace hh := ifF hh f23
 try rw [f23]
 cbv
 ·refine hD1 () _ hh fun _ e => ?_
  refine ah ?_
  cbv
  all_goals exact J0
theorem fj {k : Nat} {p0 : List av} {r : Bool} (hh : bp.f k p0 = some r) : ag P 29 [oA 3 (qGCall p0)] [oA 3 (qGCall p0)] (bA r) := by
  cases hQ; exact (nO .mk hh).lend (rfl) (.lend (congrArg A.tree (jx _).symm) .nil)

theorem oa {k : Nat} {p0 : ByteArray} {r : Bool} (hh : cY.f k p0 = some r) : ag P 80 [sA p0] [hA] (bA r) := by
 unfold cY.f at hh
 refine go (ts := [(2, none)]) (rm := [.own]) (pm := [.skip]) Tryz.func80 ?_
 intro Fn LW IN len cast toNat wrap add sub mul bin lt eq At set part app fz' rep nadd nmax ssize sext sget scat seq slt Wide Flat Ones Room r' post' hC hF hr hp
 cbv
 replace hh := bind_some hh
 obtain ⟨o1, hl1, hq1⟩ := hh
 refine ap hC eok mixed (cY.l0 k p0)
  (fun s11 => (⟨[(0, sA p0), (5, iA (cast (ssize p0))), (6, iA s11)], []⟩ : St))
  (fun (_ : Unit) => (⟨[(0, sA p0)], []⟩ : St)) .ok (.exit 0)
  (i0 := _) hl1 (fun _ => rfl) ?_ ?_ ?_
 ·rintro t0 e
  refine ah ?_
  cbv
  all_goals exact J1
 rintro _ hx
 subst o1
 have hh := hq1
 cbv
 replace hh := bind_some hh
 obtain ⟨x33, h32, hh⟩ := hh
 refine ae hF (aR hQ h32) ?_
 cbv
 exact Eb
 rintro n s11 N1 D1 hh hN1 hD1 hQ1
 unfold cY.l0 at hh
 cbv
 refine bcs (fun f23 => ?_) (fun f23 => ?_)
 replace hh := ifT hh f23
 try rw [f23]
 cbv
 replace hh := aa hh
 obtain ⟨h24, hh⟩ := hh
 replace hh := aa hh
 obtain ⟨h25, hh⟩ := hh
 refine ⟨⟨Nb h24, Mb h25⟩, ?_⟩
 refine bcs (fun f27 => ?_) (fun f27 => ?_)
 replace hh := ifT hh f27
 try rw [f27]
 cbv
 cases hh
 have hh : some _ = some _ := hq1
 refine hQ1 _ _ ?_
 cbv
 exact Eb
 replace hh := ifF hh f27
 try rw [f27]
 cbv
 replace hh := aa hh
 obtain ⟨h28, hh⟩ := hh
 replace hh := aa hh
 obtain ⟨h29, hh⟩ := hh
 refine ⟨⟨Nb h28, Mb h29⟩, ?_⟩
 refine bcs (fun f31 => ?_) (fun f31 => ?_)
 replace hh := ifT hh f31
 try rw [f31]
 cbv
 cases hh
 have hh : some _ = some _ := hq1
 refine hQ1 _ _ ?_
 cbv
 exact Eb
 replace hh := ifF hh f31
 try rw [f31]
 cbv
 ·refine hN1 _ _ hh fun t0 e => ?_
  refine ah ?_
  cbv
  all_goals exact J1
 replace hh := ifF hh f23
 try rw [f23]
 cbv
 ·refine hD1 () _ hh fun _ e => ?_
  refine ah ?_
  cbv
  all_goals exact J0

theorem gz {p0 : Int} {r : Bool} (hh : eZ.f p0 = some r) : ag P 58 [iA p0] [hA] (bA r) := by
 unfold eZ.f at hh
 refine go (ts := [(2, none)]) (rm := [.own]) (pm := [.skip]) Tryz.func58 ?_
 intro Fn LW IN len cast toNat wrap add sub mul bin lt eq At set part app fz' rep nadd nmax ssize sext sget scat seq slt Wide Flat Ones Room r' post' hC hF hr hp
 cbv
 replace hh := bind_some hh
 obtain ⟨x2, h1, hh⟩ := hh
 refine ae hF (aR hQ h1) ?_
 cbv
 exact Eb

theorem rk : ∀ k : Nat, (∀ {p0 : GEx} {r : Int × Int}, bI.f k p0 = some r → ag P 121 [.agg [iA p0.Kind, iA p0.Sym, iA p0.N, tA (qGEx p0.Kids)]] [hA] (.tup [iA r.1, iA r.2])) := by
  intro k
  induction k using Nat.strongRecOn with
  | _ k ih =>
  · intro p0 r hh
    cases k with
    | zero => unfold bI.f at hh; cases hh
    | succ k =>
    obtain ⟨p0a, p0b, p0c, p0d⟩ := p0
    unfold bI.f at hh
    refine go (ts := [(2, none), (3, none)]) (rm := [.own, .own]) (pm := [.skip]) Tryz.func121 ?_
    intro Fn LW IN len cast toNat wrap add sub mul bin lt eq At set part app fz' rep nadd nmax ssize sext sget scat seq slt Wide Flat Ones Room r' post' hC hF hr hp
    cbv
    replace hh := bind_some hh
    obtain ⟨o1, hl1, hq1⟩ := hh
    refine ap hC eok mixed (fun n (i : Int × Int × Int) => bI.l0 k (bI.f k) (⟨p0a, p0b, p0c, p0d⟩ : GEx) n i.1 i.2.1 i.2.2)
     (fun ⟨s11, s12, s13⟩ => (⟨[(4, iA s11), (5, iA s12), (11, tA (qGEx p0d)), (12, iA (cast (len (qGEx p0d)))), (13, iA s13)], []⟩ : St))
     (fun (⟨x24, x25⟩ : Int × Int) => (⟨[(4, iA x24), (5, iA x25)], []⟩ : St)) (fun x => x) (.exit 0)
     (i0 := (_, _, _)) hl1 (fun _ => rfl) ?_ ?_ ?_
    ·rintro ⟨t0, t1, t2⟩ e
     refine ah ?_
     cbv
     all_goals exact J3
    rintro ⟨x24, x25⟩ hx
    subst o1
    have hh := hq1
    cbv
    exact Eb
    rintro n ⟨s11, s12, s13⟩ N1 D1 hh hN1 hD1 hQ1
    try dsimp only at hh
    unfold bI.l0 at hh
    cbv
    refine bcs (fun f27 => ?_) (fun f27 => ?_)
    replace hh := ifT hh f27
    try rw [f27]
    cbv
    replace hh := aa hh
    obtain ⟨h28, hh⟩ := hh
    replace hh := bind_some hh
    obtain ⟨⟨e29a, e29b, e29c, e29d⟩, h30, hh⟩ := hh
    try dsimp only at hh
    refine ⟨[iA e29a, iA e29b, iA e29c, tA (qGEx e29d)], Nb h28, Gb h30, ?_⟩
    cbv
    replace hh := bind_some hh
    obtain ⟨⟨x32_0, x32_1⟩, h31, hh⟩ := hh
    try dsimp only at hh
    refine ae hF ((ih k (Nat.lt_succ_self k)) h31) ?_
    cbv
    replace hh := az hh
    rcases hh with ⟨b34, hh⟩ | ⟨b34, hh⟩
    have f35 : (lt s12 (wrap .i64 (add x32_1 1))) = true := Tb b34
    have g := f35; cbv at g; try rw [f35]
    try rw [g]
    cbv
    ·refine hN1 (_, _, _) _ hh fun ⟨t0, t1, t2⟩ e => ?_
     refine ah ?_
     cbv
     all_goals exact J3
    have f35 : (lt s12 (wrap .i64 (add x32_1 1))) = false := Fb b34
    have g := f35; cbv at g; try rw [f35]
    try rw [g]
    cbv
    ·refine hN1 (_, _, _) _ hh fun ⟨t0, t1, t2⟩ e => ?_
     refine ah ?_
     cbv
     all_goals exact J3
    replace hh := ifF hh f27
    try rw [f27]
    cbv
    ·refine hD1 (_, _) _ hh fun ⟨t0, t1⟩ e => ?_
     refine ah ?_
     cbv
     all_goals exact J2
theorem nu {k : Nat} {p0 : GEx} {r : Int × Int} (hh : bI.f k p0 = some r) : ag P 121 [.agg [iA p0.Kind, iA p0.Sym, iA p0.N, tA (qGEx p0.Kids)]] [hA] (.tup [iA r.1, iA r.2]) := (rk hQ k) hh


theorem j3 {p0 : Int} {r : Bool} (hh : gh.f p0 = some r) : ag P 176 [iA p0] [hA] (bA r) := by
 unfold gh.f at hh
 refine go (ts := [(2, none)]) (rm := [.own]) (pm := [.skip]) Tryz.func176 ?_
 intro Fn LW IN len cast toNat wrap add sub mul bin lt eq At set part app fz' rep nadd nmax ssize sext sget scat seq slt Wide Flat Ones Room r' post' hC hF hr hp
 cbv
 replace hh := bind_some hh
 obtain ⟨x2, h1, hh⟩ := hh
 refine ae hF (aR hQ h1) ?_
 cbv
 exact Eb

theorem lh {p0 : Int} {r : Int} (hh : iG.f p0 = some r) : ag P 177 [iA p0] [hA] (iA r) := by
 unfold iG.f at hh
 refine go (ts := [(2, none)]) (rm := [.own]) (pm := [.skip]) Tryz.func177 ?_
 intro Fn LW IN len cast toNat wrap add sub mul bin lt eq At set part app fz' rep nadd nmax ssize sext sget scat seq slt Wide Flat Ones Room r' post' hC hF hr hp
 cbv
 replace hh := aa hh
 obtain ⟨h1, hh⟩ := hh
 replace hh := aa hh
 obtain ⟨h2, hh⟩ := hh
 refine ⟨Nb h1, Mb h2, ?_⟩
 replace hh := bind_some hh
 obtain ⟨e3, h4, hh⟩ := hh
 refine ⟨[iA e3], Gb h4, ?_⟩
 cbv
 exact Eb

theorem eh {k : Nat} {g1 : GEx → Option Bool} (hg1 : ∀ {y0 : GEx} {r : Bool}, g1 y0 = some r → ag P 179 [.agg [iA y0.Kind, iA y0.Sym, iA y0.N, tA (qGEx y0.Kids)]] [hA] (bA r)) {p0 : List GEx} {r : Int} (hh : bE.f g1 k p0 = some r) : ag P 213 [tA (qGEx p0), .clo 179 []] [hA, hA] (iA r) := by
 unfold bE.f at hh
 refine go (ts := [(4, none)]) (rm := [.own]) (pm := [.skip, .skip]) Tryz.func213 ?_
 intro Fn LW IN len cast toNat wrap add sub mul bin lt eq At set part app fz' rep nadd nmax ssize sext sget scat seq slt Wide Flat Ones Room r' post' hC hF hr hp
 cbv
 replace hh := bind_some hh
 obtain ⟨o1, hl1, hq1⟩ := hh
 refine ap hC eok mixed (bE.l0 k g1 p0)
  (fun s11 => (⟨[(0, tA (qGEx p0)), (1, .clo 179 []), (7, iA (cast (len (qGEx p0)))), (8, iA s11)], []⟩ : St))
  (fun (_ : Unit) => (⟨[], []⟩ : St)) .ok (.exit 0)
  (i0 := _) hl1 (fun _ => rfl) ?_ ?_ ?_
 ·rintro t0 e
  refine ah ?_
  cbv
  all_goals exact J1
 rintro _ hx
 subst o1
 have hh := hq1
 cbv
 exact Eb
 rintro n s11 N1 D1 hh hN1 hD1 hQ1
 unfold bE.l0 at hh
 cbv
 refine bcs (fun f23 => ?_) (fun f23 => ?_)
 replace hh := ifT hh f23
 try rw [f23]
 cbv
 replace hh := aa hh
 obtain ⟨h24, hh⟩ := hh
 replace hh := bind_some hh
 obtain ⟨⟨e25a, e25b, e25c, e25d⟩, h26, hh⟩ := hh
 try dsimp only at hh
 refine ⟨[iA e25a, iA e25b, iA e25c, tA (qGEx e25d)], Nb h24, Gb h26, ?_⟩
 cbv
 replace hh := bind_some hh
 obtain ⟨x28, h27, hh⟩ := hh
 refine ae hF (hg1 h27) ?_
 cbv
 refine bcs (fun f31 => ?_) (fun f31 => ?_)
 replace hh := ifT hh f31
 try rw [f31]
 cbv
 cases hh
 have hh : some _ = some _ := hq1
 refine hQ1 _ _ ?_
 cbv
 exact Eb
 replace hh := ifF hh f31
 try rw [f31]
 cbv
 ·refine hN1 _ _ hh fun t0 e => ?_
  refine ah ?_
  cbv
  all_goals exact J1
 replace hh := ifF hh f23
 try rw [f23]
 cbv
 ·refine hD1 () _ hh fun _ e => ?_
  refine ah ?_
  cbv
  all_goals exact J0

theorem bk {k : Nat} {g1 : GEx → Option Bool} (hg1 : ∀ {y0 : GEx} {r : Bool}, g1 y0 = some r → ag P 179 [.agg [iA y0.Kind, iA y0.Sym, iA y0.N, tA (qGEx y0.Kids)]] [hA] (bA r)) {p0 : List GEx} {r : Bool} (hh : bQ.f g1 k p0 = some r) : ag P 178 [tA (qGEx p0), .clo 179 []] [hA, hA] (bA r) := by
 unfold bQ.f at hh
 refine go (ts := [(4, none)]) (rm := [.own]) (pm := [.skip, .skip]) Tryz.func178 ?_
 intro Fn LW IN len cast toNat wrap add sub mul bin lt eq At set part app fz' rep nadd nmax ssize sext sget scat seq slt Wide Flat Ones Room r' post' hC hF hr hp
 cbv
 replace hh := bind_some hh
 obtain ⟨x2, h1, hh⟩ := hh
 refine ae hF (eh hQ (g1 := g1) hg1 h1) ?_
 cbv
 exact Eb

theorem rf : ∀ k : Nat, (∀ {p0 : GEx} {r : Bool}, bn.f k p0 = some r → ag P 179 [.agg [iA p0.Kind, iA p0.Sym, iA p0.N, tA (qGEx p0.Kids)]] [hA] (bA r)) ∧ (∀ {p0 : GEx} {r : Bool}, c9.f k p0 = some r → ag P 122 [.agg [iA p0.Kind, iA p0.Sym, iA p0.N, tA (qGEx p0.Kids)]] [hA] (bA r)) := by
  intro k
  induction k using Nat.strongRecOn with
  | _ k ih =>
  refine ⟨?_, ?_⟩
  · intro p0 r hh
    cases k with
    | zero => unfold bn.f at hh; cases hh
    | succ k =>
    obtain ⟨p0a, p0b, p0c, p0d⟩ := p0
    unfold bn.f at hh
    refine go (ts := [(2, none)]) (rm := [.own]) (pm := [.skip]) Tryz.func179 ?_
    intro Fn LW IN len cast toNat wrap add sub mul bin lt eq At set part app fz' rep nadd nmax ssize sext sget scat seq slt Wide Flat Ones Room r' post' hC hF hr hp
    cbv
    replace hh := bind_some hh
    obtain ⟨x2, h1, hh⟩ := hh
    refine ae hF ((ih k (Nat.lt_succ_self k)).2 h1) ?_
    cbv
    exact Eb
  · intro p0 r hh
    cases k with
    | zero => unfold c9.f at hh; cases hh
    | succ k =>
    obtain ⟨p0a, p0b, p0c, p0d⟩ := p0
    unfold c9.f at hh
    refine go (ts := [(2, none)]) (rm := [.own]) (pm := [.skip]) Tryz.func122 ?_
    intro Fn LW IN len cast toNat wrap add sub mul bin lt eq At set part app fz' rep nadd nmax ssize sext sget scat seq slt Wide Flat Ones Room r' post' hC hF hr hp
    cbv
    replace hh := bind_some hh
    obtain ⟨x2, h1, hh⟩ := hh
    refine ae hF (j3 hQ h1) ?_
    cbv
    replace hh := az hh
    rcases hh with ⟨b4, hh⟩ | ⟨b4, hh⟩
    have f5 : x2 = true := Tb b4
    have g := f5; cbv at g; try rw [f5]
    try rw [g]
    cbv
    replace hh := bind_some hh
    obtain ⟨x7, h6, hh⟩ := hh
    refine ae hF (lh hQ h6) ?_
    cbv
    replace hh := az hh
    rcases hh with ⟨b9, hh⟩ | ⟨b9, hh⟩
    have f10 : (eq (cast (len (qGEx p0d))) x7) = true := Tb b9
    have g := f10; cbv at g; try rw [f10]
    try rw [g]
    cbv
    refine bcs (fun f12 => ?_) (fun f12 => ?_)
    replace hh := ifT hh f12
    try rw [f12]
    cbv
    replace hh := bind_some hh
    obtain ⟨x14, h13, hh⟩ := hh
    refine ae hF (ez hQ h13) ?_
    cbv
    replace hh := az hh
    rcases hh with ⟨b16, hh⟩ | ⟨b16, hh⟩
    have f17 : x14 = true := Tb b16
    have g := f17; cbv at g; try rw [f17]
    try rw [g]
    cbv
    first | rw [f12] | (have g := f12; cbv at g; rw [g])
    cbv
    refine bcs (fun f19 => ?_) (fun f19 => ?_)
    replace hh := ifT hh f19
    try rw [f19]
    cbv
    replace hh := bind_some hh
    obtain ⟨x21, h20, hh⟩ := hh
    refine ae hF (aR hQ h20) ?_
    cbv
    replace hh := az hh
    rcases hh with ⟨b23, hh⟩ | ⟨b23, hh⟩
    have f24 : x21 = true := Tb b23
    have g := f24; cbv at g; try rw [f24]
    try rw [g]
    cbv
    first | rw [f19] | (have g := f19; cbv at g; rw [g])
    cbv
    replace hh := bind_some hh
    obtain ⟨x26, h25, hh⟩ := hh
    refine ae hF (bk hQ (g1 := fun y0 => bn.f k y0) (fun h => (ih k (Nat.lt_succ_self k)).1 h) h25) ?_
    cbv
    exact Eb
    have f24 : x21 = false := Fb b23
    have g := f24; cbv at g; try rw [f24]
    try rw [g]
    cbv
    exact Eb
    replace hh := ifF hh f19
    try rw [f19]
    cbv
    first | rw [f19] | (have g := f19; cbv at g; rw [g])
    cbv
    replace hh := az hh
    rcases hh with ⟨b28, hh⟩ | ⟨b28, hh⟩
    have f29 : (eq p0c 0) = true := Tb b28
    have g := f29; cbv at g; try rw [f29]
    try rw [g]
    cbv
    replace hh := bind_some hh
    obtain ⟨x31, h30, hh⟩ := hh
    refine ae hF (bk hQ (g1 := fun y0 => bn.f k y0) (fun h => (ih k (Nat.lt_succ_self k)).1 h) h30) ?_
    cbv
    exact Eb
    have f29 : (eq p0c 0) = false := Fb b28
    have g := f29; cbv at g; try rw [f29]
    try rw [g]
    cbv
    exact Eb
    have f17 : x14 = false := Fb b16
    have g := f17; cbv at g; try rw [f17]
    try rw [g]
    cbv
    exact Eb
    replace hh := ifF hh f12
    try rw [f12]
    cbv
    first | rw [f12] | (have g := f12; cbv at g; rw [g])
    cbv
    replace hh := az hh
    rcases hh with ⟨b33, hh⟩ | ⟨b33, hh⟩
    have f34 : (eq p0b 0) = true := Tb b33
    have g := f34; cbv at g; try rw [f34]
    try rw [g]
    cbv
    refine bcs (fun f36 => ?_) (fun f36 => ?_)
    replace hh := ifT hh f36
    try rw [f36]
    cbv
    replace hh := bind_some hh
    obtain ⟨x38, h37, hh⟩ := hh
    refine ae hF (aR hQ h37) ?_
    cbv
    replace hh := az hh
    rcases hh with ⟨b40, hh⟩ | ⟨b40, hh⟩
    have f41 : x38 = true := Tb b40
    have g := f41; cbv at g; try rw [f41]
    try rw [g]
    cbv
    first | rw [f36] | (have g := f36; cbv at g; rw [g])
    cbv
    replace hh := bind_some hh
    obtain ⟨x43, h42, hh⟩ := hh
    refine ae hF (bk hQ (g1 := fun y0 => bn.f k y0) (fun h => (ih k (Nat.lt_succ_self k)).1 h) h42) ?_
    cbv
    exact Eb
    have f41 : x38 = false := Fb b40
    have g := f41; cbv at g; try rw [f41]
    try rw [g]
    cbv
    exact Eb
    replace hh := ifF hh f36
    try rw [f36]
    cbv
    first | rw [f36] | (have g := f36; cbv at g; rw [g])
    cbv
    replace hh := az hh
    rcases hh with ⟨b45, hh⟩ | ⟨b45, hh⟩
    have f46 : (eq p0c 0) = true := Tb b45
    have g := f46; cbv at g; try rw [f46]
    try rw [g]
    cbv
    replace hh := bind_some hh
    obtain ⟨x48, h47, hh⟩ := hh
    refine ae hF (bk hQ (g1 := fun y0 => bn.f k y0) (fun h => (ih k (Nat.lt_succ_self k)).1 h) h47) ?_
    cbv
    exact Eb
    have f46 : (eq p0c 0) = false := Fb b45
    have g := f46; cbv at g; try rw [f46]
    try rw [g]
    cbv
    exact Eb
    have f34 : (eq p0b 0) = false := Fb b33
    have g := f34; cbv at g; try rw [f34]
    try rw [g]
    cbv
    exact Eb
    have f10 : (eq (cast (len (qGEx p0d))) x7) = false := Fb b9
    have g := f10; cbv at g; try rw [f10]
    try rw [g]
    cbv
    exact Eb
    have f5 : x2 = false := Fb b4
    have g := f5; cbv at g; try rw [f5]
    try rw [g]
    cbv
    exact Eb
theorem lu {k : Nat} {p0 : GEx} {r : Bool} (hh : c9.f k p0 = some r) : ag P 122 [.agg [iA p0.Kind, iA p0.Sym, iA p0.N, tA (qGEx p0.Kids)]] [hA] (bA r) := (rf hQ k).2 hh



theorem li {k : Nat} {p0 : GEx} {r : Bool} (hh : iN.f k p0 = some r) : ag P 55 [.agg [iA p0.Kind, iA p0.Sym, iA p0.N, tA (qGEx p0.Kids)]] [hA] (bA r) := by
 obtain ⟨p0a, p0b, p0c, p0d⟩ := p0
 unfold iN.f at hh
 refine go (ts := [(2, none)]) (rm := [.own]) (pm := [.skip]) Tryz.func55 ?_
 intro Fn LW IN len cast toNat wrap add sub mul bin lt eq At set part app fz' rep nadd nmax ssize sext sget scat seq slt Wide Flat Ones Room r' post' hC hF hr hp
 cbv
 replace hh := bind_some hh
 obtain ⟨⟨x2_0, x2_1⟩, h1, hh⟩ := hh
 try dsimp only at hh
 refine ae hF (nu hQ h1) ?_
 cbv
 replace hh := az hh
 rcases hh with ⟨b4, hh⟩ | ⟨b4, hh⟩
 have f5 : (lt 12 x2_0) = true := Tb b4
 have g := f5; cbv at g; try rw [f5]
 try rw [g]
 cbv
 exact Eb
 have f5 : (lt 12 x2_0) = false := Fb b4
 have g := f5; cbv at g; try rw [f5]
 try rw [g]
 cbv
 replace hh := az hh
 rcases hh with ⟨b6, hh⟩ | ⟨b6, hh⟩
 have f7 : (lt 5 x2_1) = true := Tb b6
 have g := f7; cbv at g; try rw [f7]
 try rw [g]
 cbv
 exact Eb
 have f7 : (lt 5 x2_1) = false := Fb b6
 have g := f7; cbv at g; try rw [f7]
 try rw [g]
 cbv
 replace hh := bind_some hh
 obtain ⟨x9, h8, hh⟩ := hh
 refine ae hF (lu hQ h8) ?_
 cbv
 exact Eb

theorem nV {k : Nat} {p0 : GRule} {r : Bool} (hh : ja.f k p0 = some r) : ag P 33 [.agg [sA p0.Name, iA p0.Pri, iA p0.Mode, iA p0.Ex.Kind, iA p0.Ex.Sym, iA p0.Ex.N, tA (qGEx p0.Ex.Kids), iA p0.Low, iA p0.High, iA p0.Key, iA p0.Add, iA p0.Raise]] [hA] (bA r) := by
 obtain ⟨p0a, p0b, p0c, ⟨p0d, p0e, p0f, p0g⟩, p0h, p0i, p0j, p0k, p0l⟩ := p0
 unfold ja.f at hh
 refine go (ts := [(2, none)]) (rm := [.own]) (pm := [.skip]) Tryz.func33 ?_
 intro Fn LW IN len cast toNat wrap add sub mul bin lt eq At set part app fz' rep nadd nmax ssize sext sget scat seq slt Wide Flat Ones Room r' post' hC hF hr hp
 cbv
 replace hh := bind_some hh
 obtain ⟨x2, h1, hh⟩ := hh
 refine ae hF (oa hQ h1) ?_
 cbv
 refine bcs (fun f5 => ?_) (fun f5 => ?_)
 replace hh := ifT hh f5
 try rw [f5]
 cbv
 replace hh := bind_some hh
 obtain ⟨x7, h6, hh⟩ := hh
 refine ae hF (aR hQ h6) ?_
 cbv
 refine bcs (fun f10 => ?_) (fun f10 => ?_)
 replace hh := ifT hh f10
 try rw [f10]
 cbv
 replace hh := bind_some hh
 obtain ⟨x12, h11, hh⟩ := hh
 refine ae hF (gz hQ h11) ?_
 cbv
 refine bcs (fun f15 => ?_) (fun f15 => ?_)
 replace hh := ifT hh f15
 try rw [f15]
 cbv
 replace hh := bind_some hh
 obtain ⟨x17, h16, hh⟩ := hh
 refine ae hF (li hQ h16) ?_
 cbv
 refine bcs (fun f20 => ?_) (fun f20 => ?_)
 replace hh := ifT hh f20
 try rw [f20]
 cbv
 replace hh := bind_some hh
 obtain ⟨x22, h21, hh⟩ := hh
 refine ae hF (aR hQ h21) ?_
 cbv
 refine bcs (fun f25 => ?_) (fun f25 => ?_)
 replace hh := ifT hh f25
 try rw [f25]
 cbv
 replace hh := az hh
 rcases hh with ⟨b26, hh⟩ | ⟨b26, hh⟩
 have f27 : (lt 100 p0i) = true := Tb b26
 have g := f27; cbv at g; try rw [f27]
 try rw [g]
 cbv
 exact Eb
 have f27 : (lt 100 p0i) = false := Fb b26
 have g := f27; cbv at g; try rw [f27]
 try rw [g]
 cbv
 replace hh := bind_some hh
 obtain ⟨x29, h28, hh⟩ := hh
 refine ae hF (aR hQ h28) ?_
 cbv
 refine bcs (fun f32 => ?_) (fun f32 => ?_)
 replace hh := ifT hh f32
 try rw [f32]
 cbv
 replace hh := bind_some hh
 obtain ⟨x34, h33, hh⟩ := hh
 refine ae hF (aR hQ h33) ?_
 cbv
 refine bcs (fun f37 => ?_) (fun f37 => ?_)
 replace hh := ifT hh f37
 try rw [f37]
 cbv
 replace hh := bind_some hh
 obtain ⟨x39, h38, hh⟩ := hh
 refine ae hF (aR hQ h38) ?_
 cbv
 exact Eb
 replace hh := ifF hh f37
 try rw [f37]
 cbv
 exact Eb
 replace hh := ifF hh f32
 try rw [f32]
 cbv
 exact Eb
 replace hh := ifF hh f25
 try rw [f25]
 cbv
 exact Eb
 replace hh := ifF hh f20
 try rw [f20]
 cbv
 exact Eb
 replace hh := ifF hh f15
 try rw [f15]
 cbv
 exact Eb
 replace hh := ifF hh f10
 try rw [f10]
 cbv
 exact Eb
 replace hh := ifF hh f5
 try rw [f5]
 cbv
 exact Eb

theorem lD {p0 : GRule} {c0 : GRule} {r : Bool} (hh : eT.f p0 c0 = some r) : ag P 86 [.agg [sA p0.Name, iA p0.Pri, iA p0.Mode, iA p0.Ex.Kind, iA p0.Ex.Sym, iA p0.Ex.N, tA (qGEx p0.Ex.Kids), iA p0.Low, iA p0.High, iA p0.Key, iA p0.Add, iA p0.Raise], .iptr [sA c0.Name, iA c0.Pri, iA c0.Mode, iA c0.Ex.Kind, iA c0.Ex.Sym, iA c0.Ex.N, tA (qGEx c0.Ex.Kids), iA c0.Low, iA c0.High, iA c0.Key, iA c0.Add, iA c0.Raise] 0] [hA, hA] (bA r) := by
 obtain ⟨p0a, p0b, p0c, ⟨p0d, p0e, p0f, p0g⟩, p0h, p0i, p0j, p0k, p0l⟩ := p0
 obtain ⟨c0a, c0b, c0c, ⟨c0d, c0e, c0f, c0g⟩, c0h, c0i, c0j, c0k, c0l⟩ := c0
 unfold eT.f at hh
 refine go (ts := [(3, none)]) (rm := [.own]) (pm := [.skip, .skip]) Tryz.func86 ?_
 intro Fn LW IN len cast toNat wrap add sub mul bin lt eq At set part app fz' rep nadd nmax ssize sext sget scat seq slt Wide Flat Ones Room r' post' hC hF hr hp
 cbv
 exact Eb

theorem ei {k : Nat} {g1 : GRule → Option Bool} {cp1_0 : GRule} (hg1 : ∀ {y0 : GRule} {r : Bool}, g1 y0 = some r → ag P 86 [.agg [sA y0.Name, iA y0.Pri, iA y0.Mode, iA y0.Ex.Kind, iA y0.Ex.Sym, iA y0.Ex.N, tA (qGEx y0.Ex.Kids), iA y0.Low, iA y0.High, iA y0.Key, iA y0.Add, iA y0.Raise], .iptr [sA cp1_0.Name, iA cp1_0.Pri, iA cp1_0.Mode, iA cp1_0.Ex.Kind, iA cp1_0.Ex.Sym, iA cp1_0.Ex.N, tA (qGEx cp1_0.Ex.Kids), iA cp1_0.Low, iA cp1_0.High, iA cp1_0.Key, iA cp1_0.Add, iA cp1_0.Raise] 0] [hA, hA] (bA r)) {p0 : List GRule} {r : Int} (hh : bo.f g1 k p0 = some r) : ag P 144 [tA (qGRule p0), .clo 86 [.iptr [sA cp1_0.Name, iA cp1_0.Pri, iA cp1_0.Mode, iA cp1_0.Ex.Kind, iA cp1_0.Ex.Sym, iA cp1_0.Ex.N, tA (qGEx cp1_0.Ex.Kids), iA cp1_0.Low, iA cp1_0.High, iA cp1_0.Key, iA cp1_0.Add, iA cp1_0.Raise] 0]] [hA, hA] (iA r) := by
 obtain ⟨cp1_0a, cp1_0b, cp1_0c, ⟨cp1_0d, cp1_0e, cp1_0f, cp1_0g⟩, cp1_0h, cp1_0i, cp1_0j, cp1_0k, cp1_0l⟩ := cp1_0
 unfold bo.f at hh
 refine go (ts := [(4, none)]) (rm := [.own]) (pm := [.skip, .skip]) Tryz.func144 ?_
 intro Fn LW IN len cast toNat wrap add sub mul bin lt eq At set part app fz' rep nadd nmax ssize sext sget scat seq slt Wide Flat Ones Room r' post' hC hF hr hp
 cbv
 replace hh := bind_some hh
 obtain ⟨o1, hl1, hq1⟩ := hh
 refine ap hC eok mixed (bo.l0 k g1 p0)
  (fun s11 => (⟨[(0, tA (qGRule p0)), (1, .clo 86 [.iptr [sA cp1_0a, iA cp1_0b, iA cp1_0c, iA cp1_0d, iA cp1_0e, iA cp1_0f, tA (qGEx cp1_0g), iA cp1_0h, iA cp1_0i, iA cp1_0j, iA cp1_0k, iA cp1_0l] 0]), (7, iA (cast (len (qGRule p0)))), (8, iA s11)], []⟩ : St))
  (fun (_ : Unit) => (⟨[], []⟩ : St)) .ok (.exit 0)
  (i0 := _) hl1 (fun _ => rfl) ?_ ?_ ?_
 ·rintro t0 e
  refine ah ?_
  cbv
  all_goals exact J1
 rintro _ hx
 subst o1
 have hh := hq1
 cbv
 exact Eb
 rintro n s11 N1 D1 hh hN1 hD1 hQ1
 unfold bo.l0 at hh
 cbv
 refine bcs (fun f23 => ?_) (fun f23 => ?_)
 replace hh := ifT hh f23
 try rw [f23]
 cbv
 replace hh := aa hh
 obtain ⟨h24, hh⟩ := hh
 replace hh := bind_some hh
 obtain ⟨⟨e25a, e25b, e25c, ⟨e25d, e25e, e25f, e25g⟩, e25h, e25i, e25j, e25k, e25l⟩, h26, hh⟩ := hh
 try dsimp only at hh
 refine ⟨[sA e25a, iA e25b, iA e25c, iA e25d, iA e25e, iA e25f, tA (qGEx e25g), iA e25h, iA e25i, iA e25j, iA e25k, iA e25l], Nb h24, Gb h26, ?_⟩
 cbv
 replace hh := bind_some hh
 obtain ⟨x28, h27, hh⟩ := hh
 refine ae hF (hg1 h27) ?_
 cbv
 refine bcs (fun f31 => ?_) (fun f31 => ?_)
 replace hh := ifT hh f31
 try rw [f31]
 cbv
 cases hh
 have hh : some _ = some _ := hq1
 refine hQ1 _ _ ?_
 cbv
 exact Eb
 replace hh := ifF hh f31
 try rw [f31]
 cbv
 ·refine hN1 _ _ hh fun t0 e => ?_
  refine ah ?_
  cbv
  all_goals exact J1
 replace hh := ifF hh f23
 try rw [f23]
 cbv
 ·refine hD1 () _ hh fun _ e => ?_
  refine ah ?_
  cbv
  all_goals exact J0

theorem dO {k : Nat} {g1 : GRule → Option Bool} {cp1_0 : GRule} (hg1 : ∀ {y0 : GRule} {r : Bool}, g1 y0 = some r → ag P 86 [.agg [sA y0.Name, iA y0.Pri, iA y0.Mode, iA y0.Ex.Kind, iA y0.Ex.Sym, iA y0.Ex.N, tA (qGEx y0.Ex.Kids), iA y0.Low, iA y0.High, iA y0.Key, iA y0.Add, iA y0.Raise], .iptr [sA cp1_0.Name, iA cp1_0.Pri, iA cp1_0.Mode, iA cp1_0.Ex.Kind, iA cp1_0.Ex.Sym, iA cp1_0.Ex.N, tA (qGEx cp1_0.Ex.Kids), iA cp1_0.Low, iA cp1_0.High, iA cp1_0.Key, iA cp1_0.Add, iA cp1_0.Raise] 0] [hA, hA] (bA r)) {p0 : List GRule} {r : Bool} (hh : dh.f g1 k p0 = some r) : ag P 85 [tA (qGRule p0), .clo 86 [.iptr [sA cp1_0.Name, iA cp1_0.Pri, iA cp1_0.Mode, iA cp1_0.Ex.Kind, iA cp1_0.Ex.Sym, iA cp1_0.Ex.N, tA (qGEx cp1_0.Ex.Kids), iA cp1_0.Low, iA cp1_0.High, iA cp1_0.Key, iA cp1_0.Add, iA cp1_0.Raise] 0]] [hA, hA] (bA r) := by
 obtain ⟨cp1_0a, cp1_0b, cp1_0c, ⟨cp1_0d, cp1_0e, cp1_0f, cp1_0g⟩, cp1_0h, cp1_0i, cp1_0j, cp1_0k, cp1_0l⟩ := cp1_0
 unfold dh.f at hh
 refine go (ts := [(4, none)]) (rm := [.own]) (pm := [.skip, .skip]) Tryz.func85 ?_
 intro Fn LW IN len cast toNat wrap add sub mul bin lt eq At set part app fz' rep nadd nmax ssize sext sget scat seq slt Wide Flat Ones Room r' post' hC hF hr hp
 cbv
 replace hh := bind_some hh
 obtain ⟨x2, h1, hh⟩ := hh
 refine ae hF (ei hQ (g1 := g1) hg1 h1) ?_
 cbv
 exact Eb

theorem fM {k : Nat} {p0 : List GRule} {r : Bool} (hh : bx.f k p0 = some r) : ag P 38 [tA (qGRule p0)] [hA] (bA r) := by
 unfold bx.f at hh
 refine go (ts := [(2, none)]) (rm := [.own]) (pm := [.skip]) Tryz.func38 ?_
 intro Fn LW IN len cast toNat wrap add sub mul bin lt eq At set part app fz' rep nadd nmax ssize sext sget scat seq slt Wide Flat Ones Room r' post' hC hF hr hp
 cbv
 replace hh := bind_some hh
 obtain ⟨o1, hl1, hq1⟩ := hh
 refine ap hC eok mixed (bx.l0 k p0)
  (fun s19 => (⟨[(0, tA (qGRule p0)), (5, tA (qGRule p0)), (6, iA (cast (len (qGRule p0)))), (7, iA s19)], []⟩ : St))
  (fun (_ : Unit) => (⟨[(0, tA (qGRule p0))], []⟩ : St)) .ok (.exit 0)
  (i0 := _) hl1 (fun _ => rfl) ?_ ?_ ?_
 ·rintro t0 e
  refine ah ?_
  cbv
  all_goals exact J1
 rintro _ hx
 subst o1
 have hh := hq1
 cbv
 exact Eb
 rintro n s19 N1 D1 hh hN1 hD1 hQ1
 unfold bx.l0 at hh
 cbv
 refine bcs (fun f39 => ?_) (fun f39 => ?_)
 replace hh := ifT hh f39
 try rw [f39]
 cbv
 replace hh := aa hh
 obtain ⟨h40, hh⟩ := hh
 replace hh := bind_some hh
 obtain ⟨⟨e41a, e41b, e41c, ⟨e41d, e41e, e41f, e41g⟩, e41h, e41i, e41j, e41k, e41l⟩, h42, hh⟩ := hh
 try dsimp only at hh
 refine ⟨[sA e41a, iA e41b, iA e41c, iA e41d, iA e41e, iA e41f, tA (qGEx e41g), iA e41h, iA e41i, iA e41j, iA e41k, iA e41l], Nb h40, Gb h42, ?_⟩
 cbv
 replace hh := bind_some hh
 obtain ⟨x44, h43, hh⟩ := hh
 refine ae hF (nV hQ h43) ?_
 cbv
 replace hh := az hh
 rcases hh with ⟨b46, hh⟩ | ⟨b46, hh⟩
 have f47 : x44 = true := Tb b46
 have g := f47; cbv at g; try rw [f47]
 try rw [g]
 cbv
 replace hh := aa hh
 obtain ⟨h48, hh⟩ := hh
 replace hh := aa hh
 obtain ⟨h49, hh⟩ := hh
 replace hh := aa hh
 obtain ⟨h50, hh⟩ := hh
 refine ⟨⟨Nb h48, Nb h49, Nb h50, Ab⟩, ?_⟩
 replace hh := bind_some hh
 obtain ⟨x52, h51, hh⟩ := hh
 refine ae hF (dO hQ (g1 := fun y0 => eT.f y0 ((⟨e41a, e41b, e41c, (⟨e41d, e41e, e41f, e41g⟩ : GEx), e41h, e41i, e41j, e41k, e41l⟩ : GRule))) (fun h => lD hQ h) h51) ?_
 cbv
 refine bcs (fun f55 => ?_) (fun f55 => ?_)
 replace hh := ifT hh f55
 try rw [f55]
 cbv
 cases hh
 have hh : some _ = some _ := hq1
 refine hQ1 _ _ ?_
 cbv
 exact Eb
 replace hh := ifF hh f55
 try rw [f55]
 cbv
 ·refine hN1 _ _ hh fun t0 e => ?_
  refine ah ?_
  cbv
  all_goals exact J1
 have f47 : x44 = false := Fb b46
 have g := f47; cbv at g; try rw [f47]
 try rw [g]
 cbv
 cases hh
 have hh : some _ = some _ := hq1
 refine hQ1 _ _ ?_
 cbv
 exact Eb
 replace hh := ifF hh f39
 try rw [f39]
 cbv
 ·refine hD1 () _ hh fun _ e => ?_
  refine ah ?_
  cbv
  all_goals exact J0

theorem rp : ∀ k : Nat, (∀ {p0 : GEx} {r : GEx}, bF.f k p0 = some r → ag P 187 [.agg [iA p0.Kind, iA p0.Sym, iA p0.N, tA (qGEx p0.Kids)]] [hA] (.agg [iA r.Kind, iA r.Sym, iA r.N, oA 4 (qGExO r.Kids)])) := by
  intro k
  induction k using Nat.strongRecOn with
  | _ k ih =>
  · intro p0 r hh
    cases k with
    | zero => unfold bF.f at hh; cases hh
    | succ k =>
    obtain ⟨p0a, p0b, p0c, p0d⟩ := p0
    unfold bF.f at hh
    refine go (ts := [(2, some 25)]) (rm := [.own]) (pm := [.skip]) Tryz.func187 ?_
    intro Fn LW IN len cast toNat wrap add sub mul bin lt eq At set part app fz' rep nadd nmax ssize sext sget scat seq slt Wide Flat Ones Room r' post' hC hF hr hp
    cbv
    replace hh := bind_some hh
    obtain ⟨o1, hl1, hq1⟩ := hh
    refine ap hC eok mixed (fun n (i : (List GEx) × Int) => bF.l0 k (bF.f k) (⟨p0a, p0b, p0c, p0d⟩ : GEx) n i.1 i.2)
     (fun ⟨s10, s11⟩ => (⟨[(1, .mptr (1, 0) 1 0 0), (2, .mptr (2, 0) 1 0 0), (3, .ref (3, 50) 1 0 (len (qGExO s10))), (7, tA (qGEx p0d)), (8, iA (cast (len (qGEx p0d)))), (9, iA s11)], [((1, 0), .box 1 [iA p0a, iA p0b, iA p0c, tA (qGEx p0d)]), ((2, 0), .box 1 [iA 0, iA 0, iA 0, .lit (.slice none 0 0)]), ((3, 50), .arr 1 4 (qGExO s10))]⟩ : St))
     (fun (x21 : List GEx) => (⟨[(1, .mptr (1, 0) 1 0 0), (2, .mptr (2, 0) 1 0 0), (3, .ref (3, 50) 1 0 (len (qGExO x21)))], [((1, 0), .box 1 [iA p0a, iA p0b, iA p0c, tA (qGEx p0d)]), ((2, 0), .box 1 [iA 0, iA 0, iA 0, .lit (.slice none 0 0)]), ((3, 50), .arr 1 4 (qGExO x21))]⟩ : St)) (fun x => x) (.exit 0)
     (i0 := (_, _)) hl1 (fun _ => rfl) ?_ ?_ ?_
    ·rintro ⟨t0, t1⟩ e
     refine aq [((1, 0), (1, 0)), ((2, 0), (2, 0))] ?_
     cbv
     all_goals exact J2
    rintro x21 hx
    subst o1
    have hh := hq1
    cbv
    exact Eb
    rintro n ⟨s10, s11⟩ N1 D1 hh hN1 hD1 hQ1
    try dsimp only at hh
    unfold bF.l0 at hh
    cbv
    refine bcs (fun f23 => ?_) (fun f23 => ?_)
    replace hh := ifT hh f23
    try rw [f23]
    cbv
    replace hh := aa hh
    obtain ⟨h24, hh⟩ := hh
    replace hh := bind_some hh
    obtain ⟨⟨e25a, e25b, e25c, e25d⟩, h26, hh⟩ := hh
    try dsimp only at hh
    refine ⟨[iA e25a, iA e25b, iA e25c, tA (qGEx e25d)], Nb h24, Gb h26, ?_⟩
    cbv
    replace hh := bind_some hh
    obtain ⟨⟨x28a, x28b, x28c, x28d⟩, h27, hh⟩ := hh
    try dsimp only at hh
    have fc := (ih k (Nat.lt_succ_self k)) h27
    try dsimp only at fc
    refine ae hF fc ?_
    cbv
    replace hh := aa hh
    obtain ⟨h30, hh⟩ := hh
    refine ⟨⟨Ob, Ab⟩, ?_⟩
    refine ⟨⟨Ob, Wb h30⟩, ?_⟩
    ·refine hN1 (_, _) _ hh fun ⟨t0, t1⟩ e => ?_
     refine aq [((1, 0), (1, 0)), ((2, 0), (2, 0)), ((3, 50), (17, 0))] ?_
     cbv
     all_goals exact J2
    replace hh := ifF hh f23
    try rw [f23]
    cbv
    ·refine hD1 _ _ hh fun t0 e => ?_
     refine ah ?_
     cbv
     all_goals exact J1
theorem mM {k : Nat} {p0 : GEx} {r : GEx} (hh : bF.f k p0 = some r) : ag P 187 [.agg [iA p0.Kind, iA p0.Sym, iA p0.N, tA (qGEx p0.Kids)]] [hA] (.agg [iA r.Kind, iA r.Sym, iA r.N, oA 4 (qGExO r.Kids)]) := (rp hQ k) hh


theorem kU {k : Nat} {p0 : GRule} {r : GRule} (hh : fD.f k p0 = some r) : ag P 139 [.agg [sA p0.Name, iA p0.Pri, iA p0.Mode, iA p0.Ex.Kind, iA p0.Ex.Sym, iA p0.Ex.N, tA (qGEx p0.Ex.Kids), iA p0.Low, iA p0.High, iA p0.Key, iA p0.Add, iA p0.Raise]] [hA] (.agg [sA r.Name, iA r.Pri, iA r.Mode, iA r.Ex.Kind, iA r.Ex.Sym, iA r.Ex.N, oA 4 (qGExO r.Ex.Kids), iA r.Low, iA r.High, iA r.Key, iA r.Add, iA r.Raise]) := by
 obtain ⟨p0a, p0b, p0c, ⟨p0d, p0e, p0f, p0g⟩, p0h, p0i, p0j, p0k, p0l⟩ := p0
 unfold fD.f at hh
 refine go (ts := [(2, some 60)]) (rm := [.own]) (pm := [.skip]) Tryz.func139 ?_
 intro Fn LW IN len cast toNat wrap add sub mul bin lt eq At set part app fz' rep nadd nmax ssize sext sget scat seq slt Wide Flat Ones Room r' post' hC hF hr hp
 cbv
 replace hh := bind_some hh
 obtain ⟨⟨x2a, x2b, x2c, x2d⟩, h1, hh⟩ := hh
 try dsimp only at hh
 have fc := mM hQ h1
 try dsimp only at fc
 refine ae hF fc ?_
 cbv
 exact Eb

theorem gE {k : Nat} {p0 : List GRule} {r : List GRule} (hh : bh.f k p0 = some r) : ag P 82 [tA (qGRule p0)] [hA] (oA 12 (qGRule r)) := by
 unfold bh.f at hh
 refine go (ts := [(2, none)]) (rm := [.own]) (pm := [.skip]) Tryz.func82 ?_
 intro Fn LW IN len cast toNat wrap add sub mul bin lt eq At set part app fz' rep nadd nmax ssize sext sget scat seq slt Wide Flat Ones Room r' post' hC hF hr hp
 cbv
 replace hh := bind_some hh
 obtain ⟨o1, hl1, hq1⟩ := hh
 refine ap hC eok mixed (fun n (i : (List GRule) × Int) => bh.l0 k p0 n i.1 i.2)
  (fun ⟨s10, s11⟩ => (⟨[(3, .ref (3, 50) 1 0 (len (qGRule s10))), (6, tA (qGRule p0)), (7, iA (cast (len (qGRule p0)))), (8, iA s11)], [((3, 50), .arr 1 12 (qGRule s10))]⟩ : St))
  (fun (x21 : List GRule) => (⟨[(3, .ref (3, 50) 1 0 (len (qGRule x21)))], [((3, 50), .arr 1 12 (qGRule x21))]⟩ : St)) (fun x => x) (.exit 0)
  (i0 := (_, _)) hl1 (fun _ => rfl) ?_ ?_ ?_
 ·rintro ⟨t0, t1⟩ e
  refine aq [] ?_
  cbv
  all_goals exact J2
 rintro x21 hx
 subst o1
 have hh := hq1
 cbv
 exact Eb
 rintro n ⟨s10, s11⟩ N1 D1 hh hN1 hD1 hQ1
 try dsimp only at hh
 unfold bh.l0 at hh
 cbv
 refine bcs (fun f23 => ?_) (fun f23 => ?_)
 replace hh := ifT hh f23
 try rw [f23]
 cbv
 replace hh := aa hh
 obtain ⟨h24, hh⟩ := hh
 replace hh := bind_some hh
 obtain ⟨⟨e25a, e25b, e25c, ⟨e25d, e25e, e25f, e25g⟩, e25h, e25i, e25j, e25k, e25l⟩, h26, hh⟩ := hh
 try dsimp only at hh
 refine ⟨[sA e25a, iA e25b, iA e25c, iA e25d, iA e25e, iA e25f, tA (qGEx e25g), iA e25h, iA e25i, iA e25j, iA e25k, iA e25l], Nb h24, Gb h26, ?_⟩
 cbv
 replace hh := bind_some hh
 obtain ⟨⟨x28a, x28b, x28c, ⟨x28d, x28e, x28f, x28g⟩, x28h, x28i, x28j, x28k, x28l⟩, h27, hh⟩ := hh
 try dsimp only at hh
 have fc := ag.frz (r' := .agg [sA x28a, iA x28b, iA x28c, iA x28d, iA x28e, iA x28f, tA (qGEx x28g), iA x28h, iA x28i, iA x28j, iA x28k, iA x28l]) (kU hQ h27) (by cases hQ; simp)
 try dsimp only at fc
 refine ae hF fc ?_
 cbv
 replace hh := aa hh
 obtain ⟨h30, hh⟩ := hh
 refine ⟨⟨Ob, Ab⟩, ?_⟩
 refine ⟨⟨Ob, Wb h30⟩, ?_⟩
 ·refine hN1 (_, _) _ hh fun ⟨t0, t1⟩ e => ?_
  refine aq [((3, 50), (16, 0))] ?_
  cbv
  all_goals exact J2
 replace hh := ifF hh f23
 try rw [f23]
 cbv
 ·refine hD1 _ _ hh fun t0 e => ?_
  refine ah ?_
  cbv
  all_goals exact J1

theorem nj {k : Nat} {p0 : List Int} {p1 : List Int} {r : Bool} (hh : cP.f k p0 p1 = some r) : ag P 113 [tA (qInt p0), tA (qInt p1)] [hA, hA] (bA r) := by
 unfold cP.f at hh
 refine go (ts := [(4, none)]) (rm := [.own]) (pm := [.skip, .skip]) Tryz.func113 ?_
 intro Fn LW IN len cast toNat wrap add sub mul bin lt eq At set part app fz' rep nadd nmax ssize sext sget scat seq slt Wide Flat Ones Room r' post' hC hF hr hp
 cbv
 replace hh := az hh
 rcases hh with ⟨b1, hh⟩ | ⟨b1, hh⟩
 have f2 : (eq (cast (len (qInt p0))) (cast (len (qInt p1)))) = true := Tb b1
 have g := f2; cbv at g; try rw [f2]
 try rw [g]
 cbv
 replace hh := bind_some hh
 obtain ⟨o1, hl1, hq1⟩ := hh
 refine ap hC eok mixed (cP.l0 k p0 p1)
  (fun s13 => (⟨[(0, tA (qInt p0)), (1, tA (qInt p1)), (12, iA (cast (len (qInt p0)))), (13, iA s13)], []⟩ : St))
  (fun (_ : Unit) => (⟨[], []⟩ : St)) .ok (.exit 0)
  (i0 := _) hl1 (fun _ => rfl) ?_ ?_ ?_
 ·rintro t0 e
  refine ah ?_
  cbv
  all_goals exact J1
 rintro _ hx
 subst o1
 have hh := hq1
 cbv
 exact Eb
 rintro n s13 N1 D1 hh hN1 hD1 hQ1
 unfold cP.l0 at hh
 cbv
 refine bcs (fun f25 => ?_) (fun f25 => ?_)
 replace hh := ifT hh f25
 try rw [f25]
 cbv
 replace hh := aa hh
 obtain ⟨h26, hh⟩ := hh
 replace hh := bind_some hh
 obtain ⟨e27, h28, hh⟩ := hh
 refine ⟨[iA e27], Nb h26, Gb h28, ?_⟩
 cbv
 replace hh := aa hh
 obtain ⟨h29, hh⟩ := hh
 replace hh := bind_some hh
 obtain ⟨e30, h31, hh⟩ := hh
 refine ⟨[iA e30], Nb h29, Gb h31, ?_⟩
 cbv
 replace hh := az hh
 rcases hh with ⟨b32, hh⟩ | ⟨b32, hh⟩
 have f33 : (eq e27 e30) = true := Tb b32
 have g := f33; cbv at g; try rw [f33]
 try rw [g]
 cbv
 ·refine hN1 _ _ hh fun t0 e => ?_
  refine ah ?_
  cbv
  all_goals exact J1
 have f33 : (eq e27 e30) = false := Fb b32
 have g := f33; cbv at g; try rw [f33]
 try rw [g]
 cbv
 cases hh
 have hh : some _ = some _ := hq1
 refine hQ1 _ _ ?_
 cbv
 exact Eb
 replace hh := ifF hh f25
 try rw [f25]
 cbv
 ·refine hD1 () _ hh fun _ e => ?_
  refine ah ?_
  cbv
  all_goals exact J0
 have f2 : (eq (cast (len (qInt p0))) (cast (len (qInt p1)))) = false := Fb b1
 have g := f2; cbv at g; try rw [f2]
 try rw [g]
 cbv
 exact Eb

theorem kp {k : Nat} {p0 : GNode} {c0 : GNode} {r : Bool} (hh : d8.f k p0 c0 = some r) : ag P 181 [.agg [iA p0.Kind, iA p0.Sym, iA p0.N, tA (qInt p0.Kids), tA (qGOcc p0.Pair.Left), tA (qGOcc p0.Pair.Right), tA (qGOcc p0.Span.Left), tA (qGOcc p0.Span.Mid), tA (qGOcc p0.Due), iA p0.Many], .iptr [iA c0.Kind, iA c0.Sym, iA c0.N, tA (qInt c0.Kids), tA (qGOcc c0.Pair.Left), tA (qGOcc c0.Pair.Right), tA (qGOcc c0.Span.Left), tA (qGOcc c0.Span.Mid), tA (qGOcc c0.Due), iA c0.Many] 0] [hA, hA] (bA r) := by
 obtain ⟨p0a, p0b, p0c, p0d, ⟨p0e, p0f⟩, ⟨p0g, p0h⟩, p0i, p0j⟩ := p0
 obtain ⟨c0a, c0b, c0c, c0d, ⟨c0e, c0f⟩, ⟨c0g, c0h⟩, c0i, c0j⟩ := c0
 unfold d8.f at hh
 refine go (ts := [(3, none)]) (rm := [.own]) (pm := [.skip, .skip]) Tryz.func181 ?_
 intro Fn LW IN len cast toNat wrap add sub mul bin lt eq At set part app fz' rep nadd nmax ssize sext sget scat seq slt Wide Flat Ones Room r' post' hC hF hr hp
 cbv
 refine bcs (fun f2 => ?_) (fun f2 => ?_)
 replace hh := ifT hh f2
 try rw [f2]
 cbv
 refine bcs (fun f4 => ?_) (fun f4 => ?_)
 replace hh := ifT hh f4
 try rw [f4]
 cbv
 refine bcs (fun f6 => ?_) (fun f6 => ?_)
 replace hh := ifT hh f6
 try rw [f6]
 cbv
 replace hh := bind_some hh
 obtain ⟨x8, h7, hh⟩ := hh
 refine ae hF (nj hQ h7) ?_
 cbv
 exact Eb
 replace hh := ifF hh f6
 try rw [f6]
 cbv
 exact Eb
 replace hh := ifF hh f4
 try rw [f4]
 cbv
 exact Eb
 replace hh := ifF hh f2
 try rw [f2]
 cbv
 exact Eb

theorem dX {k : Nat} {g1 : GNode → Option Bool} {cp1_0 : GNode} (hg1 : ∀ {y0 : GNode} {r : Bool}, g1 y0 = some r → ag P 181 [.agg [iA y0.Kind, iA y0.Sym, iA y0.N, tA (qInt y0.Kids), tA (qGOcc y0.Pair.Left), tA (qGOcc y0.Pair.Right), tA (qGOcc y0.Span.Left), tA (qGOcc y0.Span.Mid), tA (qGOcc y0.Due), iA y0.Many], .iptr [iA cp1_0.Kind, iA cp1_0.Sym, iA cp1_0.N, tA (qInt cp1_0.Kids), tA (qGOcc cp1_0.Pair.Left), tA (qGOcc cp1_0.Pair.Right), tA (qGOcc cp1_0.Span.Left), tA (qGOcc cp1_0.Span.Mid), tA (qGOcc cp1_0.Due), iA cp1_0.Many] 0] [hA, hA] (bA r)) {p0 : List GNode} {r : Int} (hh : aI.f g1 k p0 = some r) : ag P 180 [tA (qGNode p0), .clo 181 [.iptr [iA cp1_0.Kind, iA cp1_0.Sym, iA cp1_0.N, tA (qInt cp1_0.Kids), tA (qGOcc cp1_0.Pair.Left), tA (qGOcc cp1_0.Pair.Right), tA (qGOcc cp1_0.Span.Left), tA (qGOcc cp1_0.Span.Mid), tA (qGOcc cp1_0.Due), iA cp1_0.Many] 0]] [hA, hA] (iA r) := by
 obtain ⟨cp1_0a, cp1_0b, cp1_0c, cp1_0d, ⟨cp1_0e, cp1_0f⟩, ⟨cp1_0g, cp1_0h⟩, cp1_0i, cp1_0j⟩ := cp1_0
 unfold aI.f at hh
 refine go (ts := [(4, none)]) (rm := [.own]) (pm := [.skip, .skip]) Tryz.func180 ?_
 intro Fn LW IN len cast toNat wrap add sub mul bin lt eq At set part app fz' rep nadd nmax ssize sext sget scat seq slt Wide Flat Ones Room r' post' hC hF hr hp
 cbv
 replace hh := bind_some hh
 obtain ⟨o1, hl1, hq1⟩ := hh
 refine ap hC eok mixed (aI.l0 k g1 p0)
  (fun s11 => (⟨[(0, tA (qGNode p0)), (1, .clo 181 [.iptr [iA cp1_0a, iA cp1_0b, iA cp1_0c, tA (qInt cp1_0d), tA (qGOcc cp1_0e), tA (qGOcc cp1_0f), tA (qGOcc cp1_0g), tA (qGOcc cp1_0h), tA (qGOcc cp1_0i), iA cp1_0j] 0]), (7, iA (cast (len (qGNode p0)))), (8, iA s11)], []⟩ : St))
  (fun (_ : Unit) => (⟨[], []⟩ : St)) .ok (.exit 0)
  (i0 := _) hl1 (fun _ => rfl) ?_ ?_ ?_
 ·rintro t0 e
  refine ah ?_
  cbv
  all_goals exact J1
 rintro _ hx
 subst o1
 have hh := hq1
 cbv
 exact Eb
 rintro n s11 N1 D1 hh hN1 hD1 hQ1
 unfold aI.l0 at hh
 cbv
 refine bcs (fun f23 => ?_) (fun f23 => ?_)
 replace hh := ifT hh f23
 try rw [f23]
 cbv
 replace hh := aa hh
 obtain ⟨h24, hh⟩ := hh
 replace hh := bind_some hh
 obtain ⟨⟨e25a, e25b, e25c, e25d, ⟨e25e, e25f⟩, ⟨e25g, e25h⟩, e25i, e25j⟩, h26, hh⟩ := hh
 try dsimp only at hh
 refine ⟨[iA e25a, iA e25b, iA e25c, tA (qInt e25d), tA (qGOcc e25e), tA (qGOcc e25f), tA (qGOcc e25g), tA (qGOcc e25h), tA (qGOcc e25i), iA e25j], Nb h24, Gb h26, ?_⟩
 cbv
 replace hh := bind_some hh
 obtain ⟨x28, h27, hh⟩ := hh
 refine ae hF (hg1 h27) ?_
 cbv
 refine bcs (fun f31 => ?_) (fun f31 => ?_)
 replace hh := ifT hh f31
 try rw [f31]
 cbv
 cases hh
 have hh : some _ = some _ := hq1
 refine hQ1 _ _ ?_
 cbv
 exact Eb
 replace hh := ifF hh f31
 try rw [f31]
 cbv
 ·refine hN1 _ _ hh fun t0 e => ?_
  refine ah ?_
  cbv
  all_goals exact J1
 replace hh := ifF hh f23
 try rw [f23]
 cbv
 ·refine hD1 () _ hh fun _ e => ?_
  refine ah ?_
  cbv
  all_goals exact J0
theorem dy {k : Nat} {g1 : GNode → Option Bool} {cp1_0 : GNode} (hg1 : ∀ {y0 : GNode} {r : Bool}, g1 y0 = some r → ag P 181 [.agg [iA y0.Kind, iA y0.Sym, iA y0.N, tA (qInt y0.Kids), tA (qGOcc y0.Pair.Left), tA (qGOcc y0.Pair.Right), tA (qGOcc y0.Span.Left), tA (qGOcc y0.Span.Mid), tA (qGOcc y0.Due), iA y0.Many], .iptr [iA cp1_0.Kind, iA cp1_0.Sym, iA cp1_0.N, tA (qInt cp1_0.Kids), tA (qGOcc cp1_0.Pair.Left), tA (qGOcc cp1_0.Pair.Right), tA (qGOcc cp1_0.Span.Left), tA (qGOcc cp1_0.Span.Mid), tA (qGOcc cp1_0.Due), iA cp1_0.Many] 0] [hA, hA] (bA r)) {p0 : List GNode} {r : Int} (hh : aI.f g1 k p0 = some r) : ag P 180 [oA 10 (qGNode p0), .clo 181 [.iptr [iA cp1_0.Kind, iA cp1_0.Sym, iA cp1_0.N, tA (qInt cp1_0.Kids), tA (qGOcc cp1_0.Pair.Left), tA (qGOcc cp1_0.Pair.Right), tA (qGOcc cp1_0.Span.Left), tA (qGOcc cp1_0.Span.Mid), tA (qGOcc cp1_0.Due), iA cp1_0.Many] 0]] [oA 10 (qGNode p0), hA] (iA r) := by
  cases hQ; exact (dX .mk hg1 hh).lend (rfl) (.lend (congrArg A.tree (gN _).symm) (.same rfl .nil))

theorem rq : ∀ k : Nat, (∀ {p0 : GGraph} {p1 : GEx} {r : Int × GGraph}, bw.f k p0 p1 = some r → ag P 127 [.obox [iA p0.Mode, oA 10 (qGNode p0.Nodes), iA p0.Seen, iA p0.Now, bA p0.Full], .agg [iA p1.Kind, iA p1.Sym, iA p1.N, tA (qGEx p1.Kids)]] [.obox [iA r.2.Mode, oA 10 (qGNode r.2.Nodes), iA r.2.Seen, iA r.2.Now, bA r.2.Full], hA] (iA r.1)) := by
  intro k
  induction k using Nat.strongRecOn with
  | _ k ih =>
  · intro p0 p1 r hh
    cases k with
    | zero => unfold bw.f at hh; cases hh
    | succ k =>
    obtain ⟨p0a, p0b, p0c, p0d, p0e⟩ := p0
    obtain ⟨p1a, p1b, p1c, p1d⟩ := p1
    unfold bw.f at hh
    refine go (ts := [(4, none)]) (rm := [.own]) (pm := [.own, .skip]) Tryz.func127 ?_
    intro Fn LW IN len cast toNat wrap add sub mul bin lt eq At set part app fz' rep nadd nmax ssize sext sget scat seq slt Wide Flat Ones Room r' post' hC hF hr hp
    cbv
    replace hh := bind_some hh
    obtain ⟨o1, hl1, hq1⟩ := hh
    refine ap hC eok mixed (fun n (i : Int × (List GNode) × Int × Int × Bool × (List Int) × Int) => bw.l0 k (bw.f k) (⟨p1a, p1b, p1c, p1d⟩ : GEx) n i.1 i.2.1 i.2.2.1 i.2.2.2.1 i.2.2.2.2.1 i.2.2.2.2.2.1 i.2.2.2.2.2.2)
     (fun ⟨s10, s11, s12, s13, s14, s15, s16⟩ => (⟨[(0, .mptr (0, 0) 1 0 0), (5, .mptr (5, 0) 1 0 0), (17, tA (qGEx p1d)), (18, iA (cast (len (qGEx p1d)))), (19, iA s16), (1000000, .mptr (0, 0) 1 0 0)], [((0, 0), .box 1 [iA s10, .ref (900, 0) 1 0 (len (qGNode s11)), iA s12, iA s13, bA s14]), ((5, 0), .box 1 [iA p1a, iA p1b, iA p1c, .ref (5, 53) 1 0 (len (qInt s15)), .lit (.slice none 0 0), .lit (.slice none 0 0), .lit (.slice none 0 0), .lit (.slice none 0 0), .lit (.slice none 0 0), iA 0]), ((5, 53), .arr 1 1 (qInt s15)), ((900, 0), .arr 1 10 (qGNode s11))]⟩ : St))
     (fun (⟨x26, x27, x28, x29, x30, x31⟩ : Int × (List GNode) × Int × Int × Bool × (List Int)) => (⟨[(0, .mptr (0, 0) 1 0 0), (5, .mptr (5, 0) 1 0 0), (1000000, .mptr (0, 0) 1 0 0)], [((0, 0), .box 1 [iA x26, .ref (900, 0) 1 0 (len (qGNode x27)), iA x28, iA x29, bA x30]), ((5, 0), .box 1 [iA p1a, iA p1b, iA p1c, .ref (5, 53) 1 0 (len (qInt x31)), .lit (.slice none 0 0), .lit (.slice none 0 0), .lit (.slice none 0 0), .lit (.slice none 0 0), .lit (.slice none 0 0), iA 0]), ((5, 53), .arr 1 1 (qInt x31)), ((900, 0), .arr 1 10 (qGNode x27))]⟩ : St)) (fun x => x) (.exit 0)
     (i0 := (_, _, _, _, _, _, _)) hl1 (fun _ => rfl) ?_ ?_ ?_
    ·rintro ⟨t0, t1, t2, t3, t4, t5, t6⟩ e
     refine dj hC (0, 0) 900 ?_
     cbv
     refine aq [((0, 0), (0, 0)), ((5, 0), (5, 0)), ((900, 0), (900, 0))] ?_
     cbv
     all_goals exact J7
    rintro ⟨x26, x27, x28, x29, x30, x31⟩ hx
    subst o1
    have hh := hq1
    cbv
    replace hh := bind_some hh
    obtain ⟨x42, h41, hh⟩ := hh
    refine ⟨Ob, ?_⟩
    refine ae hF (dy hQ (g1 := fun y0 => d8.f k y0 ((⟨p1a, p1b, p1c, x31, (⟨[], []⟩ : GPair), (⟨[], []⟩ : GSpan), [], 0⟩ : GNode))) (fun h => kp hQ h) h41) ?_
    cbv
    refine bcs (fun f45 => ?_) (fun f45 => ?_)
    replace hh := ifT hh f45
    try rw [f45]
    cbv
    replace hh := aa hh
    obtain ⟨h46, hh⟩ := hh
    refine ⟨⟨Ob, Ab⟩, ?_⟩
    refine ⟨⟨Ob, Wb h46⟩, ?_⟩
    exact Eb
    replace hh := ifF hh f45
    try rw [f45]
    cbv
    exact Eb
    rintro n ⟨s10, s11, s12, s13, s14, s15, s16⟩ N1 D1 hh hN1 hD1 hQ1
    try dsimp only at hh
    unfold bw.l0 at hh
    cbv
    refine bcs (fun f33 => ?_) (fun f33 => ?_)
    replace hh := ifT hh f33
    try rw [f33]
    cbv
    replace hh := aa hh
    obtain ⟨h34, hh⟩ := hh
    replace hh := bind_some hh
    obtain ⟨⟨e35a, e35b, e35c, e35d⟩, h36, hh⟩ := hh
    try dsimp only at hh
    refine ⟨[iA e35a, iA e35b, iA e35c, tA (qGEx e35d)], Nb h34, Gb h36, ?_⟩
    cbv
    replace hh := bind_some hh
    obtain ⟨⟨x38_0, ⟨x38_1a, x38_1b, x38_1c, x38_1d, x38_1e⟩⟩, h37, hh⟩ := hh
    try dsimp only at hh
    have fc := (ih k (Nat.lt_succ_self k)) h37
    try dsimp only at fc
    refine ae hF fc ?_
    cbv
    replace hh := aa hh
    obtain ⟨h40, hh⟩ := hh
    refine ⟨⟨Ob, Ab⟩, ?_⟩
    refine ⟨⟨Ob, Wb h40⟩, ?_⟩
    ·refine hN1 (_, _, _, _, _, _, _) _ hh fun ⟨t0, t1, t2, t3, t4, t5, t6⟩ e => ?_
     refine dj hC (0, 0) 900 ?_
     cbv
     refine aq [((0, 0), (0, 0)), ((5, 0), (5, 0)), ((5, 53), (29, 0)), ((900, 0), (900, 0))] ?_
     cbv
     all_goals exact J7
    replace hh := ifF hh f33
    try rw [f33]
    cbv
    ·refine hD1 (_, _, _, _, _, _) _ hh fun ⟨t0, t1, t2, t3, t4, t5⟩ e => ?_
     refine ah ?_
     cbv
     all_goals exact J6
theorem lJ {k : Nat} {p0 : GGraph} {p1 : GEx} {r : Int × GGraph} (hh : bw.f k p0 p1 = some r) : ag P 127 [.obox [iA p0.Mode, oA 10 (qGNode p0.Nodes), iA p0.Seen, iA p0.Now, bA p0.Full], .agg [iA p1.Kind, iA p1.Sym, iA p1.N, tA (qGEx p1.Kids)]] [.obox [iA r.2.Mode, oA 10 (qGNode r.2.Nodes), iA r.2.Seen, iA r.2.Now, bA r.2.Full], hA] (iA r.1) := (rq hQ k) hh


theorem ng {k : Nat} {p0 : GEx} {p1 : Int} {r : GGraph} (hh : io.f k p0 p1 = some r) : ag P 60 [.agg [iA p0.Kind, iA p0.Sym, iA p0.N, tA (qGEx p0.Kids)], iA p1] [hA, hA] (.agg [iA r.Mode, oA 10 (qGNode r.Nodes), iA r.Seen, iA r.Now, bA r.Full]) := by
 obtain ⟨p0a, p0b, p0c, p0d⟩ := p0
 unfold io.f at hh
 refine go (ts := [(4, some 91)]) (rm := [.own]) (pm := [.skip, .skip]) Tryz.func60 ?_
 intro Fn LW IN len cast toNat wrap add sub mul bin lt eq At set part app fz' rep nadd nmax ssize sext sget scat seq slt Wide Flat Ones Room r' post' hC hF hr hp
 cbv
 replace hh := bind_some hh
 obtain ⟨x2, h1, hh⟩ := hh
 refine ae hF (li hQ h1) ?_
 cbv
 replace hh := az hh
 rcases hh with ⟨b4, hh⟩ | ⟨b4, hh⟩
 have f5 : x2 = true := Tb b4
 have g := f5; cbv at g; try rw [f5]
 try rw [g]
 cbv
 replace hh := bind_some hh
 obtain ⟨x7, h6, hh⟩ := hh
 refine ae hF (gz hQ h6) ?_
 cbv
 replace hh := az hh
 rcases hh with ⟨b9, hh⟩ | ⟨b9, hh⟩
 have f10 : x7 = true := Tb b9
 have g := f10; cbv at g; try rw [f10]
 try rw [g]
 cbv
 replace hh := bind_some hh
 obtain ⟨⟨x12_0, ⟨x12_1a, x12_1b, x12_1c, x12_1d, x12_1e⟩⟩, h11, hh⟩ := hh
 try dsimp only at hh
 refine ⟨10, ?_⟩
 cbv
 have fc := lJ hQ h11
 try dsimp only at fc
 refine ae hF fc ?_
 cbv
 exact Eb
 have f10 : x7 = false := Fb b9
 have g := f10; cbv at g; try rw [f10]
 try rw [g]
 cbv
 refine ⟨10, ?_⟩
 cbv
 exact Eb
 have f5 : x2 = false := Fb b4
 have g := f5; cbv at g; try rw [f5]
 try rw [g]
 cbv
 refine ⟨10, ?_⟩
 cbv
 exact Eb

theorem mR {k : Nat} {p0 : List GRule} {r : GEng} (hh : bW.f k p0 = some r) : ag P 34 [tA (qGRule p0)] [hA] (.agg [tA (qGRule r.Rules), oA 5 (qGGraphS r.Graphs), oA 3 (qGEv r.Events), oA 1 (qInt r.Keys), oA 4 (qGFire r.Fired)]) := by
 unfold bW.f at hh
 refine go (ts := [(2, some 53)]) (rm := [.own]) (pm := [.skip]) Tryz.func34 ?_
 intro Fn LW IN len cast toNat wrap add sub mul bin lt eq At set part app fz' rep nadd nmax ssize sext sget scat seq slt Wide Flat Ones Room r' post' hC hF hr hp
 cbv
 replace hh := bind_some hh
 obtain ⟨x2, h1, hh⟩ := hh
 refine ae hF (fM hQ h1) ?_
 cbv
 replace hh := az hh
 rcases hh with ⟨b4, hh⟩ | ⟨b4, hh⟩
 have f5 : x2 = true := Tb b4
 have g := f5; cbv at g; try rw [f5]
 try rw [g]
 cbv
 replace hh := bind_some hh
 obtain ⟨x7, h6, hh⟩ := hh
 refine ae hF (ag.frz (r' := tA (qGRule x7)) (gE hQ h6) (by cases hQ; simp)) ?_
 cbv
 replace hh := aa hh
 obtain ⟨h9, hh⟩ := hh
 replace hh := aa hh
 obtain ⟨h10, hh⟩ := hh
 replace hh := aa hh
 obtain ⟨h11, hh⟩ := hh
 refine ⟨⟨Nb h9, Nb h10, Wb h11⟩, ?_⟩
 replace hh := bind_some hh
 obtain ⟨o1, hl1, hq1⟩ := hh
 refine ap hC eok mixed (fun n (i : (List GGraph) × Int) => bW.l0 k p0 n i.1 i.2)
  (fun ⟨s21, s22⟩ => (⟨[(2, .mptr (2, 0) 1 0 0), (3, .mptr (3, 0) 1 0 0), (14, tA (qGRule p0)), (15, iA (cast (len (qGRule p0)))), (16, iA s22)], [((2, 0), .box 1 [.lit (.slice none 0 0), .lit (.slice none 0 0), .lit (.slice none 0 0), .lit (.slice none 0 0), .lit (.slice none 0 0)]), ((3, 0), .box 1 [tA (qGRule x7), .ref (3, 51) 1 0 (len (qGGraphS s21)), .lit (.slice none 0 0), .ref (12, 0) 1 0 (len (qInt (List.replicate 4 0))), .lit (.slice none 0 0)]), ((3, 51), .arr 1 5 (qGGraphS s21)), ((12, 0), .arr 1 1 (qInt (List.replicate 4 0)))]⟩ : St))
  (fun (x32 : List GGraph) => (⟨[(2, .mptr (2, 0) 1 0 0), (3, .mptr (3, 0) 1 0 0)], [((2, 0), .box 1 [.lit (.slice none 0 0), .lit (.slice none 0 0), .lit (.slice none 0 0), .lit (.slice none 0 0), .lit (.slice none 0 0)]), ((3, 0), .box 1 [tA (qGRule x7), .ref (3, 51) 1 0 (len (qGGraphS x32)), .lit (.slice none 0 0), .ref (12, 0) 1 0 (len (qInt (List.replicate 4 0))), .lit (.slice none 0 0)]), ((3, 51), .arr 1 5 (qGGraphS x32)), ((12, 0), .arr 1 1 (qInt (List.replicate 4 0)))]⟩ : St)) (fun x => x) (.exit 0)
  (i0 := (_, _)) hl1 (fun _ => rfl) ?_ ?_ ?_
 ·rintro ⟨t0, t1⟩ e
  refine aq [((2, 0), (2, 0)), ((3, 0), (3, 0)), ((12, 0), (12, 0))] ?_
  cbv
  all_goals exact J2
 rintro x32 hx
 subst o1
 have hh := hq1
 cbv
 refine ⟨3, ?_⟩
 cbv
 refine ⟨4, ?_⟩
 cbv
 exact Eb
 rintro n ⟨s21, s22⟩ N1 D1 hh hN1 hD1 hQ1
 try dsimp only at hh
 unfold bW.l0 at hh
 cbv
 refine bcs (fun f34 => ?_) (fun f34 => ?_)
 replace hh := ifT hh f34
 try rw [f34]
 cbv
 replace hh := aa hh
 obtain ⟨h35, hh⟩ := hh
 replace hh := bind_some hh
 obtain ⟨⟨e36a, e36b, e36c, ⟨e36d, e36e, e36f, e36g⟩, e36h, e36i, e36j, e36k, e36l⟩, h37, hh⟩ := hh
 try dsimp only at hh
 refine ⟨[sA e36a, iA e36b, iA e36c, iA e36d, iA e36e, iA e36f, tA (qGEx e36g), iA e36h, iA e36i, iA e36j, iA e36k, iA e36l], Nb h35, Gb h37, ?_⟩
 cbv
 replace hh := bind_some hh
 obtain ⟨⟨x39a, x39b, x39c, x39d, x39e⟩, h38, hh⟩ := hh
 try dsimp only at hh
 have fc := ng hQ h38
 try dsimp only at fc
 refine ae hF fc ?_
 cbv
 replace hh := aa hh
 obtain ⟨h41, hh⟩ := hh
 refine ⟨⟨Ob, Ab⟩, ?_⟩
 refine ⟨⟨Ob, Wb h41⟩, ?_⟩
 ·refine hN1 (_, _) _ hh fun ⟨t0, t1⟩ e => ?_
  refine aq [((2, 0), (2, 0)), ((3, 0), (3, 0)), ((3, 51), (28, 0)), ((12, 0), (12, 0))] ?_
  cbv
  all_goals exact J2
 replace hh := ifF hh f34
 try rw [f34]
 cbv
 ·refine hD1 _ _ hh fun t0 e => ?_
  refine ah ?_
  cbv
  all_goals exact J1
 have f5 : x2 = false := Fb b4
 have g := f5; cbv at g; try rw [f5]
 try rw [g]
 cbv
 refine ⟨0, ?_⟩
 cbv
 refine ⟨5, ?_⟩
 cbv
 refine ⟨3, ?_⟩
 cbv
 refine ⟨1, ?_⟩
 cbv
 refine ⟨4, ?_⟩
 cbv
 exact Eb

theorem pj {p0 : GEv} {r : Bool} (hh : gj.f p0 = some r) : ag P 126 [.agg [iA p0.Sym, iA p0.At, iA p0.Val]] [hA] (bA r) := by
 obtain ⟨p0a, p0b, p0c⟩ := p0
 unfold gj.f at hh
 refine go (ts := [(2, none)]) (rm := [.own]) (pm := [.skip]) Tryz.func126 ?_
 intro Fn LW IN len cast toNat wrap add sub mul bin lt eq At set part app fz' rep nadd nmax ssize sext sget scat seq slt Wide Flat Ones Room r' post' hC hF hr hp
 cbv
 replace hh := bind_some hh
 obtain ⟨x2, h1, hh⟩ := hh
 refine ae hF (ez hQ h1) ?_
 cbv
 refine bcs (fun f5 => ?_) (fun f5 => ?_)
 replace hh := ifT hh f5
 try rw [f5]
 cbv
 replace hh := bind_some hh
 obtain ⟨x7, h6, hh⟩ := hh
 refine ae hF (aR hQ h6) ?_
 cbv
 refine bcs (fun f10 => ?_) (fun f10 => ?_)
 replace hh := ifT hh f10
 try rw [f10]
 cbv
 replace hh := bind_some hh
 obtain ⟨x12, h11, hh⟩ := hh
 refine ae hF (aR hQ h11) ?_
 cbv
 exact Eb
 replace hh := ifF hh f10
 try rw [f10]
 cbv
 exact Eb
 replace hh := ifF hh f5
 try rw [f5]
 cbv
 exact Eb

end Go.Proofs.YtlbnmldopjadoaaGreat
