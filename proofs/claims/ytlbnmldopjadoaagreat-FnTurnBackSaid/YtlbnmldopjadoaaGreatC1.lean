/- The functions of this program do what the plain ones do. -/
import Derived.Test.YtlbnmldopjadoaaGreatC0
namespace Go.Proofs.YtlbnmldopjadoaaGreat
open Go Go.Vm
set_option linter.unusedVariables false
set_option maxHeartbeats 4000000
set_option maxRecDepth 4000
variable {qIu8 : List Int → Vm.Rows} {qInt : List Int → Vm.Rows} {qGExO : List GEx → Vm.Rows} {qGEx : List GEx → Vm.Rows} {qGEv : List GEv → Vm.Rows} {qGOcc : List GOcc → Vm.Rows} {qGNode : List GNode → Vm.Rows} {qLGOcc : List (List GOcc) → Vm.Rows} {qLInt : List (List Int) → Vm.Rows} {qGOccO : List GOcc → Vm.Rows} (hQ : EQ qIu8 qInt qGExO qGEx qGEv qGOcc qGNode qLGOcc qLInt qGOccO)
include hQ
theorem gN {k : Nat} {p0 : Gl14Rd} {p1 : Int} {r : (List GEv) × Gl14Rd} (hh : cm.f k p0 p1 = some r) : am P 124 [.obox [tA (qIu8 p0.b), iA p0.p], iA p1] [.obox [tA (qIu8 r.2.b), iA r.2.p], hA] (oA 3 (qGEv r.1)) := by
 obtain ⟨p0a, p0b⟩ := p0
 unfold cm.f at hh
 refine go (ts := [(4, none)]) (rm := [.own]) (pm := [.own, .skip]) Tryz.func124 ?_
 intro Fn LW IN len cast toNat wrap add sub mul bin lt eq At set part app fz' rep nadd nmax ssize sext sget scat seq slt Wide Flat Ones Room r' post' hC hF hr hp
 cbv
 replace hh := bind_some hh
 obtain ⟨⟨x2_0, ⟨x2_1a, x2_1b⟩⟩, h1, hh⟩ := hh
 try dsimp only at hh
 have fc := bU hQ h1
 try dsimp only at fc
 refine ac hF fc ?_
 cbv
 replace hh := bind_some hh
 obtain ⟨o1, hl1, hq1⟩ := hh
 refine aA hC eok mixed (fun n (i : (List Int) × Int × (List GEv) × Int × Int) => cm.l0 k n i.1 i.2.1 i.2.2.1 i.2.2.2.1 i.2.2.2.2)
  (fun ⟨s16, s17, s18, s19, s20⟩ => (⟨[(0, .mptr (0, 0) 1 0 0), (5, .ref (8, 0) 1 0 (len (qGEv s18))), (6, iA s19), (7, iA s20), (1000000, .mptr (0, 0) 1 0 0)], [((0, 0), .box 1 [tA (qIu8 s16), iA s17]), ((8, 0), .arr 1 3 (qGEv s18))]⟩ : St))
  (fun (⟨x33, x34, x35⟩ : (List GEv) × (List Int) × Int) => (⟨[(5, .ref (8, 0) 1 0 (len (qGEv x33))), (1000000, .mptr (0, 0) 1 0 0)], [((0, 0), .box 1 [tA (qIu8 x34), iA x35]), ((8, 0), .arr 1 3 (qGEv x33))]⟩ : St)) (fun x => x) (.exit 0)
  (i0 := (_, _, _, _, _)) hl1 (fun _ => rfl) ?_ ?_ ?_
 ·rintro ⟨t0, t1, t2, t3, t4⟩ e
  refine aj ?_
  cbv
  all_goals exact J5
 rintro ⟨x33, x34, x35⟩ hx
 subst o1
 have hh := hq1
 cbv
 exact Eb
 rintro n ⟨s16, s17, s18, s19, s20⟩ N1 D1 hh hN1 hD1 hQ1
 dsimp only at hh
 unfold cm.l0 at hh
 cbv
 refine bcs (fun f37 => ?_) (fun f37 => ?_)
 replace hh := ifT hh f37
 try rw [f37]
 cbv
 replace hh := bind_some hh
 obtain ⟨⟨x39_0, ⟨x39_1a, x39_1b⟩⟩, h38, hh⟩ := hh
 try dsimp only at hh
 refine ⟨Ob, ?_⟩
 have fc := bj hQ h38
 try dsimp only at fc
 refine ac hF fc ?_
 cbv
 replace hh := bind_some hh
 obtain ⟨⟨x42_0, ⟨x42_1a, x42_1b⟩⟩, h41, hh⟩ := hh
 try dsimp only at hh
 refine ⟨Ob, ?_⟩
 have fc := bj hQ h41
 try dsimp only at fc
 refine ac hF fc ?_
 cbv
 replace hh := bind_some hh
 obtain ⟨⟨x45_0, ⟨x45_1a, x45_1b⟩⟩, h44, hh⟩ := hh
 try dsimp only at hh
 refine ⟨Ob, ?_⟩
 have fc := bj hQ h44
 try dsimp only at fc
 refine ac hF fc ?_
 cbv
 replace hh := aa hh
 obtain ⟨h47, hh⟩ := hh
 refine ⟨⟨Ob, Ab⟩, ?_⟩
 refine ⟨⟨Ob, Wb h47⟩, ?_⟩
 ·refine hN1 (_, _, _, _, _) _ hh fun ⟨t0, t1, t2, t3, t4⟩ e => ?_
  refine az [((0, 0), (0, 0)), ((8, 0), (32, 0))] ?_
  cbv
  all_goals exact J5
 replace hh := ifF hh f37
 try rw [f37]
 cbv
 ·refine hD1 (_, _, _) _ hh fun ⟨t0, t1, t2⟩ e => ?_
  refine aj ?_
  cbv
  all_goals exact J3

theorem qW {k : Nat} {p0 : Gl14Rd} {r : (List GEv) × Gl14Rd} (hh : cA.f k p0 = some r) : am P 125 [.obox [tA (qIu8 p0.b), iA p0.p]] [.obox [tA (qIu8 r.2.b), iA r.2.p]] (oA 3 (qGEv r.1)) := by
 obtain ⟨p0a, p0b⟩ := p0
 unfold cA.f at hh
 refine go (ts := [(2, none)]) (rm := [.own]) (pm := [.own]) Tryz.func125 ?_
 intro Fn LW IN len cast toNat wrap add sub mul bin lt eq At set part app fz' rep nadd nmax ssize sext sget scat seq slt Wide Flat Ones Room r' post' hC hF hr hp
 cbv
 replace hh := bind_some hh
 obtain ⟨⟨x2_0, ⟨x2_1a, x2_1b⟩⟩, h1, hh⟩ := hh
 try dsimp only at hh
 have fc := gN hQ h1
 try dsimp only at fc
 refine ac hF fc ?_
 cbv
 refine bcs (fun f5 => ?_) (fun f5 => ?_)
 replace hh := ifT hh f5
 try rw [f5]
 cbv
 exact Eb
 replace hh := ifF hh f5
 try rw [f5]
 cbv
 replace hh := bind_some hh
 obtain ⟨⟨x7_0, ⟨x7_1a, x7_1b⟩⟩, h6, hh⟩ := hh
 try dsimp only at hh
 have fc := bU hQ h6
 try dsimp only at fc
 refine ac hF fc ?_
 cbv
 replace hh := bind_some hh
 obtain ⟨⟨x10_0, ⟨x10_1a, x10_1b⟩⟩, h9, hh⟩ := hh
 try dsimp only at hh
 have fc := bU hQ h9
 try dsimp only at fc
 refine ac hF fc ?_
 cbv
 refine bcs (fun f13 => ?_) (fun f13 => ?_)
 replace hh := ifT hh f13
 try rw [f13]
 cbv
 replace hh := bind_some hh
 obtain ⟨⟨x15_0, ⟨x15_1a, x15_1b⟩⟩, h14, hh⟩ := hh
 try dsimp only at hh
 refine ⟨Ob, ?_⟩
 have fc := bj hQ h14
 try dsimp only at fc
 refine ac hF fc ?_
 cbv
 replace hh := aa hh
 obtain ⟨h17, hh⟩ := hh
 try dsimp only at h17
 replace hh := aa hh
 obtain ⟨h18, hh⟩ := hh
 try dsimp only at h18
 refine ⟨Nb h17, Mb h18, ?_⟩
 replace hh := bind_some hh
 obtain ⟨⟨e19a, e19b, e19c⟩, h20, hh⟩ := hh
 try dsimp only at hh
 refine ⟨[iA e19a, iA e19b, iA e19c], Gb h20, ?_⟩
 cbv
 exact Eb
 replace hh := ifF hh f13
 try rw [f13]
 cbv
 refine bcs (fun f22 => ?_) (fun f22 => ?_)
 replace hh := ifT hh f22
 try rw [f22]
 cbv
 replace hh := aa hh
 obtain ⟨h23, hh⟩ := hh
 replace hh := aa hh
 obtain ⟨h24, hh⟩ := hh
 try dsimp only at h24
 refine ⟨Nb h23, Mb h24, ?_⟩
 replace hh := bind_some hh
 obtain ⟨⟨e25a, e25b, e25c⟩, h26, hh⟩ := hh
 try dsimp only at hh
 refine ⟨[iA e25a, iA e25b, iA e25c], Gb h26, ?_⟩
 cbv
 replace hh := bind_some hh
 obtain ⟨⟨x28_0, ⟨x28_1a, x28_1b⟩⟩, h27, hh⟩ := hh
 try dsimp only at hh
 refine ⟨Ob, ?_⟩
 have fc := bj hQ h27
 try dsimp only at fc
 refine ac hF fc ?_
 cbv
 replace hh := aa hh
 obtain ⟨h30, hh⟩ := hh
 try dsimp only at h30
 replace hh := aa hh
 obtain ⟨h31, hh⟩ := hh
 try dsimp only at h31
 refine ⟨Nb h30, Mb h31, ?_⟩
 replace hh := bind_some hh
 obtain ⟨⟨e32a, e32b, e32c⟩, h33, hh⟩ := hh
 try dsimp only at hh
 refine ⟨[iA e32a, iA e32b, iA e32c], Gb h33, ?_⟩
 cbv
 exact Eb
 replace hh := ifF hh f22
 try rw [f22]
 cbv
 refine bcs (fun f35 => ?_) (fun f35 => ?_)
 replace hh := ifT hh f35
 try rw [f35]
 cbv
 replace hh := bind_some hh
 obtain ⟨⟨x37_0, ⟨x37_1a, x37_1b⟩⟩, h36, hh⟩ := hh
 try dsimp only at hh
 refine ⟨Ob, ?_⟩
 have fc := bj hQ h36
 try dsimp only at fc
 refine ac hF fc ?_
 cbv
 replace hh := aa hh
 obtain ⟨h39, hh⟩ := hh
 try dsimp only at h39
 replace hh := aa hh
 obtain ⟨h40, hh⟩ := hh
 try dsimp only at h40
 refine ⟨Nb h39, Mb h40, ?_⟩
 replace hh := bind_some hh
 obtain ⟨⟨e41a, e41b, e41c⟩, h42, hh⟩ := hh
 try dsimp only at hh
 refine ⟨[iA e41a, iA e41b, iA e41c], Gb h42, ?_⟩
 cbv
 exact Eb
 replace hh := ifF hh f35
 try rw [f35]
 cbv
 refine bcs (fun f44 => ?_) (fun f44 => ?_)
 replace hh := ifT hh f44
 try rw [f44]
 cbv
 replace hh := bind_some hh
 obtain ⟨o1, hl1, hq1⟩ := hh
 refine aA hC eok mixed (cA.l0 k)
  (fun s52 => (⟨[(3, .ref (6, 0) 1 0 (len (qGEv s52))), (1000000, .mptr (0, 0) 1 0 0)], [((0, 0), .box 1 [tA (qIu8 x10_1a), iA x10_1b]), ((6, 0), .arr 1 3 (qGEv s52))]⟩ : St))
  (fun (x60 : List GEv) => (⟨[(3, .ref (6, 0) 1 0 (len (qGEv x60))), (1000000, .mptr (0, 0) 1 0 0)], [((0, 0), .box 1 [tA (qIu8 x10_1a), iA x10_1b]), ((6, 0), .arr 1 3 (qGEv x60))]⟩ : St)) (fun x => x) (.exit 1)
  (i0 := _) hl1 (fun _ => rfl) ?_ ?_ ?_
 ·rintro t0 e
  refine aj ?_
  cbv
  all_goals exact J1
 rintro x60 hx
 subst o1
 have hh := hq1
 cbv
 exact Eb
 rintro n s52 N1 D1 hh hN1 hD1 hQ1
 unfold cA.l0 at hh
 cbv
 replace hh := ak hh
 rcases hh with ⟨b61, hh⟩ | ⟨b61, hh⟩
 have f62 : (lt 24 (cast (len (qGEv s52)))) = true := Tb b61
 have g := f62; cbv at g; try rw [f62]
 try rw [g]
 cbv
 ·refine hD1 _ _ hh fun t0 e => ?_
  refine aj ?_
  cbv
  all_goals exact J1
 have f62 : (lt 24 (cast (len (qGEv s52)))) = false := Fb b61
 have g := f62; cbv at g; try rw [f62]
 try rw [g]
 cbv
 replace hh := aa hh
 obtain ⟨h63, hh⟩ := hh
 replace hh := aa hh
 obtain ⟨h64, hh⟩ := hh
 refine ⟨Nb h63, Mb h64, ?_⟩
 replace hh := bind_some hh
 obtain ⟨⟨e65a, e65b, e65c⟩, h66, hh⟩ := hh
 try dsimp only at hh
 refine ⟨[iA e65a, iA e65b, iA e65c], Gb h66, ?_⟩
 cbv
 replace hh := aa hh
 obtain ⟨h67, hh⟩ := hh
 refine ⟨⟨Ob, Ab⟩, ?_⟩
 refine ⟨⟨Ob, Wb h67⟩, ?_⟩
 ·refine hN1 _ _ hh fun t0 e => ?_
  refine az [((0, 0), (0, 0)), ((6, 0), (64, 0))] ?_
  cbv
  all_goals exact J1
 replace hh := ifF hh f44
 try rw [f44]
 cbv
 exact Eb

theorem rb {k : Nat} {p0 : Gl14Rd} {r : GEx × Int × (List GEv) × Gl14Rd} (hh : gh.f k p0 = some r) : am P 57 [.obox [tA (qIu8 p0.b), iA p0.p]] [.obox [tA (qIu8 r.2.2.2.b), iA r.2.2.2.p]] (.tup [.agg [iA r.1.Kind, iA r.1.Sym, iA r.1.N, oA 4 (qGExO r.1.Kids)], iA r.2.1, oA 3 (qGEv r.2.2.1)]) := by
 obtain ⟨p0a, p0b⟩ := p0
 unfold gh.f at hh
 refine go (ts := [(2, some 25), (3, none), (4, none)]) (rm := [.own, .own, .own]) (pm := [.own]) Tryz.func57 ?_
 intro Fn LW IN len cast toNat wrap add sub mul bin lt eq At set part app fz' rep nadd nmax ssize sext sget scat seq slt Wide Flat Ones Room r' post' hC hF hr hp
 cbv
 replace hh := bind_some hh
 obtain ⟨⟨⟨x2_0a, x2_0b, x2_0c, x2_0d⟩, ⟨x2_1a, x2_1b⟩⟩, h1, hh⟩ := hh
 try dsimp only at hh
 have fc := lI hQ h1
 try dsimp only at fc
 refine ac hF fc ?_
 cbv
 replace hh := bind_some hh
 obtain ⟨⟨x5_0, ⟨x5_1a, x5_1b⟩⟩, h4, hh⟩ := hh
 try dsimp only at hh
 have fc := ra hQ h4
 try dsimp only at fc
 refine ac hF fc ?_
 cbv
 replace hh := bind_some hh
 obtain ⟨⟨x8_0, ⟨x8_1a, x8_1b⟩⟩, h7, hh⟩ := hh
 try dsimp only at hh
 have fc := bU hQ h7
 try dsimp only at fc
 refine ac hF fc ?_
 cbv
 refine bcs (fun f11 => ?_) (fun f11 => ?_)
 replace hh := ifT hh f11
 try rw [f11]
 cbv
 replace hh := bind_some hh
 obtain ⟨⟨⟨x13_0a, x13_0b, x13_0c, x13_0d⟩, ⟨x13_1a, x13_1b⟩⟩, h12, hh⟩ := hh
 try dsimp only at hh
 have fc := lH hQ h12
 try dsimp only at fc
 refine ac hF fc ?_
 cbv
 replace hh := bind_some hh
 obtain ⟨⟨x16_0, ⟨x16_1a, x16_1b⟩⟩, h15, hh⟩ := hh
 try dsimp only at hh
 have fc := gN hQ h15
 try dsimp only at fc
 refine ac hF fc ?_
 cbv
 exact Eb
 replace hh := ifF hh f11
 try rw [f11]
 cbv
 refine bcs (fun f19 => ?_) (fun f19 => ?_)
 replace hh := ifT hh f19
 try rw [f19]
 cbv
 replace hh := bind_some hh
 obtain ⟨⟨x21_0, ⟨x21_1a, x21_1b⟩⟩, h20, hh⟩ := hh
 try dsimp only at hh
 have fc := qW hQ h20
 try dsimp only at fc
 refine ac hF fc ?_
 cbv
 exact Eb
 replace hh := ifF hh f19
 try rw [f19]
 cbv
 refine bcs (fun f24 => ?_) (fun f24 => ?_)
 replace hh := ifT hh f24
 try rw [f24]
 cbv
 replace hh := bind_some hh
 obtain ⟨⟨x26_0, ⟨x26_1a, x26_1b⟩⟩, h25, hh⟩ := hh
 try dsimp only at hh
 have fc := gN hQ h25
 try dsimp only at fc
 refine ac hF fc ?_
 cbv
 exact Eb
 replace hh := ifF hh f24
 try rw [f24]
 cbv
 replace hh := bind_some hh
 obtain ⟨⟨x29_0, ⟨x29_1a, x29_1b⟩⟩, h28, hh⟩ := hh
 try dsimp only at hh
 have fc := gN hQ h28
 try dsimp only at fc
 refine ac hF fc ?_
 cbv
 exact Eb

theorem eL {k : Nat} {p0 : List Int} {r : GEx × Int × (List GEv)} (hh : cR.f k p0 = some r) : am P 19 [tA (qIu8 p0)] [hA] (.tup [.agg [iA r.1.Kind, iA r.1.Sym, iA r.1.N, oA 4 (qGExO r.1.Kids)], iA r.2.1, oA 3 (qGEv r.2.2)]) := by
 unfold cR.f at hh
 refine go (ts := [(2, some 25), (3, none), (4, none)]) (rm := [.own, .own, .own]) (pm := [.skip]) Tryz.func19 ?_
 intro Fn LW IN len cast toNat wrap add sub mul bin lt eq At set part app fz' rep nadd nmax ssize sext sget scat seq slt Wide Flat Ones Room r' post' hC hF hr hp
 cbv
 replace hh := bind_some hh
 obtain ⟨⟨x2a, x2b⟩, h1, hh⟩ := hh
 try dsimp only at hh
 refine ac hF (ik hQ h1) ?_
 cbv
 replace hh := bind_some hh
 obtain ⟨⟨⟨x5_0a, x5_0b, x5_0c, x5_0d⟩, x5_1, x5_2, ⟨x5_3a, x5_3b⟩⟩, h4, hh⟩ := hh
 try dsimp only at hh
 have fc := rb hQ h4
 try dsimp only at fc
 refine ac hF fc ?_
 cbv
 exact Eb

theorem lL {p0 : Int} {r : Bool} (hh : eH.f p0 = some r) : am P 58 [iA p0] [hA] (bA r) := by
 unfold eH.f at hh
 refine go (ts := [(2, none)]) (rm := [.own]) (pm := [.skip]) Tryz.func58 ?_
 intro Fn LW IN len cast toNat wrap add sub mul bin lt eq At set part app fz' rep nadd nmax ssize sext sget scat seq slt Wide Flat Ones Room r' post' hC hF hr hp
 cbv
 replace hh := bind_some hh
 obtain ⟨x2, h1, hh⟩ := hh
 refine ac hF (fE hQ h1) ?_
 cbv
 exact Eb

theorem tq {p0 : GEv} {r : Bool} (hh : iN.f p0 = some r) : am P 126 [.agg [iA p0.Sym, iA p0.At, iA p0.Val]] [hA] (bA r) := by
 obtain ⟨p0a, p0b, p0c⟩ := p0
 unfold iN.f at hh
 refine go (ts := [(2, none)]) (rm := [.own]) (pm := [.skip]) Tryz.func126 ?_
 intro Fn LW IN len cast toNat wrap add sub mul bin lt eq At set part app fz' rep nadd nmax ssize sext sget scat seq slt Wide Flat Ones Room r' post' hC hF hr hp
 cbv
 replace hh := bind_some hh
 obtain ⟨x2, h1, hh⟩ := hh
 refine ac hF (jF hQ h1) ?_
 cbv
 refine bcs (fun f5 => ?_) (fun f5 => ?_)
 replace hh := ifT hh f5
 try rw [f5]
 cbv
 replace hh := bind_some hh
 obtain ⟨x7, h6, hh⟩ := hh
 refine ac hF (fE hQ h6) ?_
 cbv
 refine bcs (fun f10 => ?_) (fun f10 => ?_)
 replace hh := ifT hh f10
 try rw [f10]
 cbv
 replace hh := bind_some hh
 obtain ⟨x12, h11, hh⟩ := hh
 refine ac hF (fE hQ h11) ?_
 cbv
 exact Eb
 replace hh := ifF hh f10
 try rw [f10]
 cbv
 exact Eb
 replace hh := ifF hh f5
 try rw [f5]
 cbv
 exact Eb

theorem mr {k : Nat} {p0 : List GEv} {r : Bool} (hh : cw.f k p0 = some r) : am P 59 [tA (qGEv p0)] [hA] (bA r) := by
 unfold cw.f at hh
 refine go (ts := [(2, none)]) (rm := [.own]) (pm := [.skip]) Tryz.func59 ?_
 intro Fn LW IN len cast toNat wrap add sub mul bin lt eq At set part app fz' rep nadd nmax ssize sext sget scat seq slt Wide Flat Ones Room r' post' hC hF hr hp
 cbv
 replace hh := bind_some hh
 obtain ⟨o1, hl1, hq1⟩ := hh
 refine aA hC eok mixed (cw.l0 k p0)
  (fun s18 => (⟨[(0, tA (qGEv p0)), (5, tA (qGEv p0)), (6, iA (cast (len (qGEv p0)))), (7, iA s18)], []⟩ : St))
  (fun (_ : Unit) => (⟨[(0, tA (qGEv p0))], []⟩ : St)) .ok (.exit 0)
  (i0 := _) hl1 (fun _ => rfl) ?_ ?_ ?_
 ·rintro t0 e
  refine aj ?_
  cbv
  all_goals exact J1
 rintro _ hx
 subst o1
 have hh := hq1
 cbv
 exact Eb
 rintro n s18 N1 D1 hh hN1 hD1 hQ1
 unfold cw.l0 at hh
 cbv
 refine bcs (fun f37 => ?_) (fun f37 => ?_)
 replace hh := ifT hh f37
 try rw [f37]
 cbv
 replace hh := aa hh
 obtain ⟨h38, hh⟩ := hh
 replace hh := bind_some hh
 obtain ⟨⟨e39a, e39b, e39c⟩, h40, hh⟩ := hh
 try dsimp only at hh
 refine ⟨[iA e39a, iA e39b, iA e39c], Nb h38, Gb h40, ?_⟩
 cbv
 replace hh := bind_some hh
 obtain ⟨x42, h41, hh⟩ := hh
 refine ac hF (tq hQ h41) ?_
 cbv
 replace hh := ak hh
 rcases hh with ⟨b44, hh⟩ | ⟨b44, hh⟩
 have f45 : x42 = true := Tb b44
 have g := f45; cbv at g; try rw [f45]
 try rw [g]
 cbv
 refine bcs (fun f47 => ?_) (fun f47 => ?_)
 replace hh := ifT hh f47
 try rw [f47]
 cbv
 replace hh := aa hh
 obtain ⟨h48, hh⟩ := hh
 replace hh := bind_some hh
 obtain ⟨⟨e49a, e49b, e49c⟩, h50, hh⟩ := hh
 try dsimp only at hh
 refine ⟨[iA e49a, iA e49b, iA e49c], Nb h48, Gb h50, ?_⟩
 cbv
 replace hh := ak hh
 rcases hh with ⟨b51, hh⟩ | ⟨b51, hh⟩
 have f52 : (lt e49b e39b) = true := Tb b51
 have g := f52; cbv at g; try rw [f52]
 try rw [g]
 cbv
 ·refine hN1 _ _ hh fun t0 e => ?_
  refine aj ?_
  cbv
  all_goals exact J1
 have f52 : (lt e49b e39b) = false := Fb b51
 have g := f52; cbv at g; try rw [f52]
 try rw [g]
 cbv
 cases hh
 have hh : some _ = some _ := hq1
 refine hQ1 _ _ ?_
 cbv
 exact Eb
 replace hh := ifF hh f47
 try rw [f47]
 cbv
 ·refine hN1 _ _ hh fun t0 e => ?_
  refine aj ?_
  cbv
  all_goals exact J1
 have f45 : x42 = false := Fb b44
 have g := f45; cbv at g; try rw [f45]
 try rw [g]
 cbv
 cases hh
 have hh : some _ = some _ := hq1
 refine hQ1 _ _ ?_
 cbv
 exact Eb
 replace hh := ifF hh f37
 try rw [f37]
 cbv
 ·refine hD1 () _ hh fun _ e => ?_
  refine aj ?_
  cbv
  all_goals exact J0

theorem pR {k : Nat} {p0 : List Int} {p1 : List Int} {r : Bool} (hh : cp.f k p0 p1 = some r) : am P 113 [tA (qInt p0), tA (qInt p1)] [hA, hA] (bA r) := by
 unfold cp.f at hh
 refine go (ts := [(4, none)]) (rm := [.own]) (pm := [.skip, .skip]) Tryz.func113 ?_
 intro Fn LW IN len cast toNat wrap add sub mul bin lt eq At set part app fz' rep nadd nmax ssize sext sget scat seq slt Wide Flat Ones Room r' post' hC hF hr hp
 cbv
 replace hh := ak hh
 rcases hh with ⟨b1, hh⟩ | ⟨b1, hh⟩
 have f2 : (eq (cast (len (qInt p0))) (cast (len (qInt p1)))) = true := Tb b1
 have g := f2; cbv at g; try rw [f2]
 try rw [g]
 cbv
 replace hh := bind_some hh
 obtain ⟨o1, hl1, hq1⟩ := hh
 refine aA hC eok mixed (cp.l0 k p0 p1)
  (fun s13 => (⟨[(0, tA (qInt p0)), (1, tA (qInt p1)), (12, iA (cast (len (qInt p0)))), (13, iA s13)], []⟩ : St))
  (fun (_ : Unit) => (⟨[], []⟩ : St)) .ok (.exit 0)
  (i0 := _) hl1 (fun _ => rfl) ?_ ?_ ?_
 ·rintro t0 e
  refine aj ?_
  cbv
  all_goals exact J1
 rintro _ hx
 subst o1
 have hh := hq1
 cbv
 exact Eb
 rintro n s13 N1 D1 hh hN1 hD1 hQ1
 unfold cp.l0 at hh
 cbv
 refine bcs (fun f25 => ?_) (fun f25 => ?_)
 replace hh := ifT hh f25
 try rw [f25]
 cbv
 replace hh := aa hh
 obtain ⟨h26, hh⟩ := hh
 replace hh := bind_some hh
 obtain ⟨e27, h28, hh⟩ := hh
 refine ⟨[iA e27], Nb h26, Gb h28, ?_⟩
 cbv
 replace hh := aa hh
 obtain ⟨h29, hh⟩ := hh
 replace hh := bind_some hh
 obtain ⟨e30, h31, hh⟩ := hh
 refine ⟨[iA e30], Nb h29, Gb h31, ?_⟩
 cbv
 replace hh := ak hh
 rcases hh with ⟨b32, hh⟩ | ⟨b32, hh⟩
 have f33 : (eq e27 e30) = true := Tb b32
 have g := f33; cbv at g; try rw [f33]
 try rw [g]
 cbv
 ·refine hN1 _ _ hh fun t0 e => ?_
  refine aj ?_
  cbv
  all_goals exact J1
 have f33 : (eq e27 e30) = false := Fb b32
 have g := f33; cbv at g; try rw [f33]
 try rw [g]
 cbv
 cases hh
 have hh : some _ = some _ := hq1
 refine hQ1 _ _ ?_
 cbv
 exact Eb
 replace hh := ifF hh f25
 try rw [f25]
 cbv
 ·refine hD1 () _ hh fun _ e => ?_
  refine aj ?_
  cbv
  all_goals exact J0
 have f2 : (eq (cast (len (qInt p0))) (cast (len (qInt p1)))) = false := Fb b1
 have g := f2; cbv at g; try rw [f2]
 try rw [g]
 cbv
 exact Eb

theorem lW {k : Nat} {p0 : GNode} {c0 : GNode} {r : Bool} (hh : cV.f k p0 c0 = some r) : am P 181 [.agg [iA p0.Kind, iA p0.Sym, iA p0.N, tA (qInt p0.Kids), tA (qGOcc p0.Pair.Left), tA (qGOcc p0.Pair.Right), tA (qGOcc p0.Span.Left), tA (qGOcc p0.Span.Mid), tA (qGOcc p0.Due), iA p0.Many], .iptr [iA c0.Kind, iA c0.Sym, iA c0.N, tA (qInt c0.Kids), tA (qGOcc c0.Pair.Left), tA (qGOcc c0.Pair.Right), tA (qGOcc c0.Span.Left), tA (qGOcc c0.Span.Mid), tA (qGOcc c0.Due), iA c0.Many] 0] [hA, hA] (bA r) := by
 obtain ⟨p0a, p0b, p0c, p0d, ⟨p0e, p0f⟩, ⟨p0g, p0h⟩, p0i, p0j⟩ := p0
 obtain ⟨c0a, c0b, c0c, c0d, ⟨c0e, c0f⟩, ⟨c0g, c0h⟩, c0i, c0j⟩ := c0
 unfold cV.f at hh
 refine go (ts := [(3, none)]) (rm := [.own]) (pm := [.skip, .skip]) Tryz.func181 ?_
 intro Fn LW IN len cast toNat wrap add sub mul bin lt eq At set part app fz' rep nadd nmax ssize sext sget scat seq slt Wide Flat Ones Room r' post' hC hF hr hp
 cbv
 refine bcs (fun f2 => ?_) (fun f2 => ?_)
 replace hh := ifT hh f2
 try rw [f2]
 cbv
 refine bcs (fun f4 => ?_) (fun f4 => ?_)
 replace hh := ifT hh f4
 try rw [f4]
 cbv
 refine bcs (fun f6 => ?_) (fun f6 => ?_)
 replace hh := ifT hh f6
 try rw [f6]
 cbv
 replace hh := bind_some hh
 obtain ⟨x8, h7, hh⟩ := hh
 refine ac hF (pR hQ h7) ?_
 cbv
 exact Eb
 replace hh := ifF hh f6
 try rw [f6]
 cbv
 exact Eb
 replace hh := ifF hh f4
 try rw [f4]
 cbv
 exact Eb
 replace hh := ifF hh f2
 try rw [f2]
 cbv
 exact Eb

theorem ff {k : Nat} {g1 : GNode → Option Bool} {cp1_0 : GNode} (hg1 : ∀ {y0 : GNode} {r : Bool}, g1 y0 = some r → am P 181 [.agg [iA y0.Kind, iA y0.Sym, iA y0.N, tA (qInt y0.Kids), tA (qGOcc y0.Pair.Left), tA (qGOcc y0.Pair.Right), tA (qGOcc y0.Span.Left), tA (qGOcc y0.Span.Mid), tA (qGOcc y0.Due), iA y0.Many], .iptr [iA cp1_0.Kind, iA cp1_0.Sym, iA cp1_0.N, tA (qInt cp1_0.Kids), tA (qGOcc cp1_0.Pair.Left), tA (qGOcc cp1_0.Pair.Right), tA (qGOcc cp1_0.Span.Left), tA (qGOcc cp1_0.Span.Mid), tA (qGOcc cp1_0.Due), iA cp1_0.Many] 0] [hA, hA] (bA r)) {p0 : List GNode} {r : Int} (hh : aS.f g1 k p0 = some r) : am P 180 [tA (qGNode p0), .clo 181 [.iptr [iA cp1_0.Kind, iA cp1_0.Sym, iA cp1_0.N, tA (qInt cp1_0.Kids), tA (qGOcc cp1_0.Pair.Left), tA (qGOcc cp1_0.Pair.Right), tA (qGOcc cp1_0.Span.Left), tA (qGOcc cp1_0.Span.Mid), tA (qGOcc cp1_0.Due), iA cp1_0.Many] 0]] [hA, hA] (iA r) := by
 obtain ⟨cp1_0a, cp1_0b, cp1_0c, cp1_0d, ⟨cp1_0e, cp1_0f⟩, ⟨cp1_0g, cp1_0h⟩, cp1_0i, cp1_0j⟩ := cp1_0
 unfold aS.f at hh
 refine go (ts := [(4, none)]) (rm := [.own]) (pm := [.skip, .skip]) Tryz.func180 ?_
 intro Fn LW IN len cast toNat wrap add sub mul bin lt eq At set part app fz' rep nadd nmax ssize sext sget scat seq slt Wide Flat Ones Room r' post' hC hF hr hp
 cbv
 replace hh := bind_some hh
 obtain ⟨o1, hl1, hq1⟩ := hh
 refine aA hC eok mixed (aS.l0 k g1 p0)
  (fun s11 => (⟨[(0, tA (qGNode p0)), (1, .clo 181 [.iptr [iA cp1_0a, iA cp1_0b, iA cp1_0c, tA (qInt cp1_0d), tA (qGOcc cp1_0e), tA (qGOcc cp1_0f), tA (qGOcc cp1_0g), tA (qGOcc cp1_0h), tA (qGOcc cp1_0i), iA cp1_0j] 0]), (7, iA (cast (len (qGNode p0)))), (8, iA s11)], []⟩ : St))
  (fun (_ : Unit) => (⟨[], []⟩ : St)) .ok (.exit 0)
  (i0 := _) hl1 (fun _ => rfl) ?_ ?_ ?_
 ·rintro t0 e
  refine aj ?_
  cbv
  all_goals exact J1
 rintro _ hx
 subst o1
 have hh := hq1
 cbv
 exact Eb
 rintro n s11 N1 D1 hh hN1 hD1 hQ1
 unfold aS.l0 at hh
 cbv
 refine bcs (fun f23 => ?_) (fun f23 => ?_)
 replace hh := ifT hh f23
 try rw [f23]
 cbv
 replace hh := aa hh
 obtain ⟨h24, hh⟩ := hh
 replace hh := bind_some hh
 obtain ⟨⟨e25a, e25b, e25c, e25d, ⟨e25e, e25f⟩, ⟨e25g, e25h⟩, e25i, e25j⟩, h26, hh⟩ := hh
 try dsimp only at hh
 refine ⟨[iA e25a, iA e25b, iA e25c, tA (qInt e25d), tA (qGOcc e25e), tA (qGOcc e25f), tA (qGOcc e25g), tA (qGOcc e25h), tA (qGOcc e25i), iA e25j], Nb h24, Gb h26, ?_⟩
 cbv
 replace hh := bind_some hh
 obtain ⟨x28, h27, hh⟩ := hh
 refine ac hF (hg1 h27) ?_
 cbv
 refine bcs (fun f31 => ?_) (fun f31 => ?_)
 replace hh := ifT hh f31
 try rw [f31]
 cbv
 cases hh
 have hh : some _ = some _ := hq1
 refine hQ1 _ _ ?_
 cbv
 exact Eb
 replace hh := ifF hh f31
 try rw [f31]
 cbv
 ·refine hN1 _ _ hh fun t0 e => ?_
  refine aj ?_
  cbv
  all_goals exact J1
 replace hh := ifF hh f23
 try rw [f23]
 cbv
 ·refine hD1 () _ hh fun _ e => ?_
  refine aj ?_
  cbv
  all_goals exact J0
theorem eE {k : Nat} {g1 : GNode → Option Bool} {cp1_0 : GNode} (hg1 : ∀ {y0 : GNode} {r : Bool}, g1 y0 = some r → am P 181 [.agg [iA y0.Kind, iA y0.Sym, iA y0.N, tA (qInt y0.Kids), tA (qGOcc y0.Pair.Left), tA (qGOcc y0.Pair.Right), tA (qGOcc y0.Span.Left), tA (qGOcc y0.Span.Mid), tA (qGOcc y0.Due), iA y0.Many], .iptr [iA cp1_0.Kind, iA cp1_0.Sym, iA cp1_0.N, tA (qInt cp1_0.Kids), tA (qGOcc cp1_0.Pair.Left), tA (qGOcc cp1_0.Pair.Right), tA (qGOcc cp1_0.Span.Left), tA (qGOcc cp1_0.Span.Mid), tA (qGOcc cp1_0.Due), iA cp1_0.Many] 0] [hA, hA] (bA r)) {p0 : List GNode} {r : Int} (hh : aS.f g1 k p0 = some r) : am P 180 [oA 10 (qGNode p0), .clo 181 [.iptr [iA cp1_0.Kind, iA cp1_0.Sym, iA cp1_0.N, tA (qInt cp1_0.Kids), tA (qGOcc cp1_0.Pair.Left), tA (qGOcc cp1_0.Pair.Right), tA (qGOcc cp1_0.Span.Left), tA (qGOcc cp1_0.Span.Mid), tA (qGOcc cp1_0.Due), iA cp1_0.Many] 0]] [oA 10 (qGNode p0), hA] (iA r) := by
  cases hQ; exact (ff .mk hg1 hh).lend (rfl) (.lend (congrArg A.tree (pe _).symm) (.same rfl .nil))

theorem v6 : ∀ k : Nat, (∀ {p0 : GGraph} {p1 : GEx} {r : Int × GGraph}, bd.f k p0 p1 = some r → am P 127 [.obox [iA p0.Mode, oA 10 (qGNode p0.Nodes), iA p0.Seen, iA p0.Now, bA p0.Full], .agg [iA p1.Kind, iA p1.Sym, iA p1.N, tA (qGEx p1.Kids)]] [.obox [iA r.2.Mode, oA 10 (qGNode r.2.Nodes), iA r.2.Seen, iA r.2.Now, bA r.2.Full], hA] (iA r.1)) := by
  intro k
  induction k using Nat.strongRecOn with
  | _ k ih =>
  · intro p0 p1 r hh
    cases k with
    | zero => unfold bd.f at hh; cases hh
    | succ k =>
    obtain ⟨p0a, p0b, p0c, p0d, p0e⟩ := p0
    obtain ⟨p1a, p1b, p1c, p1d⟩ := p1
    unfold bd.f at hh
    refine go (ts := [(4, none)]) (rm := [.own]) (pm := [.own, .skip]) Tryz.func127 ?_
    intro Fn LW IN len cast toNat wrap add sub mul bin lt eq At set part app fz' rep nadd nmax ssize sext sget scat seq slt Wide Flat Ones Room r' post' hC hF hr hp
    cbv
    replace hh := bind_some hh
    obtain ⟨o1, hl1, hq1⟩ := hh
    refine aA hC eok mixed (fun n (i : Int × (List GNode) × Int × Int × Bool × (List Int) × Int) => bd.l0 k (bd.f k) (⟨p1a, p1b, p1c, p1d⟩ : GEx) n i.1 i.2.1 i.2.2.1 i.2.2.2.1 i.2.2.2.2.1 i.2.2.2.2.2.1 i.2.2.2.2.2.2)
     (fun ⟨s10, s11, s12, s13, s14, s15, s16⟩ => (⟨[(0, .mptr (0, 0) 1 0 0), (5, .mptr (5, 0) 1 0 0), (17, tA (qGEx p1d)), (18, iA (cast (len (qGEx p1d)))), (19, iA s16), (1000000, .mptr (0, 0) 1 0 0)], [((0, 0), .box 1 [iA s10, .ref (900, 0) 1 0 (len (qGNode s11)), iA s12, iA s13, bA s14]), ((5, 0), .box 1 [iA p1a, iA p1b, iA p1c, .ref (5, 53) 1 0 (len (qInt s15)), .lit (.slice none 0 0), .lit (.slice none 0 0), .lit (.slice none 0 0), .lit (.slice none 0 0), .lit (.slice none 0 0), iA 0]), ((5, 53), .arr 1 1 (qInt s15)), ((900, 0), .arr 1 10 (qGNode s11))]⟩ : St))
     (fun (⟨x26, x27, x28, x29, x30, x31⟩ : Int × (List GNode) × Int × Int × Bool × (List Int)) => (⟨[(0, .mptr (0, 0) 1 0 0), (5, .mptr (5, 0) 1 0 0), (1000000, .mptr (0, 0) 1 0 0)], [((0, 0), .box 1 [iA x26, .ref (900, 0) 1 0 (len (qGNode x27)), iA x28, iA x29, bA x30]), ((5, 0), .box 1 [iA p1a, iA p1b, iA p1c, .ref (5, 53) 1 0 (len (qInt x31)), .lit (.slice none 0 0), .lit (.slice none 0 0), .lit (.slice none 0 0), .lit (.slice none 0 0), .lit (.slice none 0 0), iA 0]), ((5, 53), .arr 1 1 (qInt x31)), ((900, 0), .arr 1 10 (qGNode x27))]⟩ : St)) (fun x => x) (.exit 0)
     (i0 := (_, _, _, _, _, _, _)) hl1 (fun _ => rfl) ?_ ?_ ?_
    ·rintro ⟨t0, t1, t2, t3, t4, t5, t6⟩ e
     refine io hC (0, 0) 900 ?_
     cbv
     refine az [((0, 0), (0, 0)), ((5, 0), (5, 0)), ((900, 0), (900, 0))] ?_
     cbv
     all_goals exact J7
    rintro ⟨x26, x27, x28, x29, x30, x31⟩ hx
    subst o1
    have hh := hq1
    cbv
    replace hh := bind_some hh
    obtain ⟨x42, h41, hh⟩ := hh
    refine ⟨Ob, ?_⟩
    refine ac hF (eE hQ (g1 := fun y0 => cV.f k y0 ((⟨p1a, p1b, p1c, x31, (⟨[], []⟩ : aP), (⟨[], []⟩ : aG), [], 0⟩ : GNode))) (fun h => lW hQ h) h41) ?_
    cbv
    refine bcs (fun f45 => ?_) (fun f45 => ?_)
    replace hh := ifT hh f45
    try rw [f45]
    cbv
    replace hh := aa hh
    obtain ⟨h46, hh⟩ := hh
    refine ⟨⟨Ob, Ab⟩, ?_⟩
    refine ⟨⟨Ob, Wb h46⟩, ?_⟩
    exact Eb
    replace hh := ifF hh f45
    try rw [f45]
    cbv
    exact Eb
    rintro n ⟨s10, s11, s12, s13, s14, s15, s16⟩ N1 D1 hh hN1 hD1 hQ1
    dsimp only at hh
    unfold bd.l0 at hh
    cbv
    refine bcs (fun f33 => ?_) (fun f33 => ?_)
    replace hh := ifT hh f33
    try rw [f33]
    cbv
    replace hh := aa hh
    obtain ⟨h34, hh⟩ := hh
    replace hh := bind_some hh
    obtain ⟨⟨e35a, e35b, e35c, e35d⟩, h36, hh⟩ := hh
    try dsimp only at hh
    refine ⟨[iA e35a, iA e35b, iA e35c, tA (qGEx e35d)], Nb h34, Gb h36, ?_⟩
    cbv
    replace hh := bind_some hh
    obtain ⟨⟨x38_0, ⟨x38_1a, x38_1b, x38_1c, x38_1d, x38_1e⟩⟩, h37, hh⟩ := hh
    try dsimp only at hh
    have fc := (ih k (Nat.lt_succ_self k)) h37
    try dsimp only at fc
    refine ac hF fc ?_
    cbv
    replace hh := aa hh
    obtain ⟨h40, hh⟩ := hh
    refine ⟨⟨Ob, Ab⟩, ?_⟩
    refine ⟨⟨Ob, Wb h40⟩, ?_⟩
    ·refine hN1 (_, _, _, _, _, _, _) _ hh fun ⟨t0, t1, t2, t3, t4, t5, t6⟩ e => ?_
     refine io hC (0, 0) 900 ?_
     cbv
     refine az [((0, 0), (0, 0)), ((5, 0), (5, 0)), ((5, 53), (29, 0)), ((900, 0), (900, 0))] ?_
     cbv
     all_goals exact J7
    replace hh := ifF hh f33
    try rw [f33]
    cbv
    ·refine hD1 (_, _, _, _, _, _) _ hh fun ⟨t0, t1, t2, t3, t4, t5⟩ e => ?_
     refine aj ?_
     cbv
     all_goals exact J6
theorem nR {k : Nat} {p0 : GGraph} {p1 : GEx} {r : Int × GGraph} (hh : bd.f k p0 p1 = some r) : am P 127 [.obox [iA p0.Mode, oA 10 (qGNode p0.Nodes), iA p0.Seen, iA p0.Now, bA p0.Full], .agg [iA p1.Kind, iA p1.Sym, iA p1.N, tA (qGEx p1.Kids)]] [.obox [iA r.2.Mode, oA 10 (qGNode r.2.Nodes), iA r.2.Seen, iA r.2.Now, bA r.2.Full], hA] (iA r.1) := (v6 hQ k) hh


theorem kE {k : Nat} {p0 : GEx} {p1 : Int} {r : GGraph} (hh : eW.f k p0 p1 = some r) : am P 60 [.agg [iA p0.Kind, iA p0.Sym, iA p0.N, tA (qGEx p0.Kids)], iA p1] [hA, hA] (.agg [iA r.Mode, oA 10 (qGNode r.Nodes), iA r.Seen, iA r.Now, bA r.Full]) := by
 obtain ⟨p0a, p0b, p0c, p0d⟩ := p0
 unfold eW.f at hh
 refine go (ts := [(4, some 91)]) (rm := [.own]) (pm := [.skip, .skip]) Tryz.func60 ?_
 intro Fn LW IN len cast toNat wrap add sub mul bin lt eq At set part app fz' rep nadd nmax ssize sext sget scat seq slt Wide Flat Ones Room r' post' hC hF hr hp
 cbv
 replace hh := bind_some hh
 obtain ⟨x2, h1, hh⟩ := hh
 refine ac hF (ku hQ h1) ?_
 cbv
 replace hh := ak hh
 rcases hh with ⟨b4, hh⟩ | ⟨b4, hh⟩
 have f5 : x2 = true := Tb b4
 have g := f5; cbv at g; try rw [f5]
 try rw [g]
 cbv
 replace hh := bind_some hh
 obtain ⟨x7, h6, hh⟩ := hh
 refine ac hF (lL hQ h6) ?_
 cbv
 replace hh := ak hh
 rcases hh with ⟨b9, hh⟩ | ⟨b9, hh⟩
 have f10 : x7 = true := Tb b9
 have g := f10; cbv at g; try rw [f10]
 try rw [g]
 cbv
 replace hh := bind_some hh
 obtain ⟨⟨x12_0, ⟨x12_1a, x12_1b, x12_1c, x12_1d, x12_1e⟩⟩, h11, hh⟩ := hh
 try dsimp only at hh
 refine ⟨10, ?_⟩
 cbv
 have fc := nR hQ h11
 try dsimp only at fc
 refine ac hF fc ?_
 cbv
 exact Eb
 have f10 : x7 = false := Fb b9
 have g := f10; cbv at g; try rw [f10]
 try rw [g]
 cbv
 refine ⟨10, ?_⟩
 cbv
 exact Eb
 have f5 : x2 = false := Fb b4
 have g := f5; cbv at g; try rw [f5]
 try rw [g]
 cbv
 refine ⟨10, ?_⟩
 cbv
 exact Eb

theorem oB {k : Nat} {p0 : GGraph} {p1 : Int} {r : Int × Bool × GGraph} (hh : aN.f k p0 p1 = some r) : am P 129 [.obox [iA p0.Mode, oA 10 (qGNode p0.Nodes), iA p0.Seen, iA p0.Now, bA p0.Full], iA p1] [.obox [iA r.2.2.Mode, oA 10 (qGNode r.2.2.Nodes), iA r.2.2.Seen, iA r.2.2.Now, bA r.2.2.Full], hA] (.tup [iA r.1, bA r.2.1]) := by
 obtain ⟨p0a, p0b, p0c, p0d, p0e⟩ := p0
 unfold aN.f at hh
 refine go (ts := [(4, none), (5, none)]) (rm := [.own, .own]) (pm := [.own, .skip]) Tryz.func129 ?_
 intro Fn LW IN len cast toNat wrap add sub mul bin lt eq At set part app fz' rep nadd nmax ssize sext sget scat seq slt Wide Flat Ones Room r' post' hC hF hr hp
 cbv
 replace hh := bind_some hh
 obtain ⟨o1, hl1, hq1⟩ := hh
 refine aA hC eok mixed (fun n (i : Int × Int) => aN.l2 k (⟨p0a, p0b, p0c, p0d, p0e⟩ : GGraph) n i.1 i.2)
  (fun ⟨s31, s32⟩ => (⟨[(1, iA p1), (6, iA s31), (15, .ref (15, 0) 1 0 (len (qGNode p0b))), (16, iA (cast (len (qGNode p0b)))), (17, iA s32), (1000000, .mptr (0, 0) 1 0 0)], [((0, 0), .box 1 [iA p0a, .ref (15, 0) 1 0 (len (qGNode p0b)), iA p0c, iA p0d, bA p0e]), ((15, 0), .arr 1 10 (qGNode p0b))]⟩ : St))
  (fun (x63 : Int) => (⟨[(1, iA p1), (6, iA x63), (1000000, .mptr (0, 0) 1 0 0)], [((0, 0), .box 1 [iA p0a, .ref (15, 0) 1 0 (len (qGNode p0b)), iA p0c, iA p0d, bA p0e]), ((15, 0), .arr 1 10 (qGNode p0b))]⟩ : St)) (fun x => x) (.exit 0)
  (i0 := (_, _)) hl1 (fun _ => rfl) ?_ ?_ ?_
 ·rintro ⟨t0, t1⟩ e
  refine aj ?_
  cbv
  all_goals exact J2
 rintro x63 hx
 subst o1
 have hh := hq1
 cbv
 exact Eb
 rintro n ⟨s31, s32⟩ N1 D1 hh hN1 hD1 hQ1
 dsimp only at hh
 unfold aN.l2 at hh
 cbv
 refine bcs (fun f65 => ?_) (fun f65 => ?_)
 replace hh := ifT hh f65
 try rw [f65]
 cbv
 replace hh := aa hh
 obtain ⟨h66, hh⟩ := hh
 replace hh := aa hh
 obtain ⟨h67, hh⟩ := hh
 try dsimp only at h67
 refine ⟨Nb h66, Mb h67, ?_⟩
 replace hh := bind_some hh
 obtain ⟨⟨e68a, e68b, e68c, e68d, ⟨e68e, e68f⟩, ⟨e68g, e68h⟩, e68i, e68j⟩, h69, hh⟩ := hh
 try dsimp only at hh
 refine ⟨[iA e68a, iA e68b, iA e68c, tA (qInt e68d), tA (qGOcc e68e), tA (qGOcc e68f), tA (qGOcc e68g), tA (qGOcc e68h), tA (qGOcc e68i), iA e68j], Gb h69, ?_⟩
 cbv
 replace hh := bind_some hh
 obtain ⟨o2, hl2, hq2⟩ := hh
 refine aA hC eok mixed (fun n (i : Int × Int) => aN.l3 k (⟨e68a, e68b, e68c, e68d, ⟨e68e, e68f⟩, ⟨e68g, e68h⟩, e68i, e68j⟩ : GNode) n i.1 i.2)
  (fun ⟨s77, s78⟩ => (⟨[(1, iA p1), (6, iA s77), (15, .ref (15, 0) 1 0 (len (qGNode p0b))), (16, iA (cast (len (qGNode p0b)))), (17, iA s32), (22, tA (qGOcc e68i)), (23, iA (cast (len (qGOcc e68i)))), (24, iA s78), (1000000, .mptr (0, 0) 1 0 0)], [((0, 0), .box 1 [iA p0a, .ref (15, 0) 1 0 (len (qGNode p0b)), iA p0c, iA p0d, bA p0e]), ((15, 0), .arr 1 10 (qGNode p0b))]⟩ : St))
  (fun (x86 : Int) => (⟨[(1, iA p1), (6, iA x86), (15, .ref (15, 0) 1 0 (len (qGNode p0b))), (16, iA (cast (len (qGNode p0b)))), (17, iA s32), (1000000, .mptr (0, 0) 1 0 0)], [((0, 0), .box 1 [iA p0a, .ref (15, 0) 1 0 (len (qGNode p0b)), iA p0c, iA p0d, bA p0e]), ((15, 0), .arr 1 10 (qGNode p0b))]⟩ : St)) (fun x => x) (.exit 2)
  (i0 := (_, _)) hl2 (fun _ => rfl) ?_ ?_ ?_
 ·rintro ⟨t0, t1⟩ e
  refine aj ?_
  cbv
  all_goals exact J2
 rintro x86 hx
 subst o2
 have hh := hq2
 cbv
 ·refine hN1 (_, _) _ hh fun ⟨t0, t1⟩ e => ?_
  refine aj ?_
  cbv
  all_goals exact J2
 rintro n ⟨s77, s78⟩ N2 D2 hh hN2 hD2 hQ2
 dsimp only at hh
 unfold aN.l3 at hh
 cbv
 refine bcs (fun f88 => ?_) (fun f88 => ?_)
 replace hh := ifT hh f88
 try rw [f88]
 cbv
 replace hh := aa hh
 obtain ⟨h89, hh⟩ := hh
 replace hh := bind_some hh
 obtain ⟨⟨e90a, e90b, e90c⟩, h91, hh⟩ := hh
 try dsimp only at hh
 refine ⟨[iA e90a, iA e90b, tA (qInt e90c)], Nb h89, Gb h91, ?_⟩
 cbv
 replace hh := ak hh
 rcases hh with ⟨b92, hh⟩ | ⟨b92, hh⟩
 have f93 : (lt e90b s77) = true := Tb b92
 have g := f93; cbv at g; try rw [f93]
 try rw [g]
 cbv
 ·refine hN2 (_, _) _ hh fun ⟨t0, t1⟩ e => ?_
  refine aj ?_
  cbv
  all_goals exact J2
 have f93 : (lt e90b s77) = false := Fb b92
 have g := f93; cbv at g; try rw [f93]
 try rw [g]
 cbv
 ·refine hN2 (_, _) _ hh fun ⟨t0, t1⟩ e => ?_
  refine aj ?_
  cbv
  all_goals exact J2
 replace hh := ifF hh f88
 try rw [f88]
 cbv
 ·refine hD2 _ _ hh fun t0 e => ?_
  refine aj ?_
  cbv
  all_goals exact J1
 replace hh := ifF hh f65
 try rw [f65]
 cbv
 ·refine hD1 _ _ hh fun t0 e => ?_
  refine aj ?_
  cbv
  all_goals exact J1

theorem tj {p0 : GOcc} {c0 : Int} {r : Bool} (hh : iO.f p0 c0 = some r) : am P 250 [.agg [iA p0.From, iA p0.To, tA (qInt p0.Ids)], .iptr [iA c0] 0] [hA, hA] (bA r) := by
 obtain ⟨p0a, p0b, p0c⟩ := p0
 unfold iO.f at hh
 refine go (ts := [(3, none)]) (rm := [.own]) (pm := [.skip, .skip]) Tryz.func250 ?_
 intro Fn LW IN len cast toNat wrap add sub mul bin lt eq At set part app fz' rep nadd nmax ssize sext sget scat seq slt Wide Flat Ones Room r' post' hC hF hr hp
 cbv
 exact Eb

theorem kk {k : Nat} {g1 : GOcc → Option Bool} {cp1_0 : Int} (hg1 : ∀ {y0 : GOcc} {r : Bool}, g1 y0 = some r → am P 250 [.agg [iA y0.From, iA y0.To, tA (qInt y0.Ids)], .iptr [iA cp1_0] 0] [hA, hA] (bA r)) {p0 : List GOcc} {r : List GOcc} (hh : aM.f g1 k p0 = some r) : am P 218 [tA (qGOcc p0), .clo 250 [.iptr [iA cp1_0] 0]] [hA, hA] (oA 3 (qGOcc r)) := by
 unfold aM.f at hh
 refine go (ts := [(4, none)]) (rm := [.own]) (pm := [.skip, .skip]) Tryz.func218 ?_
 intro Fn LW IN len cast toNat wrap add sub mul bin lt eq At set part app fz' rep nadd nmax ssize sext sget scat seq slt Wide Flat Ones Room r' post' hC hF hr hp
 cbv
 replace hh := bind_some hh
 obtain ⟨o1, hl1, hq1⟩ := hh
 refine aA hC eok mixed (fun n (i : (List GOcc) × Int) => aM.l0 k g1 p0 n i.1 i.2)
  (fun ⟨s12, s13⟩ => (⟨[(1, .clo 250 [.iptr [iA cp1_0] 0]), (5, .ref (5, 50) 1 0 (len (qGOcc s12))), (8, tA (qGOcc p0)), (9, iA (cast (len (qGOcc p0)))), (10, iA s13)], [((5, 50), .arr 1 3 (qGOcc s12))]⟩ : St))
  (fun (x25 : List GOcc) => (⟨[(5, .ref (5, 50) 1 0 (len (qGOcc x25)))], [((5, 50), .arr 1 3 (qGOcc x25))]⟩ : St)) (fun x => x) (.exit 0)
  (i0 := (_, _)) hl1 (fun _ => rfl) ?_ ?_ ?_
 ·rintro ⟨t0, t1⟩ e
  refine az [] ?_
  cbv
  all_goals exact J2
 rintro x25 hx
 subst o1
 have hh := hq1
 cbv
 exact Eb
 rintro n ⟨s12, s13⟩ N1 D1 hh hN1 hD1 hQ1
 dsimp only at hh
 unfold aM.l0 at hh
 cbv
 refine bcs (fun f27 => ?_) (fun f27 => ?_)
 replace hh := ifT hh f27
 try rw [f27]
 cbv
 replace hh := aa hh
 obtain ⟨h28, hh⟩ := hh
 replace hh := bind_some hh
 obtain ⟨⟨e29a, e29b, e29c⟩, h30, hh⟩ := hh
 try dsimp only at hh
 refine ⟨[iA e29a, iA e29b, tA (qInt e29c)], Nb h28, Gb h30, ?_⟩
 cbv
 replace hh := bind_some hh
 obtain ⟨x32, h31, hh⟩ := hh
 refine ac hF (hg1 h31) ?_
 cbv
 refine bcs (fun f35 => ?_) (fun f35 => ?_)
 replace hh := ifT hh f35
 try rw [f35]
 cbv
 replace hh := aa hh
 obtain ⟨h36, hh⟩ := hh
 refine ⟨⟨Ob, Ab⟩, ?_⟩
 refine ⟨⟨Ob, Wb h36⟩, ?_⟩
 ·refine hN1 (_, _) _ hh fun ⟨t0, t1⟩ e => ?_
  refine az [((5, 50), (20, 0))] ?_
  cbv
  all_goals exact J2
 replace hh := ifF hh f35
 try rw [f35]
 cbv
 ·refine hN1 (_, _) _ hh fun ⟨t0, t1⟩ e => ?_
  refine aj ?_
  cbv
  all_goals exact J2
 replace hh := ifF hh f27
 try rw [f27]
 cbv
 ·refine hD1 _ _ hh fun t0 e => ?_
  refine aj ?_
  cbv
  all_goals exact J1

theorem qC {k : Nat} {p0 : List GOcc} {p1 : Int} {r : List GOcc} (hh : ji.f k p0 p1 = some r) : am P 217 [tA (qGOcc p0), iA p1] [hA, hA] (oA 3 (qGOcc r)) := by
 unfold ji.f at hh
 refine go (ts := [(4, none)]) (rm := [.own]) (pm := [.skip, .skip]) Tryz.func217 ?_
 intro Fn LW IN len cast toNat wrap add sub mul bin lt eq At set part app fz' rep nadd nmax ssize sext sget scat seq slt Wide Flat Ones Room r' post' hC hF hr hp
 cbv
 replace hh := bind_some hh
 obtain ⟨x2, h1, hh⟩ := hh
 refine ac hF (kk hQ (g1 := fun y0 => iO.f y0 p1) (fun h => tj hQ h) h1) ?_
 cbv
 exact Eb

theorem iQ {p0 : GOcc} {c0 : Int} {r : Bool} (hh : cI.f p0 c0 = some r) : am P 219 [.agg [iA p0.From, iA p0.To, tA (qInt p0.Ids)], .iptr [iA c0] 0] [hA, hA] (bA r) := by
 obtain ⟨p0a, p0b, p0c⟩ := p0
 unfold cI.f at hh
 refine go (ts := [(3, none)]) (rm := [.own]) (pm := [.skip, .skip]) Tryz.func219 ?_
 intro Fn LW IN len cast toNat wrap add sub mul bin lt eq At set part app fz' rep nadd nmax ssize sext sget scat seq slt Wide Flat Ones Room r' post' hC hF hr hp
 cbv
 exact Eb

theorem eJ {k : Nat} {g1 : GOcc → Option Bool} {cp1_0 : Int} (hg1 : ∀ {y0 : GOcc} {r : Bool}, g1 y0 = some r → am P 219 [.agg [iA y0.From, iA y0.To, tA (qInt y0.Ids)], .iptr [iA cp1_0] 0] [hA, hA] (bA r)) {p0 : List GOcc} {r : List GOcc} (hh : aM.f g1 k p0 = some r) : am P 218 [tA (qGOcc p0), .clo 219 [.iptr [iA cp1_0] 0]] [hA, hA] (oA 3 (qGOcc r)) := by
 unfold aM.f at hh
 refine go (ts := [(4, none)]) (rm := [.own]) (pm := [.skip, .skip]) Tryz.func218 ?_
 intro Fn LW IN len cast toNat wrap add sub mul bin lt eq At set part app fz' rep nadd nmax ssize sext sget scat seq slt Wide Flat Ones Room r' post' hC hF hr hp
 cbv
 replace hh := bind_some hh
 obtain ⟨o1, hl1, hq1⟩ := hh
 refine aA hC eok mixed (fun n (i : (List GOcc) × Int) => aM.l0 k g1 p0 n i.1 i.2)
  (fun ⟨s12, s13⟩ => (⟨[(1, .clo 219 [.iptr [iA cp1_0] 0]), (5, .ref (5, 50) 1 0 (len (qGOcc s12))), (8, tA (qGOcc p0)), (9, iA (cast (len (qGOcc p0)))), (10, iA s13)], [((5, 50), .arr 1 3 (qGOcc s12))]⟩ : St))
  (fun (x25 : List GOcc) => (⟨[(5, .ref (5, 50) 1 0 (len (qGOcc x25)))], [((5, 50), .arr 1 3 (qGOcc x25))]⟩ : St)) (fun x => x) (.exit 0)
  (i0 := (_, _)) hl1 (fun _ => rfl) ?_ ?_ ?_
 ·rintro ⟨t0, t1⟩ e
  refine az [] ?_
  cbv
  all_goals exact J2
 rintro x25 hx
 subst o1
 have hh := hq1
 cbv
 exact Eb
 rintro n ⟨s12, s13⟩ N1 D1 hh hN1 hD1 hQ1
 dsimp only at hh
 unfold aM.l0 at hh
 cbv
 refine bcs (fun f27 => ?_) (fun f27 => ?_)
 replace hh := ifT hh f27
 try rw [f27]
 cbv
 replace hh := aa hh
 obtain ⟨h28, hh⟩ := hh
 replace hh := bind_some hh
 obtain ⟨⟨e29a, e29b, e29c⟩, h30, hh⟩ := hh
 try dsimp only at hh
 refine ⟨[iA e29a, iA e29b, tA (qInt e29c)], Nb h28, Gb h30, ?_⟩
 cbv
 replace hh := bind_some hh
 obtain ⟨x32, h31, hh⟩ := hh
 refine ac hF (hg1 h31) ?_
 cbv
 refine bcs (fun f35 => ?_) (fun f35 => ?_)
 replace hh := ifT hh f35
 try rw [f35]
 cbv
 replace hh := aa hh
 obtain ⟨h36, hh⟩ := hh
 refine ⟨⟨Ob, Ab⟩, ?_⟩
 refine ⟨⟨Ob, Wb h36⟩, ?_⟩
 ·refine hN1 (_, _) _ hh fun ⟨t0, t1⟩ e => ?_
  refine az [((5, 50), (20, 0))] ?_
  cbv
  all_goals exact J2
 replace hh := ifF hh f35
 try rw [f35]
 cbv
 ·refine hN1 (_, _) _ hh fun ⟨t0, t1⟩ e => ?_
  refine aj ?_
  cbv
  all_goals exact J2
 replace hh := ifF hh f27
 try rw [f27]
 cbv
 ·refine hD1 _ _ hh fun t0 e => ?_
  refine aj ?_
  cbv
  all_goals exact J1

theorem nj {p0 : Int} {r : Bool} (hh : iG.f p0 = some r) : am P 220 [iA p0] [hA] (bA r) := by
 unfold iG.f at hh
 refine go (ts := [(2, none)]) (rm := [.own]) (pm := [.skip]) Tryz.func220 ?_
 intro Fn LW IN len cast toNat wrap add sub mul bin lt eq At set part app fz' rep nadd nmax ssize sext sget scat seq slt Wide Flat Ones Room r' post' hC hF hr hp
 cbv
 exact Eb

theorem qZ {p0 : Int} {p1 : Int} {r : Int} (hh : gm.f p0 p1 = some r) : am P 186 [iA p0, iA p1] [hA, hA] (iA r) := by
 unfold gm.f at hh
 refine go (ts := [(4, none)]) (rm := [.own]) (pm := [.skip, .skip]) Tryz.func186 ?_
 intro Fn LW IN len cast toNat wrap add sub mul bin lt eq At set part app fz' rep nadd nmax ssize sext sget scat seq slt Wide Flat Ones Room r' post' hC hF hr hp
 cbv
 replace hh := bind_some hh
 obtain ⟨x2, h1, hh⟩ := hh
 refine ac hF (nj hQ h1) ?_
 cbv
 replace hh := bind_some hh
 obtain ⟨x5, h4, hh⟩ := hh
 refine ac hF (nj hQ h4) ?_
 cbv
 refine bcs (fun f8 => ?_) (fun f8 => ?_)
 replace hh := ifT hh f8
 try rw [f8]
 cbv
 refine bcs (fun f10 => ?_) (fun f10 => ?_)
 replace hh := ifT hh f10
 try rw [f10]
 cbv
 exact Eb
 replace hh := ifF hh f10
 try rw [f10]
 cbv
 exact Eb
 replace hh := ifF hh f8
 try rw [f8]
 cbv
 refine bcs (fun f12 => ?_) (fun f12 => ?_)
 replace hh := ifT hh f12
 try rw [f12]
 cbv
 exact Eb
 replace hh := ifF hh f12
 try rw [f12]
 cbv
 refine bcs (fun f14 => ?_) (fun f14 => ?_)
 replace hh := ifT hh f14
 try rw [f14]
 cbv
 exact Eb
 replace hh := ifF hh f14
 try rw [f14]
 cbv
 refine bcs (fun f16 => ?_) (fun f16 => ?_)
 replace hh := ifT hh f16
 try rw [f16]
 cbv
 exact Eb
 replace hh := ifF hh f16
 try rw [f16]
 cbv
 exact Eb

theorem n6 {k : Nat} {p0 : List Int} {p1 : List Int} {r : Int} (hh : bQ.f k p0 p1 = some r) : am P 133 [tA (qInt p0), tA (qInt p1)] [hA, hA] (iA r) := by
 unfold bQ.f at hh
 refine go (ts := [(4, none)]) (rm := [.own]) (pm := [.skip, .skip]) Tryz.func133 ?_
 intro Fn LW IN len cast toNat wrap add sub mul bin lt eq At set part app fz' rep nadd nmax ssize sext sget scat seq slt Wide Flat Ones Room r' post' hC hF hr hp
 cbv
 replace hh := bind_some hh
 obtain ⟨o1, hl1, hq1⟩ := hh
 refine aA hC eok mixed (bQ.l0 k p0 p1)
  (fun s16 => (⟨[(0, tA (qInt p0)), (1, tA (qInt p1)), (9, tA (qInt p0)), (10, iA (cast (len (qInt p0)))), (11, iA s16)], []⟩ : St))
  (fun (_ : Unit) => (⟨[(0, tA (qInt p0)), (1, tA (qInt p1))], []⟩ : St)) .ok (.exit 0)
  (i0 := _) hl1 (fun _ => rfl) ?_ ?_ ?_
 ·rintro t0 e
  refine aj ?_
  cbv
  all_goals exact J1
 rintro _ hx
 subst o1
 have hh := hq1
 cbv
 refine bcs (fun f48 => ?_) (fun f48 => ?_)
 replace hh := ifT hh f48
 try rw [f48]
 cbv
 exact Eb
 replace hh := ifF hh f48
 try rw [f48]
 cbv
 exact Eb
 rintro n s16 N1 D1 hh hN1 hD1 hQ1
 unfold bQ.l0 at hh
 cbv
 refine bcs (fun f33 => ?_) (fun f33 => ?_)
 replace hh := ifT hh f33
 try rw [f33]
 cbv
 replace hh := aa hh
 obtain ⟨h34, hh⟩ := hh
 replace hh := bind_some hh
 obtain ⟨e35, h36, hh⟩ := hh
 refine ⟨[iA e35], Nb h34, Gb h36, ?_⟩
 cbv
 replace hh := ak hh
 rcases hh with ⟨b37, hh⟩ | ⟨b37, hh⟩
 have f38 : (lt s16 (cast (len (qInt p1)))) = true := Tb b37
 have g := f38; cbv at g; try rw [f38]
 try rw [g]
 cbv
 replace hh := aa hh
 obtain ⟨h39, hh⟩ := hh
 replace hh := bind_some hh
 obtain ⟨e40, h41, hh⟩ := hh
 refine ⟨[iA e40], Nb h39, Gb h41, ?_⟩
 cbv
 replace hh := bind_some hh
 obtain ⟨x43, h42, hh⟩ := hh
 refine ac hF (qZ hQ h42) ?_
 cbv
 replace hh := ak hh
 rcases hh with ⟨b45, hh⟩ | ⟨b45, hh⟩
 have f46 : (eq x43 0) = true := Tb b45
 have g := f46; cbv at g; try rw [f46]
 try rw [g]
 cbv
 ·refine hN1 _ _ hh fun t0 e => ?_
  refine aj ?_
  cbv
  all_goals exact J1
 have f46 : (eq x43 0) = false := Fb b45
 have g := f46; cbv at g; try rw [f46]
 try rw [g]
 cbv
 cases hh
 have hh : some _ = some _ := hq1
 refine hQ1 _ _ ?_
 cbv
 exact Eb
 have f38 : (lt s16 (cast (len (qInt p1)))) = false := Fb b37
 have g := f38; cbv at g; try rw [f38]
 try rw [g]
 cbv
 cases hh
 have hh : some _ = some _ := hq1
 refine hQ1 _ _ ?_
 cbv
 exact Eb
 replace hh := ifF hh f33
 try rw [f33]
 cbv
 ·refine hD1 () _ hh fun _ e => ?_
  refine aj ?_
  cbv
  all_goals exact J0

theorem nA {p0 : Bool} {r : Int} (hh : iD.f p0 = some r) : am P 132 [bA p0] [hA] (iA r) := by
 unfold iD.f at hh
 refine go (ts := [(2, none)]) (rm := [.own]) (pm := [.skip]) Tryz.func132 ?_
 intro Fn LW IN len cast toNat wrap add sub mul bin lt eq At set part app fz' rep nadd nmax ssize sext sget scat seq slt Wide Flat Ones Room r' post' hC hF hr hp
 cbv
 refine bcs (fun f2 => ?_) (fun f2 => ?_)
 replace hh := ifT hh f2
 try rw [f2]
 cbv
 exact Eb
 replace hh := ifF hh f2
 try rw [f2]
 cbv
 exact Eb

theorem ii {k : Nat} {p0 : GOcc} {p1 : GOcc} {r : Int} (hh : cq.f k p0 p1 = some r) : am P 70 [.agg [iA p0.From, iA p0.To, tA (qInt p0.Ids)], .agg [iA p1.From, iA p1.To, tA (qInt p1.Ids)]] [hA, hA] (iA r) := by
 obtain ⟨p0a, p0b, p0c⟩ := p0
 obtain ⟨p1a, p1b, p1c⟩ := p1
 unfold cq.f at hh
 refine go (ts := [(4, none)]) (rm := [.own]) (pm := [.skip, .skip]) Tryz.func70 ?_
 intro Fn LW IN len cast toNat wrap add sub mul bin lt eq At set part app fz' rep nadd nmax ssize sext sget scat seq slt Wide Flat Ones Room r' post' hC hF hr hp
 cbv
 replace hh := ak hh
 rcases hh with ⟨b1, hh⟩ | ⟨b1, hh⟩
 have f2 : (eq p0b p1b) = true := Tb b1
 have g := f2; cbv at g; try rw [f2]
 try rw [g]
 cbv
 replace hh := ak hh
 rcases hh with ⟨b3, hh⟩ | ⟨b3, hh⟩
 have f4 : (eq p0a p1a) = true := Tb b3
 have g := f4; cbv at g; try rw [f4]
 try rw [g]
 cbv
 replace hh := bind_some hh
 obtain ⟨x6, h5, hh⟩ := hh
 refine ac hF (n6 hQ h5) ?_
 cbv
 exact Eb
 have f4 : (eq p0a p1a) = false := Fb b3
 have g := f4; cbv at g; try rw [f4]
 try rw [g]
 cbv
 replace hh := bind_some hh
 obtain ⟨x9, h8, hh⟩ := hh
 refine ac hF (nA hQ h8) ?_
 cbv
 exact Eb
 have f2 : (eq p0b p1b) = false := Fb b1
 have g := f2; cbv at g; try rw [f2]
 try rw [g]
 cbv
 replace hh := bind_some hh
 obtain ⟨x12, h11, hh⟩ := hh
 refine ac hF (nA hQ h11) ?_
 cbv
 exact Eb

theorem dh {k : Nat} {g2 : GOcc → GOcc → Option Int} (hg2 : ∀ {y0 : GOcc} {y1 : GOcc} {r : Int}, g2 y0 y1 = some r → am P 70 [.agg [iA y0.From, iA y0.To, tA (qInt y0.Ids)], .agg [iA y1.From, iA y1.To, tA (qInt y1.Ids)]] [hA, hA] (iA r)) {p0 : List GOcc} {p1 : GOcc} {r : Int × Bool} (hh : aE.f g2 k p0 p1 = some r) : am P 182 [tA (qGOcc p0), .agg [iA p1.From, iA p1.To, tA (qInt p1.Ids)], .clo 70 []] [hA, hA, hA] (.tup [iA r.1, bA r.2]) := by
 obtain ⟨p1a, p1b, p1c⟩ := p1
 unfold aE.f at hh
 refine go (ts := [(6, none), (7, none)]) (rm := [.own, .own]) (pm := [.skip, .skip, .skip]) Tryz.func182 ?_
 intro Fn LW IN len cast toNat wrap add sub mul bin lt eq At set part app fz' rep nadd nmax ssize sext sget scat seq slt Wide Flat Ones Room r' post' hC hF hr hp
 cbv
 replace hh := bind_some hh
 obtain ⟨o1, hl1, hq1⟩ := hh
 refine aA hC eok mixed (fun n (i : Int × Int) => aE.l0 k g2 p0 (⟨p1a, p1b, p1c⟩ : GOcc) n i.1 i.2)
  (fun ⟨s12, s13⟩ => (⟨[(0, tA (qGOcc p0)), (2, .clo 70 []), (4, .mptr (4, 0) 1 0 0), (8, iA (cast (len (qGOcc p0)))), (9, iA s12), (10, iA s13)], [((4, 0), .box 1 [iA p1a, iA p1b, tA (qInt p1c)])]⟩ : St))
  (fun (x25 : Int) => (⟨[(0, tA (qGOcc p0)), (2, .clo 70 []), (4, .mptr (4, 0) 1 0 0), (8, iA (cast (len (qGOcc p0)))), (9, iA x25)], [((4, 0), .box 1 [iA p1a, iA p1b, tA (qInt p1c)])]⟩ : St)) (fun x => x) (.exit 0)
  (i0 := (_, _)) hl1 (fun _ => rfl) ?_ ?_ ?_
 ·rintro ⟨t0, t1⟩ e
  refine aj ?_
  cbv
  all_goals exact J2
 rintro x25 hx
 subst o1
 have hh := hq1
 cbv
 refine bcs (fun f38 => ?_) (fun f38 => ?_)
 replace hh := ifT hh f38
 try rw [f38]
 cbv
 replace hh := aa hh
 obtain ⟨h39, hh⟩ := hh
 replace hh := bind_some hh
 obtain ⟨⟨e40a, e40b, e40c⟩, h41, hh⟩ := hh
 try dsimp only at hh
 refine ⟨[iA e40a, iA e40b, tA (qInt e40c)], Nb h39, Gb h41, ?_⟩
 cbv
 replace hh := bind_some hh
 obtain ⟨x43, h42, hh⟩ := hh
 refine ac hF (hg2 h42) ?_
 cbv
 exact Eb
 replace hh := ifF hh f38
 try rw [f38]
 cbv
 exact Eb
 rintro n ⟨s12, s13⟩ N1 D1 hh hN1 hD1 hQ1
 dsimp only at hh
 unfold aE.l0 at hh
 cbv
 refine bcs (fun f27 => ?_) (fun f27 => ?_)
 replace hh := ifT hh f27
 try rw [f27]
 cbv
 replace hh := aa hh
 obtain ⟨h28, hh⟩ := hh
 refine ⟨Nb h28, ?_⟩
 replace hh := aa hh
 obtain ⟨h29, hh⟩ := hh
 replace hh := bind_some hh
 obtain ⟨⟨e30a, e30b, e30c⟩, h31, hh⟩ := hh
 try dsimp only at hh
 refine ⟨[iA e30a, iA e30b, tA (qInt e30c)], Nb h29, Gb h31, ?_⟩
 cbv
 replace hh := bind_some hh
 obtain ⟨x33, h32, hh⟩ := hh
 refine ac hF (hg2 h32) ?_
 cbv
 refine bcs (fun f36 => ?_) (fun f36 => ?_)
 replace hh := ifT hh f36
 try rw [f36]
 cbv
 ·refine hN1 (_, _) _ hh fun ⟨t0, t1⟩ e => ?_
  refine aj ?_
  cbv
  all_goals exact J2
 replace hh := ifF hh f36
 try rw [f36]
 cbv
 ·refine hN1 (_, _) _ hh fun ⟨t0, t1⟩ e => ?_
  refine aj ?_
  cbv
  all_goals exact J2
 replace hh := ifF hh f27
 try rw [f27]
 cbv
 ·refine hD1 _ _ hh fun t0 e => ?_
  refine aj ?_
  cbv
  all_goals exact J1

theorem qj {p0 : List GOcc} {r : List GOcc} (hh : gT.f p0 = some r) : am P 184 [tA (qGOcc p0)] [hA] (oA 3 (qGOcc r)) := by
 unfold gT.f at hh
 refine go (ts := [(2, none)]) (rm := [.own]) (pm := [.skip]) Tryz.func184 ?_
 intro Fn LW IN len cast toNat wrap add sub mul bin lt eq At set part app fz' rep nadd nmax ssize sext sget scat seq slt Wide Flat Ones Room r' post' hC hF hr hp
 cbv
 replace hh := aa hh
 obtain ⟨h1, hh⟩ := hh
 intro b hb
 cases b
 · cbv
   refine ⟨⟨Ab, Ab⟩, ?_⟩
   refine ⟨⟨Ob, Wb h1⟩, ?_⟩
   exact Eb
 · have e : p0 = [] := by cases hC; cases hQ; simpa using hb rfl
   cbv
   refine ⟨3, ?_⟩
   cbv
   subst e
   exact Eb


theorem oZ {p0 : List GOcc} {p1 : Int} {p2 : List GOcc} {r : List GOcc} (hh : fi.f p0 p1 p2 = some r) : am P 183 [oA 3 (qGOcc p0), iA p1, oA 3 (qGOcc p2)] [hA, hA, hA] (oA 3 (qGOcc r)) := by
  cases hQ
  exact oT hh


theorem fT {k : Nat} {p0 : List GOcc} {p1 : GOcc} {r : List GOcc} (hh : c9.f k p0 p1 = some r) : am P 128 [tA (qGOcc p0), .agg [iA p1.From, iA p1.To, tA (qInt p1.Ids)]] [hA, hA] (tA (qGOcc r)) := by
 obtain ⟨p1a, p1b, p1c⟩ := p1
 unfold c9.f at hh
 refine go (ts := [(4, none)]) (rm := [.val]) (pm := [.skip, .skip]) Tryz.func128 ?_
 intro Fn LW IN len cast toNat wrap add sub mul bin lt eq At set part app fz' rep nadd nmax ssize sext sget scat seq slt Wide Flat Ones Room r' post' hC hF hr hp
 cbv
 replace hh := bind_some hh
 obtain ⟨⟨x2_0, x2_1⟩, h1, hh⟩ := hh
 try dsimp only at hh
 refine ac hF (dh hQ (g2 := fun y0 y1 => cq.f k y0 y1) (fun h => ii hQ h) h1) ?_
 cbv
 refine bcs (fun f5 => ?_) (fun f5 => ?_)
 replace hh := ifT hh f5
 try rw [f5]
 cbv
 exact Eb
 replace hh := ifF hh f5
 try rw [f5]
 cbv
 replace hh := bind_some hh
 obtain ⟨x7, h6, hh⟩ := hh
 refine ac hF (qj hQ h6) ?_
 cbv
 replace hh := bind_some hh
 obtain ⟨x10, h9, hh⟩ := hh
 refine ⟨Ob, ?_⟩
 refine ac hF (oZ hQ h9) ?_
 cbv
 exact Eb

theorem bX {k : Nat} {p0 : List GOcc} {p1 : List GOcc} {r : List GOcc} (hh : aL.f k p0 p1 = some r) : am P 61 [tA (qGOcc p0), tA (qGOcc p1)] [hA, hA] (tA (qGOcc r)) := by
 unfold aL.f at hh
 refine go (ts := [(4, none)]) (rm := [.val]) (pm := [.skip, .skip]) Tryz.func61 ?_
 intro Fn LW IN len cast toNat wrap add sub mul bin lt eq At set part app fz' rep nadd nmax ssize sext sget scat seq slt Wide Flat Ones Room r' post' hC hF hr hp
 cbv
 replace hh := bind_some hh
 obtain ⟨o1, hl1, hq1⟩ := hh
 refine aA hC eok mixed (fun n (i : (List GOcc) × Int) => aL.l0 k p1 n i.1 i.2)
  (fun ⟨s9, s10⟩ => (⟨[(0, tA (qGOcc s9)), (7, tA (qGOcc p1)), (8, iA (cast (len (qGOcc p1)))), (9, iA s10)], []⟩ : St))
  (fun (x19 : List GOcc) => (⟨[(0, tA (qGOcc x19))], []⟩ : St)) (fun x => x) (.exit 0)
  (i0 := (_, _)) hl1 (fun _ => rfl) ?_ ?_ ?_
 ·rintro ⟨t0, t1⟩ e
  refine aj ?_
  cbv
  all_goals exact J2
 rintro x19 hx
 subst o1
 have hh := hq1
 cbv
 exact Eb
 rintro n ⟨s9, s10⟩ N1 D1 hh hN1 hD1 hQ1
 dsimp only at hh
 unfold aL.l0 at hh
 cbv
 refine bcs (fun f21 => ?_) (fun f21 => ?_)
 replace hh := ifT hh f21
 try rw [f21]
 cbv
 replace hh := aa hh
 obtain ⟨h22, hh⟩ := hh
 replace hh := bind_some hh
 obtain ⟨⟨e23a, e23b, e23c⟩, h24, hh⟩ := hh
 try dsimp only at hh
 refine ⟨[iA e23a, iA e23b, tA (qInt e23c)], Nb h22, Gb h24, ?_⟩
 cbv
 replace hh := bind_some hh
 obtain ⟨x26, h25, hh⟩ := hh
 refine ac hF (fT hQ h25) ?_
 cbv
 ·refine hN1 (_, _) _ hh fun ⟨t0, t1⟩ e => ?_
  refine aj ?_
  cbv
  all_goals exact J2
 replace hh := ifF hh f21
 try rw [f21]
 cbv
 ·refine hD1 _ _ hh fun t0 e => ?_
  refine aj ?_
  cbv
  all_goals exact J1

theorem qN {p0 : List Int} {p1 : Int} {r : List Int} (hh : ga.f p0 p1 = some r) : am P 288 [.lit (.slice none 0 0), iA p1] [hA, hA] (oA 1 (qInt r)) := by
  cases hQ
  exact qM hh


theorem oR {k : Nat} {p0 : List (List Int)} {r : List Int} (hh : aQ.f k p0 = some r) : am P 271 [tA (qLInt p0)] [hA] (oA 1 (qInt r)) := by
 unfold aQ.f at hh
 refine go (ts := [(2, none)]) (rm := [.own]) (pm := [.skip]) Tryz.func271 ?_
 intro Fn LW IN len cast toNat wrap add sub mul bin lt eq At set part app fz' rep nadd nmax ssize sext sget scat seq slt Wide Flat Ones Room r' post' hC hF hr hp
 cbv
 replace hh := bind_some hh
 obtain ⟨o1, hl1, hq1⟩ := hh
 refine aA hC eok mixed (fun n (i : Int × Int) => aQ.l0 k p0 n i.1 i.2)
  (fun ⟨s8, s9⟩ => (⟨[(0, tA (qLInt p0)), (3, iA s8), (9, tA (qLInt p0)), (10, iA (cast (len (qLInt p0)))), (11, iA s9)], []⟩ : St))
  (fun (x17 : Int) => (⟨[(0, tA (qLInt p0)), (3, iA x17)], []⟩ : St)) (fun x => x) (.exit 0)
  (i0 := (_, _)) hl1 (fun _ => rfl) ?_ ?_ ?_
 ·rintro ⟨t0, t1⟩ e
  refine aj ?_
  cbv
  all_goals exact J2
 rintro x17 hx
 subst o1
 have hh := hq1
 cbv
 replace hh := bind_some hh
 obtain ⟨x26, h25, hh⟩ := hh
 refine ac hF (qN hQ h25) ?_
 cbv
 replace hh := bind_some hh
 obtain ⟨o1, hl1, hq1⟩ := hh
 refine aA hC eok mixed (fun n (i : (List Int) × Int) => aQ.l1 k p0 n i.1 i.2)
  (fun ⟨s34, s35⟩ => (⟨[(6, .ref (24, 0) 1 0 (len (qInt s34))), (25, tA (qLInt p0)), (26, iA (cast (len (qLInt p0)))), (27, iA s35)], [((24, 0), .arr 1 1 (qInt s34))]⟩ : St))
  (fun (x42 : List Int) => (⟨[(6, .ref (24, 0) 1 0 (len (qInt x42)))], [((24, 0), .arr 1 1 (qInt x42))]⟩ : St)) (fun x => x) (.exit 2)
  (i0 := (_, _)) hl1 (fun _ => rfl) ?_ ?_ ?_
 ·rintro ⟨t0, t1⟩ e
  refine aj ?_
  cbv
  all_goals exact J2
 rintro x42 hx
 subst o1
 have hh := hq1
 cbv
 exact Eb
 rintro n ⟨s34, s35⟩ N1 D1 hh hN1 hD1 hQ1
 dsimp only at hh
 unfold aQ.l1 at hh
 cbv
 refine bcs (fun f44 => ?_) (fun f44 => ?_)
 replace hh := ifT hh f44
 try rw [f44]
 cbv
 replace hh := aa hh
 obtain ⟨h45, hh⟩ := hh
 replace hh := bind_some hh
 obtain ⟨e46, h47, hh⟩ := hh
 refine ⟨[tA (qInt e46)], Nb h45, Gb h47, ?_⟩
 cbv
 replace hh := aa hh
 obtain ⟨h48, hh⟩ := hh
 refine ⟨⟨Ab, Ab⟩, ?_⟩
 refine ⟨⟨Ob, Wb h48⟩, ?_⟩
 ·refine hN1 (_, _) _ hh fun ⟨t0, t1⟩ e => ?_
  refine az [((24, 0), (33, 0))] ?_
  cbv
  all_goals exact J2
 replace hh := ifF hh f44
 try rw [f44]
 cbv
 ·refine hD1 _ _ hh fun t0 e => ?_
  refine aj ?_
  cbv
  all_goals exact J1
 rintro n ⟨s8, s9⟩ N1 D1 hh hN1 hD1 hQ1
 dsimp only at hh
 unfold aQ.l0 at hh
 cbv
 refine bcs (fun f19 => ?_) (fun f19 => ?_)
 replace hh := ifT hh f19
 try rw [f19]
 cbv
 replace hh := aa hh
 obtain ⟨h20, hh⟩ := hh
 replace hh := bind_some hh
 obtain ⟨e21, h22, hh⟩ := hh
 refine ⟨[tA (qInt e21)], Nb h20, Gb h22, ?_⟩
 cbv
 refine bcs (fun f24 => ?_) (fun f24 => ?_)
 replace hh := ifT hh f24
 try rw [f24]
 cbv
 cases hh
 replace hh := ifF hh f24
 try rw [f24]
 cbv
 ·refine hN1 (_, _) _ hh fun ⟨t0, t1⟩ e => ?_
  refine aj ?_
  cbv
  all_goals exact J2
 replace hh := ifF hh f19
 try rw [f19]
 cbv
 ·refine hD1 _ _ hh fun t0 e => ?_
  refine aj ?_
  cbv
  all_goals exact J1
theorem lM {k : Nat} {p0 : List (List Int)} {r : List Int} (hh : aQ.f k p0 = some r) : am P 271 [oA 1 (qLInt p0)] [oA 1 (qLInt p0)] (oA 1 (qInt r)) := by
  cases hQ; exact (oR .mk hh).lend (o4 _) (.lend (congrArg A.tree (qE _).symm) .nil)

theorem qP {p0 : List Int} {r : List Int} (hh : gj.f p0 = some r) : am P 252 [oA 1 (qInt p0)] [oA 1 (qInt r)] (.tup []) := by
  cases hQ
  exact qQ hh


theorem fe {p0 : List Int} {r : List Int} (hh : cZ.f p0 = some r) : am P 253 [oA 1 (qInt p0)] [hA] (tA (qInt r)) := by
  cases hQ
  exact nU hh


theorem iB {k : Nat} {p0 : GOcc} {p1 : GOcc} {r : GOcc} (hh : dS.f k p0 p1 = some r) : am P 254 [.agg [iA p0.From, iA p0.To, tA (qInt p0.Ids)], .agg [iA p1.From, iA p1.To, tA (qInt p1.Ids)]] [hA, hA] (.agg [iA r.From, iA r.To, oA 1 (qInt r.Ids)]) := by
 obtain ⟨p0a, p0b, p0c⟩ := p0
 obtain ⟨p1a, p1b, p1c⟩ := p1
 unfold dS.f at hh
 refine go (ts := [(4, some 67)]) (rm := [.own]) (pm := [.skip, .skip]) Tryz.func254 ?_
 intro Fn LW IN len cast toNat wrap add sub mul bin lt eq At set part app fz' rep nadd nmax ssize sext sget scat seq slt Wide Flat Ones Room r' post' hC hF hr hp
 cbv
 replace hh := bind_some hh
 obtain ⟨x2, h1, hh⟩ := hh
 refine ⟨Ob, ?_⟩
 refine ac hF (lM hQ h1) ?_
 cbv
 replace hh := bind_some hh
 obtain ⟨x5, h4, hh⟩ := hh
 replace hh := aa hh
 obtain ⟨h29, hh⟩ := hh
 refine ac hF (qP hQ h4) ?_
 cbv
 replace hh := ak hh
 rcases hh with ⟨b7, hh⟩ | ⟨b7, hh⟩
 have f8 : (lt p1a p0a) = true := Tb b7
 have g := f8; cbv at g; try rw [f8]
 try rw [g]
 cbv
 replace hh := ak hh
 rcases hh with ⟨b9, hh⟩ | ⟨b9, hh⟩
 have f10 : (lt p0b p1b) = true := Tb b9
 have g := f10; cbv at g; try rw [f10]
 try rw [g]
 cbv
 replace hh := bind_some hh
 obtain ⟨x12, h11, hh⟩ := hh
 refine ⟨Ob, ?_⟩
 refine ac hF (fe hQ h11) ?_
 cbv
 replace hh := aa hh
 obtain ⟨h14, hh⟩ := hh
 refine ⟨⟨Ab, Ab⟩, ?_⟩
 refine ⟨Wb h14, ?_⟩
 exact Eb
 have f10 : (lt p0b p1b) = false := Fb b9
 have g := f10; cbv at g; try rw [f10]
 try rw [g]
 cbv
 replace hh := bind_some hh
 obtain ⟨x16, h15, hh⟩ := hh
 refine ⟨Ob, ?_⟩
 refine ac hF (fe hQ h15) ?_
 cbv
 replace hh := aa hh
 obtain ⟨h18, hh⟩ := hh
 refine ⟨⟨Ab, Ab⟩, ?_⟩
 refine ⟨Wb h18, ?_⟩
 exact Eb
 have f8 : (lt p1a p0a) = false := Fb b7
 have g := f8; cbv at g; try rw [f8]
 try rw [g]
 cbv
 replace hh := ak hh
 rcases hh with ⟨b19, hh⟩ | ⟨b19, hh⟩
 have f20 : (lt p0b p1b) = true := Tb b19
 have g := f20; cbv at g; try rw [f20]
 try rw [g]
 cbv
 replace hh := bind_some hh
 obtain ⟨x22, h21, hh⟩ := hh
 refine ⟨Ob, ?_⟩
 refine ac hF (fe hQ h21) ?_
 cbv
 replace hh := aa hh
 obtain ⟨h24, hh⟩ := hh
 refine ⟨⟨Ab, Ab⟩, ?_⟩
 refine ⟨Wb h24, ?_⟩
 exact Eb
 have f20 : (lt p0b p1b) = false := Fb b19
 have g := f20; cbv at g; try rw [f20]
 try rw [g]
 cbv
 replace hh := bind_some hh
 obtain ⟨x26, h25, hh⟩ := hh
 refine ⟨Ob, ?_⟩
 refine ac hF (fe hQ h25) ?_
 cbv
 replace hh := aa hh
 obtain ⟨h28, hh⟩ := hh
 refine ⟨⟨Ab, Ab⟩, ?_⟩
 refine ⟨Wb h28, ?_⟩
 exact Eb

theorem eV {k : Nat} {p0 : Int} {p1 : GOcc} {p2 : List GOcc} {r : (List GOcc) × (List GOcc)} (hh : aF.f k p0 p1 p2 = some r) : am P 233 [iA p0, .agg [iA p1.From, iA p1.To, tA (qInt p1.Ids)], tA (qGOcc p2)] [hA, hA, hA] (.tup [tA (qGOcc r.1), tA (qGOcc r.2)]) := by
 obtain ⟨p1a, p1b, p1c⟩ := p1
 unfold aF.f at hh
 refine go (ts := [(6, none), (7, none)]) (rm := [.val, .val]) (pm := [.skip, .skip, .skip]) Tryz.func233 ?_
 intro Fn LW IN len cast toNat wrap add sub mul bin lt eq At set part app fz' rep nadd nmax ssize sext sget scat seq slt Wide Flat Ones Room r' post' hC hF hr hp
 cbv
 refine bcs (fun f2 => ?_) (fun f2 => ?_)
 replace hh := ifT hh f2
 try rw [f2]
 cbv
 exact Eb
 replace hh := ifF hh f2
 try rw [f2]
 cbv
 refine bcs (fun f4 => ?_) (fun f4 => ?_)
 replace hh := ifT hh f4
 try rw [f4]
 cbv
 replace hh := aa hh
 obtain ⟨h5, hh⟩ := hh
 replace hh := bind_some hh
 obtain ⟨⟨e6a, e6b, e6c⟩, h7, hh⟩ := hh
 try dsimp only at hh
 refine ⟨[iA e6a, iA e6b, tA (qInt e6c)], Nb h5, Gb h7, ?_⟩
 cbv
 replace hh := bind_some hh
 obtain ⟨⟨x9a, x9b, x9c⟩, h8, hh⟩ := hh
 try dsimp only at hh
 have fc := iB hQ h8
 try dsimp only at fc
 refine ac hF fc ?_
 cbv
 exact Eb
 replace hh := ifF hh f4
 try rw [f4]
 cbv
 refine bcs (fun f12 => ?_) (fun f12 => ?_)
 replace hh := ifT hh f12
 try rw [f12]
 cbv
 replace hh := aa hh
 obtain ⟨h13, hh⟩ := hh
 replace hh := bind_some hh
 obtain ⟨⟨e14a, e14b, e14c⟩, h15, hh⟩ := hh
 try dsimp only at hh
 refine ⟨[iA e14a, iA e14b, tA (qInt e14c)], Nb h13, Gb h15, ?_⟩
 cbv
 replace hh := bind_some hh
 obtain ⟨⟨x17a, x17b, x17c⟩, h16, hh⟩ := hh
 try dsimp only at hh
 have fc := iB hQ h16
 try dsimp only at fc
 refine ac hF fc ?_
 cbv
 replace hh := aa hh
 obtain ⟨h19, hh⟩ := hh
 replace hh := aa hh
 obtain ⟨h20, hh⟩ := hh
 replace hh := aa hh
 obtain ⟨h21, hh⟩ := hh
 refine ⟨⟨Nb h19, Nb h20, Nb h21, Ab⟩, ?_⟩
 exact Eb
 replace hh := ifF hh f12
 try rw [f12]
 cbv
 refine bcs (fun f23 => ?_) (fun f23 => ?_)
 replace hh := ifT hh f23
 try rw [f23]
 cbv
 replace hh := bind_some hh
 obtain ⟨o1, hl1, hq1⟩ := hh
 refine aA hC eok mixed (fun n (i : Int × Int × (List Int) × Int) => aF.l0 k p2 n i.1 i.2.1 i.2.2.1 i.2.2.2)
  (fun ⟨s32, s33, s34, s35⟩ => (⟨[(2, tA (qGOcc p2)), (4, .mptr (4, 0) 1 0 0), (39, tA (qGOcc p2)), (40, iA (cast (len (qGOcc p2)))), (41, iA s35)], [((4, 0), .box 1 [iA s32, iA s33, tA (qInt s34)])]⟩ : St))
  (fun (⟨x44, x45, x46⟩ : Int × Int × (List Int)) => (⟨[(2, tA (qGOcc p2)), (4, .mptr (4, 0) 1 0 0)], [((4, 0), .box 1 [iA x44, iA x45, tA (qInt x46)])]⟩ : St)) (fun x => x) (.exit 1)
  (i0 := (_, _, _, _)) hl1 (fun _ => rfl) ?_ ?_ ?_
 ·rintro ⟨t0, t1, t2, t3⟩ e
  refine aj ?_
  cbv
  all_goals exact J4
 rintro ⟨x44, x45, x46⟩ hx
 subst o1
 have hh := hq1
 cbv
 exact Eb
 rintro n ⟨s32, s33, s34, s35⟩ N1 D1 hh hN1 hD1 hQ1
 dsimp only at hh
 unfold aF.l0 at hh
 cbv
 refine bcs (fun f48 => ?_) (fun f48 => ?_)
 replace hh := ifT hh f48
 try rw [f48]
 cbv
 replace hh := aa hh
 obtain ⟨h49, hh⟩ := hh
 replace hh := bind_some hh
 obtain ⟨⟨e50a, e50b, e50c⟩, h51, hh⟩ := hh
 try dsimp only at hh
 refine ⟨[iA e50a, iA e50b, tA (qInt e50c)], Nb h49, Gb h51, ?_⟩
 cbv
 replace hh := bind_some hh
 obtain ⟨⟨x53a, x53b, x53c⟩, h52, hh⟩ := hh
 try dsimp only at hh
 have fc := am.frz (r' := .agg [iA x53a, iA x53b, tA (qInt x53c)]) (iB hQ h52) (by cases hQ; simp)
 try dsimp only at fc
 refine ac hF fc ?_
 cbv
 ·refine hN1 (_, _, _, _) _ hh fun ⟨t0, t1, t2, t3⟩ e => ?_
  refine aj ?_
  cbv
  all_goals exact J4
 replace hh := ifF hh f48
 try rw [f48]
 cbv
 ·refine hD1 (_, _, _) _ hh fun ⟨t0, t1, t2⟩ e => ?_
  refine aj ?_
  cbv
  all_goals exact J3
 replace hh := ifF hh f23
 try rw [f23]
 cbv
 replace hh := bind_some hh
 obtain ⟨o1, hl1, hq1⟩ := hh
 refine aA hC eok mixed (fun n (i : (List GOcc) × Int) => aF.l1 k (⟨p1a, p1b, p1c⟩ : GOcc) p2 n i.1 i.2)
  (fun ⟨s66, s67⟩ => (⟨[(0, iA p0), (2, tA (qGOcc p2)), (4, .mptr (4, 0) 1 0 0), (6, tA (qGOcc s66)), (7, .lit (.slice none 0 0)), (52, tA (qGOcc p2)), (53, iA (cast (len (qGOcc p2)))), (54, iA s67)], [((4, 0), .box 1 [iA p1a, iA p1b, tA (qInt p1c)])]⟩ : St))
  (fun (x79 : List GOcc) => (⟨[(0, iA p0), (2, tA (qGOcc p2)), (6, tA (qGOcc x79)), (7, .lit (.slice none 0 0))], []⟩ : St)) (fun x => x) (.exit 3)
  (i0 := (_, _)) hl1 (fun _ => rfl) ?_ ?_ ?_
 ·rintro ⟨t0, t1⟩ e
  refine aj ?_
  cbv
  all_goals exact J2
 rintro x79 hx
 subst o1
 have hh := hq1
 cbv
 refine bcs (fun f92 => ?_) (fun f92 => ?_)
 replace hh := ifT hh f92
 try rw [f92]
 cbv
 exact Eb
 replace hh := ifF hh f92
 try rw [f92]
 cbv
 exact Eb
 rintro n ⟨s66, s67⟩ N1 D1 hh hN1 hD1 hQ1
 dsimp only at hh
 unfold aF.l1 at hh
 cbv
 refine bcs (fun f81 => ?_) (fun f81 => ?_)
 replace hh := ifT hh f81
 try rw [f81]
 cbv
 replace hh := aa hh
 obtain ⟨h82, hh⟩ := hh
 replace hh := bind_some hh
 obtain ⟨⟨e83a, e83b, e83c⟩, h84, hh⟩ := hh
 try dsimp only at hh
 refine ⟨[iA e83a, iA e83b, tA (qInt e83c)], Nb h82, Gb h84, ?_⟩
 cbv
 replace hh := bind_some hh
 obtain ⟨⟨x86a, x86b, x86c⟩, h85, hh⟩ := hh
 try dsimp only at hh
 have fc := iB hQ h85
 try dsimp only at fc
 refine ac hF fc ?_
 cbv
 replace hh := bind_some hh
 obtain ⟨x89, h88, hh⟩ := hh
 refine ⟨Ob, ?_⟩
 refine ac hF (fT hQ h88) ?_
 cbv
 ·refine hN1 (_, _) _ hh fun ⟨t0, t1⟩ e => ?_
  refine aj ?_
  cbv
  all_goals exact J2
 replace hh := ifF hh f81
 try rw [f81]
 cbv
 ·refine hD1 _ _ hh fun t0 e => ?_
  refine aj ?_
  cbv
  all_goals exact J1

theorem fW {k : Nat} {p0 : List GOcc} {p1 : List GOcc} {r : List GOcc} (hh : a8.f k p0 p1 = some r) : am P 234 [tA (qGOcc p0), tA (qGOcc p1)] [hA, hA] (oA 3 (qGOcc r)) := by
 unfold a8.f at hh
 refine go (ts := [(4, none)]) (rm := [.own]) (pm := [.skip, .skip]) Tryz.func234 ?_
 intro Fn LW IN len cast toNat wrap add sub mul bin lt eq At set part app fz' rep nadd nmax ssize sext sget scat seq slt Wide Flat Ones Room r' post' hC hF hr hp
 cbv
 replace hh := bind_some hh
 obtain ⟨o1, hl1, hq1⟩ := hh
 refine aA hC eok mixed (fun n (i : (List GOcc) × Int) => a8.l0 k p0 p1 n i.1 i.2)
  (fun ⟨s12, s13⟩ => (⟨[(1, tA (qGOcc p1)), (5, .ref (5, 50) 1 0 (len (qGOcc s12))), (10, tA (qGOcc p0)), (11, iA (cast (len (qGOcc p0)))), (12, iA s13)], [((5, 50), .arr 1 3 (qGOcc s12))]⟩ : St))
  (fun (x25 : List GOcc) => (⟨[(5, .ref (5, 50) 1 0 (len (qGOcc x25)))], [((5, 50), .arr 1 3 (qGOcc x25))]⟩ : St)) (fun x => x) (.exit 0)
  (i0 := (_, _)) hl1 (fun _ => rfl) ?_ ?_ ?_
 ·rintro ⟨t0, t1⟩ e
  refine az [] ?_
  cbv
  all_goals exact J2
 rintro x25 hx
 subst o1
 have hh := hq1
 cbv
 exact Eb
 rintro n ⟨s12, s13⟩ N1 D1 hh hN1 hD1 hQ1
 dsimp only at hh
 unfold a8.l0 at hh
 cbv
 refine bcs (fun f27 => ?_) (fun f27 => ?_)
 replace hh := ifT hh f27
 try rw [f27]
 cbv
 replace hh := aa hh
 obtain ⟨h28, hh⟩ := hh
 replace hh := bind_some hh
 obtain ⟨⟨e29a, e29b, e29c⟩, h30, hh⟩ := hh
 try dsimp only at hh
 refine ⟨[iA e29a, iA e29b, tA (qInt e29c)], Nb h28, Gb h30, ?_⟩
 cbv
 replace hh := bind_some hh
 obtain ⟨⟨x32_0, x32_1⟩, h31, hh⟩ := hh
 try dsimp only at hh
 refine ac hF (dh hQ (g2 := fun y0 y1 => cq.f k y0 y1) (fun h => ii hQ h) h31) ?_
 cbv
 replace hh := ak hh
 rcases hh with ⟨b34, hh⟩ | ⟨b34, hh⟩
 have f35 : x32_1 = true := Tb b34
 have g := f35; cbv at g; try rw [f35]
 try rw [g]
 cbv
 ·refine hN1 (_, _) _ hh fun ⟨t0, t1⟩ e => ?_
  refine aj ?_
  cbv
  all_goals exact J2
 have f35 : x32_1 = false := Fb b34
 have g := f35; cbv at g; try rw [f35]
 try rw [g]
 cbv
 replace hh := aa hh
 obtain ⟨h36, hh⟩ := hh
 refine ⟨⟨Ob, Ab⟩, ?_⟩
 refine ⟨⟨Ob, Wb h36⟩, ?_⟩
 ·refine hN1 (_, _) _ hh fun ⟨t0, t1⟩ e => ?_
  refine az [((5, 50), (27, 0))] ?_
  cbv
  all_goals exact J2
 replace hh := ifF hh f27
 try rw [f27]
 cbv
 ·refine hD1 _ _ hh fun t0 e => ?_
  refine aj ?_
  cbv
  all_goals exact J1

theorem ma {k : Nat} {p0 : Int} {p1 : List GOcc} {p2 : GOcc} {p3 : Bool} {r : List GOcc} (hh : dL.f k p0 p1 p2 p3 = some r) : am P 235 [iA p0, tA (qGOcc p1), .agg [iA p2.From, iA p2.To, tA (qInt p2.Ids)], bA p3] [hA, hA, hA, hA] (tA (qGOcc r)) := by
 obtain ⟨p2a, p2b, p2c⟩ := p2
 unfold dL.f at hh
 refine go (ts := [(8, none)]) (rm := [.val]) (pm := [.skip, .skip, .skip, .skip]) Tryz.func235 ?_
 intro Fn LW IN len cast toNat wrap add sub mul bin lt eq At set part app fz' rep nadd nmax ssize sext sget scat seq slt Wide Flat Ones Room r' post' hC hF hr hp
 cbv
 refine bcs (fun f2 => ?_) (fun f2 => ?_)
 replace hh := ifT hh f2
 try rw [f2]
 cbv
 exact Eb
 replace hh := ifF hh f2
 try rw [f2]
 cbv
 refine bcs (fun f4 => ?_) (fun f4 => ?_)
 replace hh := ifT hh f4
 try rw [f4]
 cbv
 replace hh := bind_some hh
 obtain ⟨x6, h5, hh⟩ := hh
 refine ac hF (fT hQ h5) ?_
 cbv
 exact Eb
 replace hh := ifF hh f4
 try rw [f4]
 cbv
 refine bcs (fun f9 => ?_) (fun f9 => ?_)
 replace hh := ifT hh f9
 try rw [f9]
 cbv
 replace hh := bind_some hh
 obtain ⟨x11, h10, hh⟩ := hh
 refine ac hF (fT hQ h10) ?_
 cbv
 exact Eb
 replace hh := ifF hh f9
 try rw [f9]
 cbv
 exact Eb

theorem jS {k : Nat} {p0 : aP} {p1 : Int} {p2 : List GOcc} {p3 : List GOcc} {r : aP × (List GOcc)} (hh : aV.f k p0 p1 p2 p3 = some r) : am P 197 [.agg [tA (qGOcc p0.Left), tA (qGOcc p0.Right)], iA p1, tA (qGOcc p2), tA (qGOcc p3)] [hA, hA, hA, hA] (.tup [.agg [tA (qGOcc r.1.Left), tA (qGOcc r.1.Right)], tA (qGOcc r.2)]) := by
 obtain ⟨p0a, p0b⟩ := p0
 unfold aV.f at hh
 refine go (ts := [(8, some 171), (9, none)]) (rm := [.val, .val]) (pm := [.skip, .skip, .skip, .skip]) Tryz.func197 ?_
 intro Fn LW IN len cast toNat wrap add sub mul bin lt eq At set part app fz' rep nadd nmax ssize sext sget scat seq slt Wide Flat Ones Room r' post' hC hF hr hp
 cbv
 replace hh := bind_some hh
 obtain ⟨o1, hl1, hq1⟩ := hh
 refine aA hC eok mixed (fun n (i : (List GOcc) × (List GOcc) × (List GOcc) × Int) => aV.l0 k p1 p2 n i.1 i.2.1 i.2.2.1 i.2.2.2)
  (fun ⟨s18, s19, s20, s21⟩ => (⟨[(1, iA p1), (3, tA (qGOcc p3)), (4, .mptr (4, 0) 1 0 0), (8, .mptr (8, 0) 1 0 0), (10, tA (qGOcc s20)), (19, tA (qGOcc p2)), (20, iA (cast (len (qGOcc p2)))), (21, iA s21)], [((4, 0), .box 1 [tA (qGOcc s18), tA (qGOcc s19)]), ((8, 0), .box 1 [.lit (.slice none 0 0), .lit (.slice none 0 0)])]⟩ : St))
  (fun (⟨x39, x40, x41⟩ : (List GOcc) × (List GOcc) × (List GOcc)) => (⟨[(1, iA p1), (3, tA (qGOcc p3)), (4, .mptr (4, 0) 1 0 0), (8, .mptr (8, 0) 1 0 0), (10, tA (qGOcc x41))], [((4, 0), .box 1 [tA (qGOcc x39), tA (qGOcc x40)]), ((8, 0), .box 1 [.lit (.slice none 0 0), .lit (.slice none 0 0)])]⟩ : St)) (fun x => x) (.exit 0)
  (i0 := (_, _, _, _)) hl1 (fun _ => rfl) ?_ ?_ ?_
 ·rintro ⟨t0, t1, t2, t3⟩ e
  refine aj ?_
  cbv
  all_goals exact J4
 rintro ⟨x39, x40, x41⟩ hx
 subst o1
 have hh := hq1
 cbv
 replace hh := bind_some hh
 obtain ⟨o1, hl1, hq1⟩ := hh
 refine aA hC eok mixed (fun n (i : (List GOcc) × (List GOcc) × (List GOcc) × Int) => aV.l1 k p1 p3 n i.1 i.2.1 i.2.2.1 i.2.2.2)
  (fun ⟨s76, s77, s78, s79⟩ => (⟨[(1, iA p1), (4, .mptr (4, 0) 1 0 0), (8, .mptr (8, 0) 1 0 0), (10, tA (qGOcc s78)), (51, tA (qGOcc p3)), (52, iA (cast (len (qGOcc p3)))), (53, iA s79)], [((4, 0), .box 1 [tA (qGOcc s76), tA (qGOcc s77)]), ((8, 0), .box 1 [.lit (.slice none 0 0), .lit (.slice none 0 0)])]⟩ : St))
  (fun (⟨x97, x98, x99⟩ : (List GOcc) × (List GOcc) × (List GOcc)) => (⟨[(4, .mptr (4, 0) 1 0 0), (8, .mptr (8, 0) 1 0 0), (10, tA (qGOcc x99))], [((4, 0), .box 1 [tA (qGOcc x97), tA (qGOcc x98)]), ((8, 0), .box 1 [.lit (.slice none 0 0), .lit (.slice none 0 0)])]⟩ : St)) (fun x => x) (.exit 2)
  (i0 := (_, _, _, _)) hl1 (fun _ => rfl) ?_ ?_ ?_
 ·rintro ⟨t0, t1, t2, t3⟩ e
  refine aj ?_
  cbv
  all_goals exact J4
 rintro ⟨x97, x98, x99⟩ hx
 subst o1
 have hh := hq1
 cbv
 exact Eb
 rintro n ⟨s76, s77, s78, s79⟩ N1 D1 hh hN1 hD1 hQ1
 dsimp only at hh
 unfold aV.l1 at hh
 cbv
 refine bcs (fun f101 => ?_) (fun f101 => ?_)
 replace hh := ifT hh f101
 try rw [f101]
 cbv
 replace hh := aa hh
 obtain ⟨h102, hh⟩ := hh
 replace hh := bind_some hh
 obtain ⟨⟨e103a, e103b, e103c⟩, h104, hh⟩ := hh
 try dsimp only at hh
 refine ⟨[iA e103a, iA e103b, tA (qInt e103c)], Nb h102, Gb h104, ?_⟩
 cbv
 replace hh := bind_some hh
 obtain ⟨⟨x106_0, x106_1⟩, h105, hh⟩ := hh
 try dsimp only at hh
 have fc := eV hQ h105
 try dsimp only at fc
 refine ac hF fc ?_
 cbv
 replace hh := bind_some hh
 obtain ⟨x109, h108, hh⟩ := hh
 refine ac hF (bX hQ h108) ?_
 cbv
 replace hh := bind_some hh
 obtain ⟨x112, h111, hh⟩ := hh
 refine ac hF (am.frz (r' := tA (qGOcc x112)) (fW hQ h111) (by cases hQ; simp)) ?_
 cbv
 replace hh := bind_some hh
 obtain ⟨x115, h114, hh⟩ := hh
 refine ac hF (ma hQ h114) ?_
 cbv
 ·refine hN1 (_, _, _, _) _ hh fun ⟨t0, t1, t2, t3⟩ e => ?_
  refine aj ?_
  cbv
  all_goals exact J4
 replace hh := ifF hh f101
 try rw [f101]
 cbv
 ·refine hD1 (_, _, _) _ hh fun ⟨t0, t1, t2⟩ e => ?_
  refine aj ?_
  cbv
  all_goals exact J3
 rintro n ⟨s18, s19, s20, s21⟩ N1 D1 hh hN1 hD1 hQ1
 dsimp only at hh
 unfold aV.l0 at hh
 cbv
 refine bcs (fun f43 => ?_) (fun f43 => ?_)
 replace hh := ifT hh f43
 try rw [f43]
 cbv
 replace hh := aa hh
 obtain ⟨h44, hh⟩ := hh
 replace hh := bind_some hh
 obtain ⟨⟨e45a, e45b, e45c⟩, h46, hh⟩ := hh
 try dsimp only at hh
 refine ⟨[iA e45a, iA e45b, tA (qInt e45c)], Nb h44, Gb h46, ?_⟩
 cbv
 replace hh := bind_some hh
 obtain ⟨⟨x48_0, x48_1⟩, h47, hh⟩ := hh
 try dsimp only at hh
 have fc := eV hQ h47
 try dsimp only at fc
 refine ac hF fc ?_
 cbv
 replace hh := bind_some hh
 obtain ⟨x51, h50, hh⟩ := hh
 refine ac hF (bX hQ h50) ?_
 cbv
 replace hh := bind_some hh
 obtain ⟨x54, h53, hh⟩ := hh
 refine ac hF (am.frz (r' := tA (qGOcc x54)) (fW hQ h53) (by cases hQ; simp)) ?_
 cbv
 replace hh := bind_some hh
 obtain ⟨x57, h56, hh⟩ := hh
 refine ac hF (ma hQ h56) ?_
 cbv
 ·refine hN1 (_, _, _, _) _ hh fun ⟨t0, t1, t2, t3⟩ e => ?_
  refine aj ?_
  cbv
  all_goals exact J4
 replace hh := ifF hh f43
 try rw [f43]
 cbv
 ·refine hD1 (_, _, _) _ hh fun ⟨t0, t1, t2⟩ e => ?_
  refine aj ?_
  cbv
  all_goals exact J3

theorem m7 {p0 : GOcc} {c0 : GOcc} {r : Bool} (hh : dF.f p0 c0 = some r) : am P 236 [.agg [iA p0.From, iA p0.To, tA (qInt p0.Ids)], .iptr [iA c0.From, iA c0.To, tA (qInt c0.Ids)] 0] [hA, hA] (bA r) := by
 obtain ⟨p0a, p0b, p0c⟩ := p0
 obtain ⟨c0a, c0b, c0c⟩ := c0
 unfold dF.f at hh
 refine go (ts := [(3, none)]) (rm := [.own]) (pm := [.skip, .skip]) Tryz.func236 ?_
 intro Fn LW IN len cast toNat wrap add sub mul bin lt eq At set part app fz' rep nadd nmax ssize sext sget scat seq slt Wide Flat Ones Room r' post' hC hF hr hp
 cbv
 exact Eb

end Go.Proofs.YtlbnmldopjadoaaGreat
