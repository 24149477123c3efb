/- The functions of this program do what the plain ones do. -/
import Derived.Test.YtlbnmldopjadoaaGreatC2
namespace Go.Proofs.YtlbnmldopjadoaaGreat
open Go Go.Vm
set_option linter.unusedVariables false
set_option maxHeartbeats 4000000
set_option maxRecDepth 4000
variable {qIu8 : List Int → Vm.Rows} {qGCall : List av → Vm.Rows} {qInt : List Int → Vm.Rows} {qGEx : List GEx → Vm.Rows} {qGRule : List GRule → Vm.Rows} {qGExO : List GEx → Vm.Rows} {qGOcc : List GOcc → Vm.Rows} {qGNode : List GNode → Vm.Rows} {qGGraphS : List GGraph → Vm.Rows} {qGGraph : List GGraph → Vm.Rows} {qGEv : List GEv → Vm.Rows} {qGFire : List aH → Vm.Rows} {qLGOcc : List (List GOcc) → Vm.Rows} {qGOccO : List GOcc → Vm.Rows} {qLInt : List (List Int) → Vm.Rows} (hQ : EQ qIu8 qGCall qInt qGEx qGRule qGExO qGOcc qGNode qGGraphS qGGraph qGEv qGFire qLGOcc qGOccO qLInt)
include hQ
theorem gU {k : Nat} {p0 : GSpan} {p1 : Int} {p2 : List GOcc} {p3 : List GOcc} {p4 : List GOcc} {r : GSpan × (List GOcc)} (hh : bY.f k p0 p1 p2 p3 p4 = some r) : ag P 201 [.agg [tA (qGOcc p0.Left), tA (qGOcc p0.Mid)], iA p1, tA (qGOcc p2), tA (qGOcc p3), tA (qGOcc p4)] [hA, hA, hA, hA, hA] (.tup [.agg [tA (qGOcc r.1.Left), tA (qGOcc r.1.Mid)], tA (qGOcc r.2)]) := by
 obtain ⟨p0a, p0b⟩ := p0
 unfold bY.f at hh
 refine go (ts := [(10, some 173), (11, none)]) (rm := [.val, .val]) (pm := [.skip, .skip, .skip, .skip, .skip]) Tryz.func201 ?_
 intro Fn LW IN len cast toNat wrap add sub mul bin lt eq At set part app fz' rep nadd nmax ssize sext sget scat seq slt Wide Flat Ones Room r' post' hC hF hr hp
 cbv
 replace hh := bind_some hh
 obtain ⟨o1, hl1, hq1⟩ := hh
 refine ap hC eok mixed (fun n (i : (List GOcc) × Int) => bY.l0 k (⟨p0a, p0b⟩ : GSpan) p1 p3 n i.1 i.2)
  (fun ⟨s15, s16⟩ => (⟨[(1, iA p1), (2, tA (qGOcc p2)), (4, tA (qGOcc p4)), (5, .mptr (5, 0) 1 0 0), (10, .mptr (10, 0) 1 0 0), (12, tA (qGOcc s15)), (17, tA (qGOcc p3)), (18, iA (cast (len (qGOcc p3)))), (19, iA s16)], [((5, 0), .box 1 [tA (qGOcc p0a), tA (qGOcc p0b)]), ((10, 0), .box 1 [.lit (.slice none 0 0), .lit (.slice none 0 0)])]⟩ : St))
  (fun (x31 : List GOcc) => (⟨[(2, tA (qGOcc p2)), (4, tA (qGOcc p4)), (5, .mptr (5, 0) 1 0 0), (10, .mptr (10, 0) 1 0 0), (12, tA (qGOcc x31))], [((5, 0), .box 1 [tA (qGOcc p0a), tA (qGOcc p0b)]), ((10, 0), .box 1 [.lit (.slice none 0 0), .lit (.slice none 0 0)])]⟩ : St)) (fun x => x) (.exit 0)
  (i0 := (_, _)) hl1 (fun _ => rfl) ?_ ?_ ?_
 ·rintro ⟨t0, t1⟩ e
  refine ah ?_
  cbv
  all_goals exact J2
 rintro x31 hx
 subst o1
 have hh := hq1
 cbv
 replace hh := bind_some hh
 obtain ⟨x47, h46, hh⟩ := hh
 refine ae hF (bG hQ h46) ?_
 cbv
 replace hh := bind_some hh
 obtain ⟨x50, h49, hh⟩ := hh
 refine ae hF (bG hQ h49) ?_
 cbv
 exact Eb
 rintro n ⟨s15, s16⟩ N1 D1 hh hN1 hD1 hQ1
 try dsimp only at hh
 unfold bY.l0 at hh
 cbv
 refine bcs (fun f33 => ?_) (fun f33 => ?_)
 replace hh := ifT hh f33
 try rw [f33]
 cbv
 replace hh := aa hh
 obtain ⟨h34, hh⟩ := hh
 replace hh := bind_some hh
 obtain ⟨⟨e35a, e35b, e35c⟩, h36, hh⟩ := hh
 try dsimp only at hh
 refine ⟨[iA e35a, iA e35b, tA (qInt e35c)], Nb h34, Gb h36, ?_⟩
 cbv
 replace hh := bind_some hh
 obtain ⟨x38, h37, hh⟩ := hh
 refine ae hF (gY hQ h37) ?_
 cbv
 replace hh := bind_some hh
 obtain ⟨⟨x41_0, x41_1⟩, h40, hh⟩ := hh
 try dsimp only at hh
 refine ⟨Ob, ?_⟩
 have fc := dN hQ h40
 try dsimp only at fc
 refine ae hF fc ?_
 cbv
 replace hh := bind_some hh
 obtain ⟨x44, h43, hh⟩ := hh
 refine ae hF (bG hQ h43) ?_
 cbv
 ·refine hN1 (_, _) _ hh fun ⟨t0, t1⟩ e => ?_
  refine ah ?_
  cbv
  all_goals exact J2
 replace hh := ifF hh f33
 try rw [f33]
 cbv
 ·refine hD1 _ _ hh fun t0 e => ?_
  refine ah ?_
  cbv
  all_goals exact J1

theorem ka {p0 : GOcc} {p1 : Int} {r : GOcc} (hh : gL.f p0 p1 = some r) : ag P 202 [.agg [iA p0.From, iA p0.To, tA (qInt p0.Ids)], iA p1] [hA, hA] (.agg [iA r.From, iA r.To, oA 1 (qInt r.Ids)]) := by
 obtain ⟨p0a, p0b, p0c⟩ := p0
 unfold gL.f at hh
 refine go (ts := [(4, some 67)]) (rm := [.own]) (pm := [.skip, .skip]) Tryz.func202 ?_
 intro Fn LW IN len cast toNat wrap add sub mul bin lt eq At set part app fz' rep nadd nmax ssize sext sget scat seq slt Wide Flat Ones Room r' post' hC hF hr hp
 cbv
 replace hh := bind_some hh
 obtain ⟨⟨x2a, x2b, x2c⟩, h1, hh⟩ := hh
 try dsimp only at hh
 have fc := fm hQ h1
 try dsimp only at fc
 refine ae hF fc ?_
 cbv
 exact Eb

theorem ir {k : Nat} {p0 : GGraph} {p1 : Int} {r : (List GOcc) × GGraph} (hh : ak.f k p0 p1 = some r) : ag P 130 [.obox [iA p0.Mode, oA 10 (qGNode p0.Nodes), iA p0.Seen, iA p0.Now, bA p0.Full], iA p1, .lit (.pointer none)] [.obox [iA r.2.Mode, oA 10 (qGNode r.2.Nodes), iA r.2.Seen, iA r.2.Now, bA r.2.Full], hA, hA] (tA (qGOcc r.1)) := by
 obtain ⟨p0a, p0b, p0c, p0d, p0e⟩ := p0
 unfold ak.f at hh
 refine goG (g := []) (i := [185]) (o := [216]) (sh := []) (ts := [(6, none)]) (rm := [.val]) (pm := [.own, .skip, .skip]) Tryz.func130 ?_
 intro Fn LW IN len cast toNat wrap add sub mul bin lt eq At set part app fz' rep nadd nmax ssize sext sget scat seq slt Wide Flat Ones Room r' post' hC hF hr hp
 cbv
 replace hh := bind_some hh
 obtain ⟨o1, hl1, hq1⟩ := hh
 refine ap hC (bN [] [185] [216]) mixed (fun n (i : (List GNode) × Bool × (List (List GOcc)) × Int) => ak.l1 k (⟨p0a, p0b, p0c, p0d, p0e⟩ : GGraph) p1 n i.1 i.2.1 i.2.2.1 i.2.2.2)
  (fun ⟨s52, s53, s54, s55⟩ => (⟨[(0, .mptr (0, 0) 1 0 0), (1, iA p1), (2, .lit (.pointer none)), (7, .ref (7, 50) 1 0 (len (qLGOcc s54))), (15, iA (cast (len (qGNode p0b)))), (16, iA s55), (1000000, .mptr (0, 0) 1 0 0)], [((0, 0), .box 1 [iA p0a, .ref (14, 0) 1 0 (len (qGNode s52)), iA p0c, iA p0d, bA s53]), ((7, 50), .arr 1 1 (qLGOcc s54)), ((14, 0), .arr 1 10 (qGNode s52))]⟩ : St))
  (fun (⟨x251, x252, x253⟩ : (List (List GOcc)) × (List GNode) × Bool) => (⟨[(7, .ref (7, 50) 1 0 (len (qLGOcc x251))), (1000000, .mptr (0, 0) 1 0 0)], [((0, 0), .box 1 [iA p0a, .ref (14, 0) 1 0 (len (qGNode x252)), iA p0c, iA p0d, bA x253]), ((7, 50), .arr 1 1 (qLGOcc x251)), ((14, 0), .arr 1 10 (qGNode x252))]⟩ : St)) (fun x => x) (.exit 0)
  (i0 := (_, _, _, _)) hl1 (fun _ => rfl) ?_ ?_ ?_
 ·rintro ⟨t0, t1, t2, t3⟩ e
  refine aq [((0, 0), (0, 0)), ((14, 0), (14, 0))] ?_
  cbv
  all_goals exact J4
 rintro ⟨x251, x252, x253⟩ hx
 subst o1
 have hh := hq1
 cbv
 replace hh := aa hh
 obtain ⟨h449, hh⟩ := hh
 replace hh := aa hh
 obtain ⟨h450, hh⟩ := hh
 refine ⟨Nb h449, Mb h450, ?_⟩
 replace hh := bind_some hh
 obtain ⟨e451, h452, hh⟩ := hh
 refine ⟨[tA (qGOcc e451)], Gb h452, ?_⟩
 cbv
 exact Eb
 rintro n ⟨s52, s53, s54, s55⟩ N1 D1 hh hN1 hD1 hQ1
 try dsimp only at hh
 unfold ak.l1 at hh
 cbv
 refine bcs (fun f255 => ?_) (fun f255 => ?_)
 replace hh := ifT hh f255
 try rw [f255]
 cbv
 replace hh := aa hh
 obtain ⟨h256, hh⟩ := hh
 replace hh := aa hh
 obtain ⟨h257, hh⟩ := hh
 refine ⟨Nb h256, Mb h257, ?_⟩
 refine qp hC (bN [] [185] [216]) mixed (ts := [(10, none)]) (⟨[(0, .mptr (1014, 0) 1 (nadd 0 (toNat s55)) 0), (1, .mptr (1000, 0) 1 0 0), (2, iA p1), (3, .lit (.pointer none)), (4, .ref (1007, 50) 1 0 (len (qLGOcc s54))), (2000000, .mptr (1000, 0) 1 0 0), (2000001, iA p1), (2000002, .lit (.pointer none)), (2000007, .ref (1007, 50) 1 0 (len (qLGOcc s54))), (2000009, .mptr (1014, 0) 1 (nadd 0 (toNat s55)) 0), (2000015, iA (cast (len (qGNode p0b)))), (2000016, iA s55), (3000000, .mptr (1000, 0) 1 0 0)], [((1000, 0), .box 1 [iA p0a, .ref (1014, 0) 1 0 (len (qGNode s52)), iA p0c, iA p0d, bA s53]), ((1007, 50), .arr 1 1 (qLGOcc s54)), ((1014, 0), .arr 1 10 (qGNode s52))]⟩ : St) Tryz.func185 (by kernel_rfl) (by kernel_rfl) ?_ ?_
 ·refine aq [((1000, 0), (0, 0)), ((1007, 50), (7, 50)), ((1014, 0), (14, 0))] ?_
  cbv
  all_goals exact Zb
 cbv
 replace hh := bind_some hh
 obtain ⟨⟨e258a, e258b, e258c, e258d, ⟨e258e, e258f⟩, ⟨e258g, e258h⟩, e258i, e258j⟩, h259, hh⟩ := hh
 try dsimp only at hh
 refine ⟨[iA e258a, iA e258b, iA e258c, tA (qInt e258d), tA (qGOcc e258e), tA (qGOcc e258f), tA (qGOcc e258g), tA (qGOcc e258h), tA (qGOcc e258i), iA e258j], Gb h259, ?_⟩
 cbv
 refine bcs (fun f261 => ?_) (fun f261 => ?_)
 replace hh := ifT hh f261
 try rw [f261]
 cbv
 refine ⟨⟨(⟨[(0, .mptr (0, 0) 1 0 0), (1, iA p1), (2, .lit (.pointer none)), (7, .ref (7, 50) 1 0 (len (qLGOcc s54))), (9, .mptr (14, 0) 1 (nadd 0 (toNat s55)) 0), (15, iA (cast (len (qGNode p0b)))), (16, iA s55), (30, .lit (.slice none 0 0)), (1000000, .mptr (0, 0) 1 0 0)], [((0, 0), .box 1 [iA p0a, .ref (14, 0) 1 0 (len (qGNode s52)), iA p0c, iA p0d, bA s53]), ((7, 50), .arr 1 1 (qLGOcc s54)), ((14, 0), .arr 1 10 (qGNode s52))]⟩ : St), ?_, ?_⟩, trivial⟩
 ·refine aq [((0, 0), (1000, 0)), ((7, 50), (1007, 50)), ((14, 0), (1014, 0))] ?_
  cbv
  all_goals exact Zb
 cbv
 refine ⟨none, ?_⟩; try cbv
 replace hh := aa hh
 obtain ⟨h262, hh⟩ := hh
 refine ⟨⟨Ob, Ab⟩, ?_⟩
 refine ⟨⟨Ob, Wb h262⟩, ?_⟩
 refine ⟨[iA e258a, iA e258b, iA e258c, tA (qInt e258d), tA (qGOcc e258e), tA (qGOcc e258f), tA (qGOcc e258g), tA (qGOcc e258h), tA (qGOcc e258i), iA e258j], Gb h259, ?_⟩
 cbv
 refine ⟨[iA e258a, iA e258b, iA e258c, tA (qInt e258d), tA (qGOcc e258e), tA (qGOcc e258f), tA (qGOcc e258g), tA (qGOcc e258h), tA (qGOcc e258i), iA e258j], Gb h259, ?_⟩
 cbv
 refine bcs (fun f264 => ?_) (fun f264 => ?_)
 replace hh := ifT hh f264
 try rw [f264]
 cbv
 ·refine hN1 (_, _, _, _) _ hh fun ⟨t0, t1, t2, t3⟩ e => ?_
  refine aq [((0, 0), (0, 0)), ((7, 50), (34, 0)), ((14, 0), (14, 0))] ?_
  cbv
  all_goals exact J4
 replace hh := ifF hh f264
 try rw [f264]
 cbv
 refine ⟨[iA e258a, iA e258b, iA e258c, tA (qInt e258d), tA (qGOcc e258e), tA (qGOcc e258f), tA (qGOcc e258g), tA (qGOcc e258h), tA (qGOcc e258i), iA (wrap .i64 (add e258j 0))], Gb2 h259 ((List.getElem?_eq_some_iff.1 h259).1), ?_⟩
 cbv
 ·refine hN1 (_, _, _, _) _ hh fun ⟨t0, t1, t2, t3⟩ e => ?_
  refine aq [((0, 0), (0, 0)), ((7, 50), (34, 0)), ((14, 0), (14, 0))] ?_
  cbv
  all_goals exact J4
 replace hh := ifF hh f261
 try rw [f261]
 cbv
 refine bcs (fun f266 => ?_) (fun f266 => ?_)
 replace hh := ifT hh f266
 try rw [f266]
 cbv
 replace hh := aa hh
 obtain ⟨h267, hh⟩ := hh
 replace hh := bind_some hh
 obtain ⟨e268, h269, hh⟩ := hh
 replace hh := aa hh
 obtain ⟨h270, hh⟩ := hh
 replace hh := aa hh
 obtain ⟨h271, hh⟩ := hh
 replace hh := bind_some hh
 obtain ⟨e272, h273, hh⟩ := hh
 refine ⟨[(5, 0), (9, 0), (1007, 50), (1014, 0)], ?_⟩
 cbv
 refine ⟨tA (qGOcc e272), ?_, ?_⟩
 ·refine cg hC (bN [] [185] [216]) mixed (ts := [(4, none)]) Tryz.func216 (by kernel_rfl) (by kernel_rfl) ?_
  intro S N
  cbv
  refine ⟨[iA e258a, iA e258b, iA e258c, tA (qInt e258d), tA (qGOcc e258e), tA (qGOcc e258f), tA (qGOcc e258g), tA (qGOcc e258h), tA (qGOcc e258i), iA e258j], Gb h259, ?_⟩
  cbv
  refine ⟨[iA e268], Nb h267, Gb h269, ?_⟩
  cbv
  refine ⟨Nb h270, Mb h271, ?_⟩
  refine ⟨[tA (qGOcc e272)], Gb h273, ?_⟩
  cbv
  exact Rb
 cbv
 replace hh := aa hh
 obtain ⟨h274, hh⟩ := hh
 replace hh := bind_some hh
 obtain ⟨e275, h276, hh⟩ := hh
 replace hh := aa hh
 obtain ⟨h277, hh⟩ := hh
 replace hh := aa hh
 obtain ⟨h278, hh⟩ := hh
 replace hh := bind_some hh
 obtain ⟨e279, h280, hh⟩ := hh
 refine ⟨[(5, 0), (9, 0), (1007, 50), (1014, 0)], ?_⟩
 cbv
 refine ⟨tA (qGOcc e279), ?_, ?_⟩
 ·refine cg hC (bN [] [185] [216]) mixed (ts := [(4, none)]) Tryz.func216 (by kernel_rfl) (by kernel_rfl) ?_
  intro S N
  cbv
  refine ⟨[iA e258a, iA e258b, iA e258c, tA (qInt e258d), tA (qGOcc e258e), tA (qGOcc e258f), tA (qGOcc e258g), tA (qGOcc e258h), tA (qGOcc e258i), iA e258j], Gb h259, ?_⟩
  cbv
  refine ⟨[iA e275], Nb h274, Gb h276, ?_⟩
  cbv
  refine ⟨Nb h277, Mb h278, ?_⟩
  refine ⟨[tA (qGOcc e279)], Gb h280, ?_⟩
  cbv
  exact Rb
 cbv
 replace hh := bind_some hh
 obtain ⟨x282, h281, hh⟩ := hh
 refine ae hF (bG hQ h281) ?_
 cbv
 refine ⟨⟨(⟨[(0, .mptr (0, 0) 1 0 0), (1, iA p1), (2, .lit (.pointer none)), (7, .ref (7, 50) 1 0 (len (qLGOcc s54))), (9, .mptr (14, 0) 1 (nadd 0 (toNat s55)) 0), (15, iA (cast (len (qGNode p0b)))), (16, iA s55), (30, tA (qGOcc x282)), (1000000, .mptr (0, 0) 1 0 0)], [((0, 0), .box 1 [iA p0a, .ref (14, 0) 1 0 (len (qGNode s52)), iA p0c, iA p0d, bA s53]), ((7, 50), .arr 1 1 (qLGOcc s54)), ((14, 0), .arr 1 10 (qGNode s52))]⟩ : St), ?_, ?_⟩, trivial⟩
 ·refine aq [((0, 0), (1000, 0)), ((7, 50), (1007, 50)), ((14, 0), (1014, 0))] ?_
  cbv
  all_goals exact Zb
 cbv
 replace hh := aa hh
 obtain ⟨h284, hh⟩ := hh
 refine ⟨⟨Ob, Ab⟩, ?_⟩
 refine ⟨⟨Ob, Wb h284⟩, ?_⟩
 refine ⟨[iA e258a, iA e258b, iA e258c, tA (qInt e258d), tA (qGOcc e258e), tA (qGOcc e258f), tA (qGOcc e258g), tA (qGOcc e258h), tA (qGOcc e258i), iA e258j], Gb h259, ?_⟩
 cbv
 refine ⟨[iA e258a, iA e258b, iA e258c, tA (qInt e258d), tA (qGOcc e258e), tA (qGOcc e258f), tA (qGOcc e258g), tA (qGOcc e258h), tA (qGOcc e258i), iA e258j], Gb h259, ?_⟩
 cbv
 refine bcs (fun f286 => ?_) (fun f286 => ?_)
 replace hh := ifT hh f286
 try rw [f286]
 cbv
 ·refine hN1 (_, _, _, _) _ hh fun ⟨t0, t1, t2, t3⟩ e => ?_
  refine aq [((0, 0), (0, 0)), ((7, 50), (34, 0)), ((14, 0), (14, 0))] ?_
  cbv
  all_goals exact J4
 replace hh := ifF hh f286
 try rw [f286]
 cbv
 refine ⟨[iA e258a, iA e258b, iA e258c, tA (qInt e258d), tA (qGOcc e258e), tA (qGOcc e258f), tA (qGOcc e258g), tA (qGOcc e258h), tA (qGOcc e258i), iA (wrap .i64 (add e258j (cast (len (qGOcc x282)))))], Gb2 h259 ((List.getElem?_eq_some_iff.1 h259).1), ?_⟩
 cbv
 ·refine hN1 (_, _, _, _) _ hh fun ⟨t0, t1, t2, t3⟩ e => ?_
  refine aq [((0, 0), (0, 0)), ((7, 50), (34, 0)), ((14, 0), (14, 0))] ?_
  cbv
  all_goals exact J4
 replace hh := ifF hh f266
 try rw [f266]
 cbv
 refine bcs (fun f288 => ?_) (fun f288 => ?_)
 replace hh := ifT hh f288
 try rw [f288]
 cbv
 refine ⟨[iA e258a, iA e258b, iA e258c, tA (qInt e258d), tA (qGOcc e258e), tA (qGOcc e258f), tA (qGOcc e258g), tA (qGOcc e258h), tA (qGOcc e258i), iA e258j], Gb h259, ?_⟩
 cbv
 replace hh := aa hh
 obtain ⟨h289, hh⟩ := hh
 replace hh := bind_some hh
 obtain ⟨e290, h291, hh⟩ := hh
 replace hh := aa hh
 obtain ⟨h292, hh⟩ := hh
 replace hh := aa hh
 obtain ⟨h293, hh⟩ := hh
 replace hh := bind_some hh
 obtain ⟨e294, h295, hh⟩ := hh
 refine ⟨[(5, 0), (9, 0), (1007, 50), (1014, 0)], ?_⟩
 cbv
 refine ⟨tA (qGOcc e294), ?_, ?_⟩
 ·refine cg hC (bN [] [185] [216]) mixed (ts := [(4, none)]) Tryz.func216 (by kernel_rfl) (by kernel_rfl) ?_
  intro S N
  cbv
  refine ⟨[iA e258a, iA e258b, iA e258c, tA (qInt e258d), tA (qGOcc e258e), tA (qGOcc e258f), tA (qGOcc e258g), tA (qGOcc e258h), tA (qGOcc e258i), iA e258j], Gb h259, ?_⟩
  cbv
  refine ⟨[iA e290], Nb h289, Gb h291, ?_⟩
  cbv
  refine ⟨Nb h292, Mb h293, ?_⟩
  refine ⟨[tA (qGOcc e294)], Gb h295, ?_⟩
  cbv
  exact Rb
 cbv
 replace hh := aa hh
 obtain ⟨h296, hh⟩ := hh
 replace hh := bind_some hh
 obtain ⟨e297, h298, hh⟩ := hh
 replace hh := aa hh
 obtain ⟨h299, hh⟩ := hh
 replace hh := aa hh
 obtain ⟨h300, hh⟩ := hh
 replace hh := bind_some hh
 obtain ⟨e301, h302, hh⟩ := hh
 refine ⟨[(5, 0), (9, 0), (1007, 50), (1014, 0)], ?_⟩
 cbv
 refine ⟨tA (qGOcc e301), ?_, ?_⟩
 ·refine cg hC (bN [] [185] [216]) mixed (ts := [(4, none)]) Tryz.func216 (by kernel_rfl) (by kernel_rfl) ?_
  intro S N
  cbv
  refine ⟨[iA e258a, iA e258b, iA e258c, tA (qInt e258d), tA (qGOcc e258e), tA (qGOcc e258f), tA (qGOcc e258g), tA (qGOcc e258h), tA (qGOcc e258i), iA e258j], Gb h259, ?_⟩
  cbv
  refine ⟨[iA e297], Nb h296, Gb h298, ?_⟩
  cbv
  refine ⟨Nb h299, Mb h300, ?_⟩
  refine ⟨[tA (qGOcc e301)], Gb h302, ?_⟩
  cbv
  exact Rb
 cbv
 replace hh := bind_some hh
 obtain ⟨⟨⟨x304_0a, x304_0b⟩, x304_1⟩, h303, hh⟩ := hh
 try dsimp only at hh
 have fc := iM hQ h303
 try dsimp only at fc
 refine ae hF fc ?_
 cbv
 refine ⟨[iA e258a, iA e258b, iA e258c, tA (qInt e258d), tA (qGOcc e258e), tA (qGOcc e258f), tA (qGOcc e258g), tA (qGOcc e258h), tA (qGOcc e258i), iA e258j], Gb h259, ?_⟩
 cbv
 refine ⟨⟨(⟨[(0, .mptr (0, 0) 1 0 0), (1, iA p1), (2, .lit (.pointer none)), (7, .ref (7, 50) 1 0 (len (qLGOcc s54))), (9, .mptr (14, 0) 1 (nadd 0 (toNat s55)) 0), (15, iA (cast (len (qGNode p0b)))), (16, iA s55), (30, tA (qGOcc x304_1)), (1000000, .mptr (0, 0) 1 0 0)], [((0, 0), .box 1 [iA p0a, .ref (14, 0) 1 0 (len (qGNode s52)), iA p0c, iA p0d, bA s53]), ((7, 50), .arr 1 1 (qLGOcc s54)), ((14, 0), .arr 1 10 (set (qGNode s52) (nadd 0 (toNat s55)) [iA e258a, iA e258b, iA e258c, tA (qInt e258d), tA (qGOcc x304_0a), tA (qGOcc x304_0b), tA (qGOcc e258g), tA (qGOcc e258h), tA (qGOcc e258i), iA e258j]))]⟩ : St), ?_, ?_⟩, trivial⟩
 ·refine aq [((0, 0), (1000, 0)), ((7, 50), (1007, 50)), ((14, 0), (1014, 0))] ?_
  cbv
  all_goals exact Zb
 cbv
 replace hh := aa hh
 obtain ⟨h306, hh⟩ := hh
 refine ⟨⟨Ob, Ab⟩, ?_⟩
 refine ⟨⟨Ob, Wb h306⟩, ?_⟩
 refine ⟨[iA e258a, iA e258b, iA e258c, tA (qInt e258d), tA (qGOcc x304_0a), tA (qGOcc x304_0b), tA (qGOcc e258g), tA (qGOcc e258h), tA (qGOcc e258i), iA e258j], Gb2 h259 ((List.getElem?_eq_some_iff.1 h259).1), ?_⟩
 cbv
 refine ⟨[iA e258a, iA e258b, iA e258c, tA (qInt e258d), tA (qGOcc x304_0a), tA (qGOcc x304_0b), tA (qGOcc e258g), tA (qGOcc e258h), tA (qGOcc e258i), iA e258j], Gb2 h259 ((List.getElem?_eq_some_iff.1 h259).1), ?_⟩
 cbv
 refine bcs (fun f308 => ?_) (fun f308 => ?_)
 replace hh := ifT hh f308
 try rw [f308]
 cbv
 ·refine hN1 (_, _, _, _) _ hh fun ⟨t0, t1, t2, t3⟩ e => ?_
  refine aq [((0, 0), (0, 0)), ((7, 50), (34, 0)), ((14, 0), (14, 0))] ?_
  cbv
  all_goals exact J4
 replace hh := ifF hh f308
 try rw [f308]
 cbv
 refine ⟨[iA e258a, iA e258b, iA e258c, tA (qInt e258d), tA (qGOcc x304_0a), tA (qGOcc x304_0b), tA (qGOcc e258g), tA (qGOcc e258h), tA (qGOcc e258i), iA (wrap .i64 (add e258j (cast (len (qGOcc x304_1)))))], Gb2 h259 ((List.getElem?_eq_some_iff.1 h259).1), ?_⟩
 cbv
 ·refine hN1 (_, _, _, _) _ hh fun ⟨t0, t1, t2, t3⟩ e => ?_
  refine aq [((0, 0), (0, 0)), ((7, 50), (34, 0)), ((14, 0), (14, 0))] ?_
  cbv
  all_goals exact J4
 replace hh := ifF hh f288
 try rw [f288]
 cbv
 refine bcs (fun f310 => ?_) (fun f310 => ?_)
 replace hh := ifT hh f310
 try rw [f310]
 cbv
 refine ⟨[iA e258a, iA e258b, iA e258c, tA (qInt e258d), tA (qGOcc e258e), tA (qGOcc e258f), tA (qGOcc e258g), tA (qGOcc e258h), tA (qGOcc e258i), iA e258j], Gb h259, ?_⟩
 cbv
 replace hh := aa hh
 obtain ⟨h311, hh⟩ := hh
 replace hh := bind_some hh
 obtain ⟨e312, h313, hh⟩ := hh
 replace hh := aa hh
 obtain ⟨h314, hh⟩ := hh
 replace hh := aa hh
 obtain ⟨h315, hh⟩ := hh
 replace hh := bind_some hh
 obtain ⟨e316, h317, hh⟩ := hh
 refine ⟨[(5, 0), (9, 0), (1007, 50), (1014, 0)], ?_⟩
 cbv
 refine ⟨tA (qGOcc e316), ?_, ?_⟩
 ·refine cg hC (bN [] [185] [216]) mixed (ts := [(4, none)]) Tryz.func216 (by kernel_rfl) (by kernel_rfl) ?_
  intro S N
  cbv
  refine ⟨[iA e258a, iA e258b, iA e258c, tA (qInt e258d), tA (qGOcc e258e), tA (qGOcc e258f), tA (qGOcc e258g), tA (qGOcc e258h), tA (qGOcc e258i), iA e258j], Gb h259, ?_⟩
  cbv
  refine ⟨[iA e312], Nb h311, Gb h313, ?_⟩
  cbv
  refine ⟨Nb h314, Mb h315, ?_⟩
  refine ⟨[tA (qGOcc e316)], Gb h317, ?_⟩
  cbv
  exact Rb
 cbv
 replace hh := aa hh
 obtain ⟨h318, hh⟩ := hh
 replace hh := bind_some hh
 obtain ⟨e319, h320, hh⟩ := hh
 replace hh := aa hh
 obtain ⟨h321, hh⟩ := hh
 replace hh := aa hh
 obtain ⟨h322, hh⟩ := hh
 replace hh := bind_some hh
 obtain ⟨e323, h324, hh⟩ := hh
 refine ⟨[(5, 0), (9, 0), (1007, 50), (1014, 0)], ?_⟩
 cbv
 refine ⟨tA (qGOcc e323), ?_, ?_⟩
 ·refine cg hC (bN [] [185] [216]) mixed (ts := [(4, none)]) Tryz.func216 (by kernel_rfl) (by kernel_rfl) ?_
  intro S N
  cbv
  refine ⟨[iA e258a, iA e258b, iA e258c, tA (qInt e258d), tA (qGOcc e258e), tA (qGOcc e258f), tA (qGOcc e258g), tA (qGOcc e258h), tA (qGOcc e258i), iA e258j], Gb h259, ?_⟩
  cbv
  refine ⟨[iA e319], Nb h318, Gb h320, ?_⟩
  cbv
  refine ⟨Nb h321, Mb h322, ?_⟩
  refine ⟨[tA (qGOcc e323)], Gb h324, ?_⟩
  cbv
  exact Rb
 cbv
 replace hh := bind_some hh
 obtain ⟨⟨⟨x326_0a, x326_0b⟩, x326_1⟩, h325, hh⟩ := hh
 try dsimp only at hh
 have fc := iz hQ h325
 try dsimp only at fc
 refine ae hF fc ?_
 cbv
 refine ⟨[iA e258a, iA e258b, iA e258c, tA (qInt e258d), tA (qGOcc e258e), tA (qGOcc e258f), tA (qGOcc e258g), tA (qGOcc e258h), tA (qGOcc e258i), iA e258j], Gb h259, ?_⟩
 cbv
 refine ⟨⟨(⟨[(0, .mptr (0, 0) 1 0 0), (1, iA p1), (2, .lit (.pointer none)), (7, .ref (7, 50) 1 0 (len (qLGOcc s54))), (9, .mptr (14, 0) 1 (nadd 0 (toNat s55)) 0), (15, iA (cast (len (qGNode p0b)))), (16, iA s55), (30, tA (qGOcc x326_1)), (1000000, .mptr (0, 0) 1 0 0)], [((0, 0), .box 1 [iA p0a, .ref (14, 0) 1 0 (len (qGNode s52)), iA p0c, iA p0d, bA s53]), ((7, 50), .arr 1 1 (qLGOcc s54)), ((14, 0), .arr 1 10 (set (qGNode s52) (nadd 0 (toNat s55)) [iA e258a, iA e258b, iA e258c, tA (qInt e258d), tA (qGOcc x326_0a), tA (qGOcc x326_0b), tA (qGOcc e258g), tA (qGOcc e258h), tA (qGOcc e258i), iA e258j]))]⟩ : St), ?_, ?_⟩, trivial⟩
 ·refine aq [((0, 0), (1000, 0)), ((7, 50), (1007, 50)), ((14, 0), (1014, 0))] ?_
  cbv
  all_goals exact Zb
 cbv
 replace hh := aa hh
 obtain ⟨h328, hh⟩ := hh
 refine ⟨⟨Ob, Ab⟩, ?_⟩
 refine ⟨⟨Ob, Wb h328⟩, ?_⟩
 refine ⟨[iA e258a, iA e258b, iA e258c, tA (qInt e258d), tA (qGOcc x326_0a), tA (qGOcc x326_0b), tA (qGOcc e258g), tA (qGOcc e258h), tA (qGOcc e258i), iA e258j], Gb2 h259 ((List.getElem?_eq_some_iff.1 h259).1), ?_⟩
 cbv
 refine ⟨[iA e258a, iA e258b, iA e258c, tA (qInt e258d), tA (qGOcc x326_0a), tA (qGOcc x326_0b), tA (qGOcc e258g), tA (qGOcc e258h), tA (qGOcc e258i), iA e258j], Gb2 h259 ((List.getElem?_eq_some_iff.1 h259).1), ?_⟩
 cbv
 refine bcs (fun f330 => ?_) (fun f330 => ?_)
 replace hh := ifT hh f330
 try rw [f330]
 cbv
 ·refine hN1 (_, _, _, _) _ hh fun ⟨t0, t1, t2, t3⟩ e => ?_
  refine aq [((0, 0), (0, 0)), ((7, 50), (34, 0)), ((14, 0), (14, 0))] ?_
  cbv
  all_goals exact J4
 replace hh := ifF hh f330
 try rw [f330]
 cbv
 refine ⟨[iA e258a, iA e258b, iA e258c, tA (qInt e258d), tA (qGOcc x326_0a), tA (qGOcc x326_0b), tA (qGOcc e258g), tA (qGOcc e258h), tA (qGOcc e258i), iA (wrap .i64 (add e258j (cast (len (qGOcc x326_1)))))], Gb2 h259 ((List.getElem?_eq_some_iff.1 h259).1), ?_⟩
 cbv
 ·refine hN1 (_, _, _, _) _ hh fun ⟨t0, t1, t2, t3⟩ e => ?_
  refine aq [((0, 0), (0, 0)), ((7, 50), (34, 0)), ((14, 0), (14, 0))] ?_
  cbv
  all_goals exact J4
 replace hh := ifF hh f310
 try rw [f310]
 cbv
 refine bcs (fun f332 => ?_) (fun f332 => ?_)
 replace hh := ifT hh f332
 try rw [f332]
 cbv
 refine ⟨[iA e258a, iA e258b, iA e258c, tA (qInt e258d), tA (qGOcc e258e), tA (qGOcc e258f), tA (qGOcc e258g), tA (qGOcc e258h), tA (qGOcc e258i), iA e258j], Gb h259, ?_⟩
 cbv
 replace hh := aa hh
 obtain ⟨h333, hh⟩ := hh
 replace hh := bind_some hh
 obtain ⟨e334, h335, hh⟩ := hh
 replace hh := aa hh
 obtain ⟨h336, hh⟩ := hh
 replace hh := aa hh
 obtain ⟨h337, hh⟩ := hh
 replace hh := bind_some hh
 obtain ⟨e338, h339, hh⟩ := hh
 refine ⟨[(5, 0), (9, 0), (1007, 50), (1014, 0)], ?_⟩
 cbv
 refine ⟨tA (qGOcc e338), ?_, ?_⟩
 ·refine cg hC (bN [] [185] [216]) mixed (ts := [(4, none)]) Tryz.func216 (by kernel_rfl) (by kernel_rfl) ?_
  intro S N
  cbv
  refine ⟨[iA e258a, iA e258b, iA e258c, tA (qInt e258d), tA (qGOcc e258e), tA (qGOcc e258f), tA (qGOcc e258g), tA (qGOcc e258h), tA (qGOcc e258i), iA e258j], Gb h259, ?_⟩
  cbv
  refine ⟨[iA e334], Nb h333, Gb h335, ?_⟩
  cbv
  refine ⟨Nb h336, Mb h337, ?_⟩
  refine ⟨[tA (qGOcc e338)], Gb h339, ?_⟩
  cbv
  exact Rb
 cbv
 replace hh := aa hh
 obtain ⟨h340, hh⟩ := hh
 replace hh := bind_some hh
 obtain ⟨e341, h342, hh⟩ := hh
 replace hh := aa hh
 obtain ⟨h343, hh⟩ := hh
 replace hh := aa hh
 obtain ⟨h344, hh⟩ := hh
 replace hh := bind_some hh
 obtain ⟨e345, h346, hh⟩ := hh
 refine ⟨[(5, 0), (9, 0), (1007, 50), (1014, 0)], ?_⟩
 cbv
 refine ⟨tA (qGOcc e345), ?_, ?_⟩
 ·refine cg hC (bN [] [185] [216]) mixed (ts := [(4, none)]) Tryz.func216 (by kernel_rfl) (by kernel_rfl) ?_
  intro S N
  cbv
  refine ⟨[iA e258a, iA e258b, iA e258c, tA (qInt e258d), tA (qGOcc e258e), tA (qGOcc e258f), tA (qGOcc e258g), tA (qGOcc e258h), tA (qGOcc e258i), iA e258j], Gb h259, ?_⟩
  cbv
  refine ⟨[iA e341], Nb h340, Gb h342, ?_⟩
  cbv
  refine ⟨Nb h343, Mb h344, ?_⟩
  refine ⟨[tA (qGOcc e345)], Gb h346, ?_⟩
  cbv
  exact Rb
 cbv
 replace hh := aa hh
 obtain ⟨h347, hh⟩ := hh
 replace hh := bind_some hh
 obtain ⟨e348, h349, hh⟩ := hh
 replace hh := aa hh
 obtain ⟨h350, hh⟩ := hh
 replace hh := aa hh
 obtain ⟨h351, hh⟩ := hh
 replace hh := bind_some hh
 obtain ⟨e352, h353, hh⟩ := hh
 refine ⟨[(5, 0), (9, 0), (1007, 50), (1014, 0)], ?_⟩
 cbv
 refine ⟨tA (qGOcc e352), ?_, ?_⟩
 ·refine cg hC (bN [] [185] [216]) mixed (ts := [(4, none)]) Tryz.func216 (by kernel_rfl) (by kernel_rfl) ?_
  intro S N
  cbv
  refine ⟨[iA e258a, iA e258b, iA e258c, tA (qInt e258d), tA (qGOcc e258e), tA (qGOcc e258f), tA (qGOcc e258g), tA (qGOcc e258h), tA (qGOcc e258i), iA e258j], Gb h259, ?_⟩
  cbv
  refine ⟨[iA e348], Nb h347, Gb h349, ?_⟩
  cbv
  refine ⟨Nb h350, Mb h351, ?_⟩
  refine ⟨[tA (qGOcc e352)], Gb h353, ?_⟩
  cbv
  exact Rb
 cbv
 replace hh := bind_some hh
 obtain ⟨⟨⟨x355_0a, x355_0b⟩, x355_1⟩, h354, hh⟩ := hh
 try dsimp only at hh
 have fc := iK hQ h354
 try dsimp only at fc
 refine ae hF fc ?_
 cbv
 refine ⟨[iA e258a, iA e258b, iA e258c, tA (qInt e258d), tA (qGOcc e258e), tA (qGOcc e258f), tA (qGOcc e258g), tA (qGOcc e258h), tA (qGOcc e258i), iA e258j], Gb h259, ?_⟩
 cbv
 refine ⟨⟨(⟨[(0, .mptr (0, 0) 1 0 0), (1, iA p1), (2, .lit (.pointer none)), (7, .ref (7, 50) 1 0 (len (qLGOcc s54))), (9, .mptr (14, 0) 1 (nadd 0 (toNat s55)) 0), (15, iA (cast (len (qGNode p0b)))), (16, iA s55), (30, tA (qGOcc x355_1)), (1000000, .mptr (0, 0) 1 0 0)], [((0, 0), .box 1 [iA p0a, .ref (14, 0) 1 0 (len (qGNode s52)), iA p0c, iA p0d, bA s53]), ((7, 50), .arr 1 1 (qLGOcc s54)), ((14, 0), .arr 1 10 (set (qGNode s52) (nadd 0 (toNat s55)) [iA e258a, iA e258b, iA e258c, tA (qInt e258d), tA (qGOcc e258e), tA (qGOcc e258f), tA (qGOcc x355_0a), tA (qGOcc x355_0b), tA (qGOcc e258i), iA e258j]))]⟩ : St), ?_, ?_⟩, trivial⟩
 ·refine aq [((0, 0), (1000, 0)), ((7, 50), (1007, 50)), ((14, 0), (1014, 0))] ?_
  cbv
  all_goals exact Zb
 cbv
 replace hh := aa hh
 obtain ⟨h357, hh⟩ := hh
 refine ⟨⟨Ob, Ab⟩, ?_⟩
 refine ⟨⟨Ob, Wb h357⟩, ?_⟩
 refine ⟨[iA e258a, iA e258b, iA e258c, tA (qInt e258d), tA (qGOcc e258e), tA (qGOcc e258f), tA (qGOcc x355_0a), tA (qGOcc x355_0b), tA (qGOcc e258i), iA e258j], Gb2 h259 ((List.getElem?_eq_some_iff.1 h259).1), ?_⟩
 cbv
 refine ⟨[iA e258a, iA e258b, iA e258c, tA (qInt e258d), tA (qGOcc e258e), tA (qGOcc e258f), tA (qGOcc x355_0a), tA (qGOcc x355_0b), tA (qGOcc e258i), iA e258j], Gb2 h259 ((List.getElem?_eq_some_iff.1 h259).1), ?_⟩
 cbv
 refine bcs (fun f359 => ?_) (fun f359 => ?_)
 replace hh := ifT hh f359
 try rw [f359]
 cbv
 ·refine hN1 (_, _, _, _) _ hh fun ⟨t0, t1, t2, t3⟩ e => ?_
  refine aq [((0, 0), (0, 0)), ((7, 50), (34, 0)), ((14, 0), (14, 0))] ?_
  cbv
  all_goals exact J4
 replace hh := ifF hh f359
 try rw [f359]
 cbv
 refine ⟨[iA e258a, iA e258b, iA e258c, tA (qInt e258d), tA (qGOcc e258e), tA (qGOcc e258f), tA (qGOcc x355_0a), tA (qGOcc x355_0b), tA (qGOcc e258i), iA (wrap .i64 (add e258j (cast (len (qGOcc x355_1)))))], Gb2 h259 ((List.getElem?_eq_some_iff.1 h259).1), ?_⟩
 cbv
 ·refine hN1 (_, _, _, _) _ hh fun ⟨t0, t1, t2, t3⟩ e => ?_
  refine aq [((0, 0), (0, 0)), ((7, 50), (34, 0)), ((14, 0), (14, 0))] ?_
  cbv
  all_goals exact J4
 replace hh := ifF hh f332
 try rw [f332]
 cbv
 refine bcs (fun f361 => ?_) (fun f361 => ?_)
 replace hh := ifT hh f361
 try rw [f361]
 cbv
 refine ⟨[iA e258a, iA e258b, iA e258c, tA (qInt e258d), tA (qGOcc e258e), tA (qGOcc e258f), tA (qGOcc e258g), tA (qGOcc e258h), tA (qGOcc e258i), iA e258j], Gb h259, ?_⟩
 cbv
 replace hh := aa hh
 obtain ⟨h362, hh⟩ := hh
 replace hh := bind_some hh
 obtain ⟨e363, h364, hh⟩ := hh
 replace hh := aa hh
 obtain ⟨h365, hh⟩ := hh
 replace hh := aa hh
 obtain ⟨h366, hh⟩ := hh
 replace hh := bind_some hh
 obtain ⟨e367, h368, hh⟩ := hh
 refine ⟨[(5, 0), (9, 0), (1007, 50), (1014, 0)], ?_⟩
 cbv
 refine ⟨tA (qGOcc e367), ?_, ?_⟩
 ·refine cg hC (bN [] [185] [216]) mixed (ts := [(4, none)]) Tryz.func216 (by kernel_rfl) (by kernel_rfl) ?_
  intro S N
  cbv
  refine ⟨[iA e258a, iA e258b, iA e258c, tA (qInt e258d), tA (qGOcc e258e), tA (qGOcc e258f), tA (qGOcc e258g), tA (qGOcc e258h), tA (qGOcc e258i), iA e258j], Gb h259, ?_⟩
  cbv
  refine ⟨[iA e363], Nb h362, Gb h364, ?_⟩
  cbv
  refine ⟨Nb h365, Mb h366, ?_⟩
  refine ⟨[tA (qGOcc e367)], Gb h368, ?_⟩
  cbv
  exact Rb
 cbv
 replace hh := aa hh
 obtain ⟨h369, hh⟩ := hh
 replace hh := bind_some hh
 obtain ⟨e370, h371, hh⟩ := hh
 replace hh := aa hh
 obtain ⟨h372, hh⟩ := hh
 replace hh := aa hh
 obtain ⟨h373, hh⟩ := hh
 replace hh := bind_some hh
 obtain ⟨e374, h375, hh⟩ := hh
 refine ⟨[(5, 0), (9, 0), (1007, 50), (1014, 0)], ?_⟩
 cbv
 refine ⟨tA (qGOcc e374), ?_, ?_⟩
 ·refine cg hC (bN [] [185] [216]) mixed (ts := [(4, none)]) Tryz.func216 (by kernel_rfl) (by kernel_rfl) ?_
  intro S N
  cbv
  refine ⟨[iA e258a, iA e258b, iA e258c, tA (qInt e258d), tA (qGOcc e258e), tA (qGOcc e258f), tA (qGOcc e258g), tA (qGOcc e258h), tA (qGOcc e258i), iA e258j], Gb h259, ?_⟩
  cbv
  refine ⟨[iA e370], Nb h369, Gb h371, ?_⟩
  cbv
  refine ⟨Nb h372, Mb h373, ?_⟩
  refine ⟨[tA (qGOcc e374)], Gb h375, ?_⟩
  cbv
  exact Rb
 cbv
 replace hh := aa hh
 obtain ⟨h376, hh⟩ := hh
 replace hh := bind_some hh
 obtain ⟨e377, h378, hh⟩ := hh
 replace hh := aa hh
 obtain ⟨h379, hh⟩ := hh
 replace hh := aa hh
 obtain ⟨h380, hh⟩ := hh
 replace hh := bind_some hh
 obtain ⟨e381, h382, hh⟩ := hh
 refine ⟨[(5, 0), (9, 0), (1007, 50), (1014, 0)], ?_⟩
 cbv
 refine ⟨tA (qGOcc e381), ?_, ?_⟩
 ·refine cg hC (bN [] [185] [216]) mixed (ts := [(4, none)]) Tryz.func216 (by kernel_rfl) (by kernel_rfl) ?_
  intro S N
  cbv
  refine ⟨[iA e258a, iA e258b, iA e258c, tA (qInt e258d), tA (qGOcc e258e), tA (qGOcc e258f), tA (qGOcc e258g), tA (qGOcc e258h), tA (qGOcc e258i), iA e258j], Gb h259, ?_⟩
  cbv
  refine ⟨[iA e377], Nb h376, Gb h378, ?_⟩
  cbv
  refine ⟨Nb h379, Mb h380, ?_⟩
  refine ⟨[tA (qGOcc e381)], Gb h382, ?_⟩
  cbv
  exact Rb
 cbv
 replace hh := bind_some hh
 obtain ⟨⟨⟨x384_0a, x384_0b⟩, x384_1⟩, h383, hh⟩ := hh
 try dsimp only at hh
 have fc := gU hQ h383
 try dsimp only at fc
 refine ae hF fc ?_
 cbv
 refine ⟨[iA e258a, iA e258b, iA e258c, tA (qInt e258d), tA (qGOcc e258e), tA (qGOcc e258f), tA (qGOcc e258g), tA (qGOcc e258h), tA (qGOcc e258i), iA e258j], Gb h259, ?_⟩
 cbv
 refine ⟨⟨(⟨[(0, .mptr (0, 0) 1 0 0), (1, iA p1), (2, .lit (.pointer none)), (7, .ref (7, 50) 1 0 (len (qLGOcc s54))), (9, .mptr (14, 0) 1 (nadd 0 (toNat s55)) 0), (15, iA (cast (len (qGNode p0b)))), (16, iA s55), (30, tA (qGOcc x384_1)), (1000000, .mptr (0, 0) 1 0 0)], [((0, 0), .box 1 [iA p0a, .ref (14, 0) 1 0 (len (qGNode s52)), iA p0c, iA p0d, bA s53]), ((7, 50), .arr 1 1 (qLGOcc s54)), ((14, 0), .arr 1 10 (set (qGNode s52) (nadd 0 (toNat s55)) [iA e258a, iA e258b, iA e258c, tA (qInt e258d), tA (qGOcc e258e), tA (qGOcc e258f), tA (qGOcc x384_0a), tA (qGOcc x384_0b), tA (qGOcc e258i), iA e258j]))]⟩ : St), ?_, ?_⟩, trivial⟩
 ·refine aq [((0, 0), (1000, 0)), ((7, 50), (1007, 50)), ((14, 0), (1014, 0))] ?_
  cbv
  all_goals exact Zb
 cbv
 replace hh := aa hh
 obtain ⟨h386, hh⟩ := hh
 refine ⟨⟨Ob, Ab⟩, ?_⟩
 refine ⟨⟨Ob, Wb h386⟩, ?_⟩
 refine ⟨[iA e258a, iA e258b, iA e258c, tA (qInt e258d), tA (qGOcc e258e), tA (qGOcc e258f), tA (qGOcc x384_0a), tA (qGOcc x384_0b), tA (qGOcc e258i), iA e258j], Gb2 h259 ((List.getElem?_eq_some_iff.1 h259).1), ?_⟩
 cbv
 refine ⟨[iA e258a, iA e258b, iA e258c, tA (qInt e258d), tA (qGOcc e258e), tA (qGOcc e258f), tA (qGOcc x384_0a), tA (qGOcc x384_0b), tA (qGOcc e258i), iA e258j], Gb2 h259 ((List.getElem?_eq_some_iff.1 h259).1), ?_⟩
 cbv
 refine bcs (fun f388 => ?_) (fun f388 => ?_)
 replace hh := ifT hh f388
 try rw [f388]
 cbv
 ·refine hN1 (_, _, _, _) _ hh fun ⟨t0, t1, t2, t3⟩ e => ?_
  refine aq [((0, 0), (0, 0)), ((7, 50), (34, 0)), ((14, 0), (14, 0))] ?_
  cbv
  all_goals exact J4
 replace hh := ifF hh f388
 try rw [f388]
 cbv
 refine ⟨[iA e258a, iA e258b, iA e258c, tA (qInt e258d), tA (qGOcc e258e), tA (qGOcc e258f), tA (qGOcc x384_0a), tA (qGOcc x384_0b), tA (qGOcc e258i), iA (wrap .i64 (add e258j (cast (len (qGOcc x384_1)))))], Gb2 h259 ((List.getElem?_eq_some_iff.1 h259).1), ?_⟩
 cbv
 ·refine hN1 (_, _, _, _) _ hh fun ⟨t0, t1, t2, t3⟩ e => ?_
  refine aq [((0, 0), (0, 0)), ((7, 50), (34, 0)), ((14, 0), (14, 0))] ?_
  cbv
  all_goals exact J4
 replace hh := ifF hh f361
 try rw [f361]
 cbv
 refine ⟨[iA e258a, iA e258b, iA e258c, tA (qInt e258d), tA (qGOcc e258e), tA (qGOcc e258f), tA (qGOcc e258g), tA (qGOcc e258h), tA (qGOcc e258i), iA e258j], Gb h259, ?_⟩
 cbv
 replace hh := bind_some hh
 obtain ⟨x390, h389, hh⟩ := hh
 refine ae hF (ag.frz (r' := tA (qGOcc x390)) (nI hQ h389) (by cases hQ; simp)) ?_
 cbv
 refine ⟨[iA e258a, iA e258b, iA e258c, tA (qInt e258d), tA (qGOcc e258e), tA (qGOcc e258f), tA (qGOcc e258g), tA (qGOcc e258h), tA (qGOcc e258i), iA e258j], Gb h259, ?_⟩
 cbv
 replace hh := bind_some hh
 obtain ⟨x393, h392, hh⟩ := hh
 refine ae hF (ag.frz (r' := tA (qGOcc x393)) (dz hQ (g1 := fun y0 => cI.f y0 p1) (fun h => gr hQ h) h392) (by cases hQ; simp)) ?_
 cbv
 refine ⟨[iA e258a, iA e258b, iA e258c, tA (qInt e258d), tA (qGOcc e258e), tA (qGOcc e258f), tA (qGOcc e258g), tA (qGOcc e258h), tA (qGOcc e258i), iA e258j], Gb h259, ?_⟩
 cbv
 replace hh := aa hh
 obtain ⟨h395, hh⟩ := hh
 replace hh := bind_some hh
 obtain ⟨e396, h397, hh⟩ := hh
 replace hh := aa hh
 obtain ⟨h398, hh⟩ := hh
 replace hh := aa hh
 obtain ⟨h399, hh⟩ := hh
 replace hh := bind_some hh
 obtain ⟨e400, h401, hh⟩ := hh
 refine ⟨[(5, 0), (9, 0), (1007, 50), (1014, 0)], ?_⟩
 cbv
 refine ⟨tA (qGOcc e400), ?_, ?_⟩
 ·refine cg hC (bN [] [185] [216]) mixed (ts := [(4, none)]) Tryz.func216 (by kernel_rfl) (by kernel_rfl) ?_
  intro S N
  cbv
  refine ⟨[iA e258a, iA e258b, iA e258c, tA (qInt e258d), tA (qGOcc e258e), tA (qGOcc e258f), tA (qGOcc e258g), tA (qGOcc e258h), tA (qGOcc x393), iA e258j], Gb2 h259 ((List.getElem?_eq_some_iff.1 h259).1), ?_⟩
  cbv
  refine ⟨[iA e396], Nb h395, Gb h397, ?_⟩
  cbv
  refine ⟨Nb h398, Mb h399, ?_⟩
  refine ⟨[tA (qGOcc e400)], Gb h401, ?_⟩
  cbv
  exact Rb
 cbv
 replace hh := bind_some hh
 obtain ⟨o2, hl2, hq2⟩ := hh
 refine ap hC (bN [] [185] [216]) mixed (fun n (i : (List GNode) × Int) => ak.l2 k e400 s55 n i.1 i.2)
  (fun ⟨s415, s416⟩ => (⟨[(5, .mptr (5, 0) 1 0 0), (12, tA (qGOcc x390)), (36, tA (qGOcc e400)), (37, iA (cast (len (qGOcc e400)))), (38, iA s416), (2000000, .mptr (1000, 0) 1 0 0), (2000001, iA p1), (2000002, .lit (.pointer none)), (2000007, .ref (1007, 50) 1 0 (len (qLGOcc s54))), (2000009, .mptr (1014, 0) 1 (nadd 0 (toNat s55)) 0), (2000015, iA (cast (len (qGNode p0b)))), (2000016, iA s55), (3000000, .mptr (1000, 0) 1 0 0)], [((5, 0), .box 1 [.mptr (1014, 0) 1 (nadd 0 (toNat s55)) 0]), ((1000, 0), .box 1 [iA p0a, .ref (1014, 0) 1 0 (len (qGNode s415)), iA p0c, iA p0d, bA s53]), ((1007, 50), .arr 1 1 (qLGOcc s54)), ((1014, 0), .arr 1 10 (qGNode s415))]⟩ : St))
  (fun (x430 : List GNode) => (⟨[(12, tA (qGOcc x390)), (2000000, .mptr (1000, 0) 1 0 0), (2000001, iA p1), (2000002, .lit (.pointer none)), (2000007, .ref (1007, 50) 1 0 (len (qLGOcc s54))), (2000009, .mptr (1014, 0) 1 (nadd 0 (toNat s55)) 0), (2000015, iA (cast (len (qGNode p0b)))), (2000016, iA s55), (3000000, .mptr (1000, 0) 1 0 0)], [((1000, 0), .box 1 [iA p0a, .ref (1014, 0) 1 0 (len (qGNode x430)), iA p0c, iA p0d, bA s53]), ((1007, 50), .arr 1 1 (qLGOcc s54)), ((1014, 0), .arr 1 10 (qGNode x430))]⟩ : St)) (fun x => x) (.exit 1)
  (i0 := (_, _)) hl2 (fun _ => rfl) ?_ ?_ ?_
 ·rintro ⟨t0, t1⟩ e
  refine ah ?_
  cbv
  all_goals exact J2
 rintro x430 hx
 subst o2
 have hh := hq2
 cbv
 refine ⟨⟨(⟨[(0, .mptr (0, 0) 1 0 0), (1, iA p1), (2, .lit (.pointer none)), (7, .ref (7, 50) 1 0 (len (qLGOcc s54))), (9, .mptr (14, 0) 1 (nadd 0 (toNat s55)) 0), (15, iA (cast (len (qGNode p0b)))), (16, iA s55), (30, tA (qGOcc x390)), (1000000, .mptr (0, 0) 1 0 0)], [((0, 0), .box 1 [iA p0a, .ref (14, 0) 1 0 (len (qGNode x430)), iA p0c, iA p0d, bA s53]), ((7, 50), .arr 1 1 (qLGOcc s54)), ((14, 0), .arr 1 10 (qGNode x430))]⟩ : St), ?_, ?_⟩, trivial⟩
 ·refine aq [((0, 0), (1000, 0)), ((7, 50), (1007, 50)), ((14, 0), (1014, 0))] ?_
  cbv
  all_goals exact Zb
 cbv
 replace hh := aa hh
 obtain ⟨h444, hh⟩ := hh
 refine ⟨⟨Ob, Ab⟩, ?_⟩
 refine ⟨⟨Ob, Wb h444⟩, ?_⟩
 replace hh := bind_some hh
 obtain ⟨⟨e445a, e445b, e445c, e445d, ⟨e445e, e445f⟩, ⟨e445g, e445h⟩, e445i, e445j⟩, h446, hh⟩ := hh
 try dsimp only at hh
 refine ⟨[iA e445a, iA e445b, iA e445c, tA (qInt e445d), tA (qGOcc e445e), tA (qGOcc e445f), tA (qGOcc e445g), tA (qGOcc e445h), tA (qGOcc e445i), iA e445j], Gb h446, ?_⟩
 cbv
 refine ⟨[iA e445a, iA e445b, iA e445c, tA (qInt e445d), tA (qGOcc e445e), tA (qGOcc e445f), tA (qGOcc e445g), tA (qGOcc e445h), tA (qGOcc e445i), iA e445j], Gb h446, ?_⟩
 cbv
 refine bcs (fun f448 => ?_) (fun f448 => ?_)
 replace hh := ifT hh f448
 try rw [f448]
 cbv
 ·refine hN1 (_, _, _, _) _ hh fun ⟨t0, t1, t2, t3⟩ e => ?_
  refine aq [((0, 0), (0, 0)), ((7, 50), (34, 0)), ((14, 0), (14, 0))] ?_
  cbv
  all_goals exact J4
 replace hh := ifF hh f448
 try rw [f448]
 cbv
 refine ⟨[iA e445a, iA e445b, iA e445c, tA (qInt e445d), tA (qGOcc e445e), tA (qGOcc e445f), tA (qGOcc e445g), tA (qGOcc e445h), tA (qGOcc e445i), iA (wrap .i64 (add e445j (cast (len (qGOcc x390)))))], Gb2 h446 ((List.getElem?_eq_some_iff.1 h446).1), ?_⟩
 cbv
 ·refine hN1 (_, _, _, _) _ hh fun ⟨t0, t1, t2, t3⟩ e => ?_
  refine aq [((0, 0), (0, 0)), ((7, 50), (34, 0)), ((14, 0), (14, 0))] ?_
  cbv
  all_goals exact J4
 rintro n ⟨s415, s416⟩ N2 D2 hh hN2 hD2 hQ2
 try dsimp only at hh
 unfold ak.l2 at hh
 cbv
 refine bcs (fun f432 => ?_) (fun f432 => ?_)
 replace hh := ifT hh f432
 try rw [f432]
 cbv
 replace hh := aa hh
 obtain ⟨h433, hh⟩ := hh
 replace hh := bind_some hh
 obtain ⟨⟨e434a, e434b, e434c⟩, h435, hh⟩ := hh
 try dsimp only at hh
 refine ⟨[iA e434a, iA e434b, tA (qInt e434c)], Nb h433, Gb h435, ?_⟩
 cbv
 replace hh := bind_some hh
 obtain ⟨⟨e436a, e436b, e436c, e436d, ⟨e436e, e436f⟩, ⟨e436g, e436h⟩, e436i, e436j⟩, h437, hh⟩ := hh
 try dsimp only at hh
 refine ⟨[iA e436a, iA e436b, iA e436c, tA (qInt e436d), tA (qGOcc e436e), tA (qGOcc e436f), tA (qGOcc e436g), tA (qGOcc e436h), tA (qGOcc e436i), iA e436j], Gb h437, ?_⟩
 cbv
 refine ⟨[iA e436a, iA e436b, iA e436c, tA (qInt e436d), tA (qGOcc e436e), tA (qGOcc e436f), tA (qGOcc e436g), tA (qGOcc e436h), tA (qGOcc e436i), iA e436j], Gb h437, ?_⟩
 cbv
 replace hh := bind_some hh
 obtain ⟨⟨x439a, x439b, x439c⟩, h438, hh⟩ := hh
 try dsimp only at hh
 have fc := ka hQ h438
 try dsimp only at fc
 refine ae hF fc ?_
 cbv
 replace hh := bind_some hh
 obtain ⟨x442, h441, hh⟩ := hh
 refine ⟨Ob, ?_⟩
 refine ae hF (eK hQ h441) ?_
 cbv
 refine ⟨[iA e436a, iA e436b, iA e436c, tA (qInt e436d), tA (qGOcc e436e), tA (qGOcc e436f), tA (qGOcc e436g), tA (qGOcc e436h), tA (qGOcc e436i), iA e436j], Gb h437, ?_⟩
 cbv
 ·refine hN2 (_, _) _ hh fun ⟨t0, t1⟩ e => ?_
  refine ah ?_
  cbv
  all_goals exact J2
 replace hh := ifF hh f432
 try rw [f432]
 cbv
 ·refine hD2 _ _ hh fun t0 e => ?_
  refine ah ?_
  cbv
  all_goals exact J1
 replace hh := ifF hh f255
 try rw [f255]
 cbv
 ·refine hD1 (_, _, _) _ hh fun ⟨t0, t1, t2⟩ e => ?_
  refine ah ?_
  cbv
  all_goals exact J3

end Go.Proofs.YtlbnmldopjadoaaGreat
