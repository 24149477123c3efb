/- The functions of this program do what the plain ones do. -/
import Derived.Test.YtlbnmldopjadoaaGreatC3
namespace Go.Proofs.YtlbnmldopjadoaaGreat
open Go Go.Vm
set_option linter.unusedVariables false
set_option maxHeartbeats 4000000
set_option maxRecDepth 4000
variable {qIu8 : List Int → Vm.Rows} {qGCall : List av → Vm.Rows} {qInt : List Int → Vm.Rows} {qGEx : List GEx → Vm.Rows} {qGRule : List GRule → Vm.Rows} {qGExO : List GEx → Vm.Rows} {qGOcc : List GOcc → Vm.Rows} {qGNode : List GNode → Vm.Rows} {qGGraphS : List GGraph → Vm.Rows} {qGGraph : List GGraph → Vm.Rows} {qGEv : List GEv → Vm.Rows} {qGFire : List aH → Vm.Rows} {qLGOcc : List (List GOcc) → Vm.Rows} {qGOccO : List GOcc → Vm.Rows} {qLInt : List (List Int) → Vm.Rows} (hQ : EQ qIu8 qGCall qInt qGEx qGRule qGExO qGOcc qGNode qGGraphS qGGraph qGEv qGFire qLGOcc qGOccO qLInt)
include hQ
theorem jy {k : Nat} {p0 : GGraph} {p1 : Int} {p2 : GEv} {r : (List GOcc) × GGraph × GEv} (hh : au.f k p0 p1 p2 = some r) : ag P 130 [.obox [iA p0.Mode, oA 10 (qGNode p0.Nodes), iA p0.Seen, iA p0.Now, bA p0.Full], iA p1, .obox [iA p2.Sym, iA p2.At, iA p2.Val]] [.obox [iA r.2.1.Mode, oA 10 (qGNode r.2.1.Nodes), iA r.2.1.Seen, iA r.2.1.Now, bA r.2.1.Full], hA, .obox [iA r.2.2.Sym, iA r.2.2.At, iA r.2.2.Val]] (tA (qGOcc r.1)) := by
 obtain ⟨p0a, p0b, p0c, p0d, p0e⟩ := p0
 obtain ⟨p2a, p2b, p2c⟩ := p2
 unfold au.f at hh
 refine goG (g := []) (i := [185]) (o := [216]) (sh := []) (ts := [(6, none)]) (rm := [.val]) (pm := [.own, .skip, .own]) Tryz.func130 ?_
 intro Fn LW IN len cast toNat wrap add sub mul bin lt eq At set part app fz' rep nadd nmax ssize sext sget scat seq slt Wide Flat Ones Room r' post' hC hF hr hp
 cbv
 replace hh := bind_some hh
 obtain ⟨o1, hl1, hq1⟩ := hh
 refine ap hC (bN [] [185] [216]) mixed (fun n (i : (List GNode) × Bool × (List (List GOcc)) × Int) => au.l1 k (⟨p0a, p0b, p0c, p0d, p0e⟩ : GGraph) p1 (⟨p2a, p2b, p2c⟩ : GEv) n i.1 i.2.1 i.2.2.1 i.2.2.2)
  (fun ⟨s57, s58, s59, s60⟩ => (⟨[(0, .mptr (0, 0) 1 0 0), (1, iA p1), (2, .mptr (2, 0) 1 0 0), (7, .ref (7, 50) 1 0 (len (qLGOcc s59))), (15, iA (cast (len (qGNode p0b)))), (16, iA s60), (1000000, .mptr (0, 0) 1 0 0), (1000002, .mptr (2, 0) 1 0 0)], [((0, 0), .box 1 [iA p0a, .ref (14, 0) 1 0 (len (qGNode s57)), iA p0c, iA p0d, bA s58]), ((2, 0), .box 1 [iA p2a, iA p2b, iA p2c]), ((7, 50), .arr 1 1 (qLGOcc s59)), ((14, 0), .arr 1 10 (qGNode s57))]⟩ : St))
  (fun (⟨x261, x262, x263⟩ : (List (List GOcc)) × (List GNode) × Bool) => (⟨[(7, .ref (7, 50) 1 0 (len (qLGOcc x261))), (1000000, .mptr (0, 0) 1 0 0), (1000002, .mptr (2, 0) 1 0 0)], [((0, 0), .box 1 [iA p0a, .ref (14, 0) 1 0 (len (qGNode x262)), iA p0c, iA p0d, bA x263]), ((2, 0), .box 1 [iA p2a, iA p2b, iA p2c]), ((7, 50), .arr 1 1 (qLGOcc x261)), ((14, 0), .arr 1 10 (qGNode x262))]⟩ : St)) (fun x => x) (.exit 0)
  (i0 := (_, _, _, _)) hl1 (fun _ => rfl) ?_ ?_ ?_
 ·rintro ⟨t0, t1, t2, t3⟩ e
  refine aq [((0, 0), (0, 0)), ((2, 0), (2, 0)), ((14, 0), (14, 0))] ?_
  cbv
  all_goals exact J4
 rintro ⟨x261, x262, x263⟩ hx
 subst o1
 have hh := hq1
 cbv
 replace hh := aa hh
 obtain ⟨h464, hh⟩ := hh
 replace hh := aa hh
 obtain ⟨h465, hh⟩ := hh
 refine ⟨Nb h464, Mb h465, ?_⟩
 replace hh := bind_some hh
 obtain ⟨e466, h467, hh⟩ := hh
 refine ⟨[tA (qGOcc e466)], Gb h467, ?_⟩
 cbv
 exact Eb
 rintro n ⟨s57, s58, s59, s60⟩ N1 D1 hh hN1 hD1 hQ1
 try dsimp only at hh
 unfold au.l1 at hh
 cbv
 refine bcs (fun f265 => ?_) (fun f265 => ?_)
 replace hh := ifT hh f265
 try rw [f265]
 cbv
 replace hh := aa hh
 obtain ⟨h266, hh⟩ := hh
 replace hh := aa hh
 obtain ⟨h267, hh⟩ := hh
 refine ⟨Nb h266, Mb h267, ?_⟩
 refine qp hC (bN [] [185] [216]) mixed (ts := [(10, none)]) (⟨[(0, .mptr (1014, 0) 1 (nadd 0 (toNat s60)) 0), (1, .mptr (1000, 0) 1 0 0), (2, iA p1), (3, .mptr (1002, 0) 1 0 0), (4, .ref (1007, 50) 1 0 (len (qLGOcc s59))), (2000000, .mptr (1000, 0) 1 0 0), (2000001, iA p1), (2000002, .mptr (1002, 0) 1 0 0), (2000007, .ref (1007, 50) 1 0 (len (qLGOcc s59))), (2000009, .mptr (1014, 0) 1 (nadd 0 (toNat s60)) 0), (2000015, iA (cast (len (qGNode p0b)))), (2000016, iA s60), (3000000, .mptr (1000, 0) 1 0 0), (3000002, .mptr (1002, 0) 1 0 0)], [((1000, 0), .box 1 [iA p0a, .ref (1014, 0) 1 0 (len (qGNode s57)), iA p0c, iA p0d, bA s58]), ((1002, 0), .box 1 [iA p2a, iA p2b, iA p2c]), ((1007, 50), .arr 1 1 (qLGOcc s59)), ((1014, 0), .arr 1 10 (qGNode s57))]⟩ : St) Tryz.func185 (by kernel_rfl) (by kernel_rfl) ?_ ?_
 ·refine aq [((1000, 0), (0, 0)), ((1002, 0), (2, 0)), ((1007, 50), (7, 50)), ((1014, 0), (14, 0))] ?_
  cbv
  all_goals exact Zb
 cbv
 replace hh := bind_some hh
 obtain ⟨⟨e268a, e268b, e268c, e268d, ⟨e268e, e268f⟩, ⟨e268g, e268h⟩, e268i, e268j⟩, h269, hh⟩ := hh
 try dsimp only at hh
 refine ⟨[iA e268a, iA e268b, iA e268c, tA (qInt e268d), tA (qGOcc e268e), tA (qGOcc e268f), tA (qGOcc e268g), tA (qGOcc e268h), tA (qGOcc e268i), iA e268j], Gb h269, ?_⟩
 cbv
 refine bcs (fun f271 => ?_) (fun f271 => ?_)
 replace hh := ifT hh f271
 try rw [f271]
 cbv
 refine ⟨[iA e268a, iA e268b, iA e268c, tA (qInt e268d), tA (qGOcc e268e), tA (qGOcc e268f), tA (qGOcc e268g), tA (qGOcc e268h), tA (qGOcc e268i), iA e268j], Gb h269, ?_⟩
 cbv
 refine bcs (fun f273 => ?_) (fun f273 => ?_)
 replace hh := ifT hh f273
 try rw [f273]
 cbv
 refine ⟨Ob, ?_⟩
 refine ⟨⟨(⟨[(0, .mptr (0, 0) 1 0 0), (1, iA p1), (2, .mptr (2, 0) 1 0 0), (7, .ref (7, 50) 1 0 (len (qLGOcc s59))), (9, .mptr (14, 0) 1 (nadd 0 (toNat s60)) 0), (15, iA (cast (len (qGNode p0b)))), (16, iA s60), (30, .ref (2080, 0) 1 0 1), (1000000, .mptr (0, 0) 1 0 0), (1000002, .mptr (2, 0) 1 0 0)], [((0, 0), .box 1 [iA p0a, .ref (14, 0) 1 0 (len (qGNode s57)), iA p0c, iA p0d, bA s58]), ((2, 0), .box 1 [iA p2a, iA p2b, iA p2c]), ((7, 50), .arr 1 1 (qLGOcc s59)), ((14, 0), .arr 1 10 (qGNode s57)), ((2080, 0), .farr 1 3 (qGOcc [((⟨p1, p1, [p0c]⟩ : GOcc))]))]⟩ : St), ?_, ?_⟩, trivial⟩
 ·refine aq [((0, 0), (1000, 0)), ((2, 0), (1002, 0)), ((7, 50), (1007, 50)), ((14, 0), (1014, 0)), ((2080, 0), (80, 0))] ?_
  cbv
  all_goals exact Zb
 cbv
 refine ⟨Ob, ?_⟩
 replace hh := aa hh
 obtain ⟨h274, hh⟩ := hh
 refine ⟨⟨Ob, Ab⟩, ?_⟩
 refine ⟨⟨Ob, Wb h274⟩, ?_⟩
 refine ⟨[iA e268a, iA e268b, iA e268c, tA (qInt e268d), tA (qGOcc e268e), tA (qGOcc e268f), tA (qGOcc e268g), tA (qGOcc e268h), tA (qGOcc e268i), iA e268j], Gb h269, ?_⟩
 cbv
 refine ⟨[iA e268a, iA e268b, iA e268c, tA (qInt e268d), tA (qGOcc e268e), tA (qGOcc e268f), tA (qGOcc e268g), tA (qGOcc e268h), tA (qGOcc e268i), iA e268j], Gb h269, ?_⟩
 cbv
 refine bcs (fun f276 => ?_) (fun f276 => ?_)
 replace hh := ifT hh f276
 try rw [f276]
 cbv
 ·refine hN1 (_, _, _, _) _ hh fun ⟨t0, t1, t2, t3⟩ e => ?_
  refine aq [((0, 0), (0, 0)), ((2, 0), (2, 0)), ((7, 50), (34, 0)), ((14, 0), (14, 0))] ?_
  cbv
  all_goals exact J4
 replace hh := ifF hh f276
 try rw [f276]
 cbv
 refine ⟨[iA e268a, iA e268b, iA e268c, tA (qInt e268d), tA (qGOcc e268e), tA (qGOcc e268f), tA (qGOcc e268g), tA (qGOcc e268h), tA (qGOcc e268i), iA (wrap .i64 (add e268j (cast 1)))], Gb2 h269 ((List.getElem?_eq_some_iff.1 h269).1), ?_⟩
 cbv
 ·refine hN1 (_, _, _, _) _ hh fun ⟨t0, t1, t2, t3⟩ e => ?_
  refine aq [((0, 0), (0, 0)), ((2, 0), (2, 0)), ((7, 50), (34, 0)), ((14, 0), (14, 0))] ?_
  cbv
  all_goals exact J4
 replace hh := ifF hh f273
 try rw [f273]
 cbv
 refine ⟨⟨(⟨[(0, .mptr (0, 0) 1 0 0), (1, iA p1), (2, .mptr (2, 0) 1 0 0), (7, .ref (7, 50) 1 0 (len (qLGOcc s59))), (9, .mptr (14, 0) 1 (nadd 0 (toNat s60)) 0), (15, iA (cast (len (qGNode p0b)))), (16, iA s60), (30, .lit (.slice none 0 0)), (1000000, .mptr (0, 0) 1 0 0), (1000002, .mptr (2, 0) 1 0 0)], [((0, 0), .box 1 [iA p0a, .ref (14, 0) 1 0 (len (qGNode s57)), iA p0c, iA p0d, bA s58]), ((2, 0), .box 1 [iA p2a, iA p2b, iA p2c]), ((7, 50), .arr 1 1 (qLGOcc s59)), ((14, 0), .arr 1 10 (qGNode s57))]⟩ : St), ?_, ?_⟩, trivial⟩
 ·refine aq [((0, 0), (1000, 0)), ((2, 0), (1002, 0)), ((7, 50), (1007, 50)), ((14, 0), (1014, 0))] ?_
  cbv
  all_goals exact Zb
 cbv
 refine ⟨none, ?_⟩; try cbv
 replace hh := aa hh
 obtain ⟨h277, hh⟩ := hh
 refine ⟨⟨Ob, Ab⟩, ?_⟩
 refine ⟨⟨Ob, Wb h277⟩, ?_⟩
 refine ⟨[iA e268a, iA e268b, iA e268c, tA (qInt e268d), tA (qGOcc e268e), tA (qGOcc e268f), tA (qGOcc e268g), tA (qGOcc e268h), tA (qGOcc e268i), iA e268j], Gb h269, ?_⟩
 cbv
 refine ⟨[iA e268a, iA e268b, iA e268c, tA (qInt e268d), tA (qGOcc e268e), tA (qGOcc e268f), tA (qGOcc e268g), tA (qGOcc e268h), tA (qGOcc e268i), iA e268j], Gb h269, ?_⟩
 cbv
 refine bcs (fun f279 => ?_) (fun f279 => ?_)
 replace hh := ifT hh f279
 try rw [f279]
 cbv
 ·refine hN1 (_, _, _, _) _ hh fun ⟨t0, t1, t2, t3⟩ e => ?_
  refine aq [((0, 0), (0, 0)), ((2, 0), (2, 0)), ((7, 50), (34, 0)), ((14, 0), (14, 0))] ?_
  cbv
  all_goals exact J4
 replace hh := ifF hh f279
 try rw [f279]
 cbv
 refine ⟨[iA e268a, iA e268b, iA e268c, tA (qInt e268d), tA (qGOcc e268e), tA (qGOcc e268f), tA (qGOcc e268g), tA (qGOcc e268h), tA (qGOcc e268i), iA (wrap .i64 (add e268j 0))], Gb2 h269 ((List.getElem?_eq_some_iff.1 h269).1), ?_⟩
 cbv
 ·refine hN1 (_, _, _, _) _ hh fun ⟨t0, t1, t2, t3⟩ e => ?_
  refine aq [((0, 0), (0, 0)), ((2, 0), (2, 0)), ((7, 50), (34, 0)), ((14, 0), (14, 0))] ?_
  cbv
  all_goals exact J4
 replace hh := ifF hh f271
 try rw [f271]
 cbv
 refine bcs (fun f281 => ?_) (fun f281 => ?_)
 replace hh := ifT hh f281
 try rw [f281]
 cbv
 replace hh := aa hh
 obtain ⟨h282, hh⟩ := hh
 replace hh := bind_some hh
 obtain ⟨e283, h284, hh⟩ := hh
 replace hh := aa hh
 obtain ⟨h285, hh⟩ := hh
 replace hh := aa hh
 obtain ⟨h286, hh⟩ := hh
 replace hh := bind_some hh
 obtain ⟨e287, h288, hh⟩ := hh
 refine ⟨[(5, 0), (9, 0), (1007, 50), (1014, 0)], ?_⟩
 cbv
 refine ⟨tA (qGOcc e287), ?_, ?_⟩
 ·refine cg hC (bN [] [185] [216]) mixed (ts := [(4, none)]) Tryz.func216 (by kernel_rfl) (by kernel_rfl) ?_
  intro S N
  cbv
  refine ⟨[iA e268a, iA e268b, iA e268c, tA (qInt e268d), tA (qGOcc e268e), tA (qGOcc e268f), tA (qGOcc e268g), tA (qGOcc e268h), tA (qGOcc e268i), iA e268j], Gb h269, ?_⟩
  cbv
  refine ⟨[iA e283], Nb h282, Gb h284, ?_⟩
  cbv
  refine ⟨Nb h285, Mb h286, ?_⟩
  refine ⟨[tA (qGOcc e287)], Gb h288, ?_⟩
  cbv
  exact Rb
 cbv
 replace hh := aa hh
 obtain ⟨h289, hh⟩ := hh
 replace hh := bind_some hh
 obtain ⟨e290, h291, hh⟩ := hh
 replace hh := aa hh
 obtain ⟨h292, hh⟩ := hh
 replace hh := aa hh
 obtain ⟨h293, hh⟩ := hh
 replace hh := bind_some hh
 obtain ⟨e294, h295, hh⟩ := hh
 refine ⟨[(5, 0), (9, 0), (1007, 50), (1014, 0)], ?_⟩
 cbv
 refine ⟨tA (qGOcc e294), ?_, ?_⟩
 ·refine cg hC (bN [] [185] [216]) mixed (ts := [(4, none)]) Tryz.func216 (by kernel_rfl) (by kernel_rfl) ?_
  intro S N
  cbv
  refine ⟨[iA e268a, iA e268b, iA e268c, tA (qInt e268d), tA (qGOcc e268e), tA (qGOcc e268f), tA (qGOcc e268g), tA (qGOcc e268h), tA (qGOcc e268i), iA e268j], Gb h269, ?_⟩
  cbv
  refine ⟨[iA e290], Nb h289, Gb h291, ?_⟩
  cbv
  refine ⟨Nb h292, Mb h293, ?_⟩
  refine ⟨[tA (qGOcc e294)], Gb h295, ?_⟩
  cbv
  exact Rb
 cbv
 replace hh := bind_some hh
 obtain ⟨x297, h296, hh⟩ := hh
 refine ae hF (bG hQ h296) ?_
 cbv
 refine ⟨⟨(⟨[(0, .mptr (0, 0) 1 0 0), (1, iA p1), (2, .mptr (2, 0) 1 0 0), (7, .ref (7, 50) 1 0 (len (qLGOcc s59))), (9, .mptr (14, 0) 1 (nadd 0 (toNat s60)) 0), (15, iA (cast (len (qGNode p0b)))), (16, iA s60), (30, tA (qGOcc x297)), (1000000, .mptr (0, 0) 1 0 0), (1000002, .mptr (2, 0) 1 0 0)], [((0, 0), .box 1 [iA p0a, .ref (14, 0) 1 0 (len (qGNode s57)), iA p0c, iA p0d, bA s58]), ((2, 0), .box 1 [iA p2a, iA p2b, iA p2c]), ((7, 50), .arr 1 1 (qLGOcc s59)), ((14, 0), .arr 1 10 (qGNode s57))]⟩ : St), ?_, ?_⟩, trivial⟩
 ·refine aq [((0, 0), (1000, 0)), ((2, 0), (1002, 0)), ((7, 50), (1007, 50)), ((14, 0), (1014, 0))] ?_
  cbv
  all_goals exact Zb
 cbv
 replace hh := aa hh
 obtain ⟨h299, hh⟩ := hh
 refine ⟨⟨Ob, Ab⟩, ?_⟩
 refine ⟨⟨Ob, Wb h299⟩, ?_⟩
 refine ⟨[iA e268a, iA e268b, iA e268c, tA (qInt e268d), tA (qGOcc e268e), tA (qGOcc e268f), tA (qGOcc e268g), tA (qGOcc e268h), tA (qGOcc e268i), iA e268j], Gb h269, ?_⟩
 cbv
 refine ⟨[iA e268a, iA e268b, iA e268c, tA (qInt e268d), tA (qGOcc e268e), tA (qGOcc e268f), tA (qGOcc e268g), tA (qGOcc e268h), tA (qGOcc e268i), iA e268j], Gb h269, ?_⟩
 cbv
 refine bcs (fun f301 => ?_) (fun f301 => ?_)
 replace hh := ifT hh f301
 try rw [f301]
 cbv
 ·refine hN1 (_, _, _, _) _ hh fun ⟨t0, t1, t2, t3⟩ e => ?_
  refine aq [((0, 0), (0, 0)), ((2, 0), (2, 0)), ((7, 50), (34, 0)), ((14, 0), (14, 0))] ?_
  cbv
  all_goals exact J4
 replace hh := ifF hh f301
 try rw [f301]
 cbv
 refine ⟨[iA e268a, iA e268b, iA e268c, tA (qInt e268d), tA (qGOcc e268e), tA (qGOcc e268f), tA (qGOcc e268g), tA (qGOcc e268h), tA (qGOcc e268i), iA (wrap .i64 (add e268j (cast (len (qGOcc x297)))))], Gb2 h269 ((List.getElem?_eq_some_iff.1 h269).1), ?_⟩
 cbv
 ·refine hN1 (_, _, _, _) _ hh fun ⟨t0, t1, t2, t3⟩ e => ?_
  refine aq [((0, 0), (0, 0)), ((2, 0), (2, 0)), ((7, 50), (34, 0)), ((14, 0), (14, 0))] ?_
  cbv
  all_goals exact J4
 replace hh := ifF hh f281
 try rw [f281]
 cbv
 refine bcs (fun f303 => ?_) (fun f303 => ?_)
 replace hh := ifT hh f303
 try rw [f303]
 cbv
 refine ⟨[iA e268a, iA e268b, iA e268c, tA (qInt e268d), tA (qGOcc e268e), tA (qGOcc e268f), tA (qGOcc e268g), tA (qGOcc e268h), tA (qGOcc e268i), iA e268j], Gb h269, ?_⟩
 cbv
 replace hh := aa hh
 obtain ⟨h304, hh⟩ := hh
 replace hh := bind_some hh
 obtain ⟨e305, h306, hh⟩ := hh
 replace hh := aa hh
 obtain ⟨h307, hh⟩ := hh
 replace hh := aa hh
 obtain ⟨h308, hh⟩ := hh
 replace hh := bind_some hh
 obtain ⟨e309, h310, hh⟩ := hh
 refine ⟨[(5, 0), (9, 0), (1007, 50), (1014, 0)], ?_⟩
 cbv
 refine ⟨tA (qGOcc e309), ?_, ?_⟩
 ·refine cg hC (bN [] [185] [216]) mixed (ts := [(4, none)]) Tryz.func216 (by kernel_rfl) (by kernel_rfl) ?_
  intro S N
  cbv
  refine ⟨[iA e268a, iA e268b, iA e268c, tA (qInt e268d), tA (qGOcc e268e), tA (qGOcc e268f), tA (qGOcc e268g), tA (qGOcc e268h), tA (qGOcc e268i), iA e268j], Gb h269, ?_⟩
  cbv
  refine ⟨[iA e305], Nb h304, Gb h306, ?_⟩
  cbv
  refine ⟨Nb h307, Mb h308, ?_⟩
  refine ⟨[tA (qGOcc e309)], Gb h310, ?_⟩
  cbv
  exact Rb
 cbv
 replace hh := aa hh
 obtain ⟨h311, hh⟩ := hh
 replace hh := bind_some hh
 obtain ⟨e312, h313, hh⟩ := hh
 replace hh := aa hh
 obtain ⟨h314, hh⟩ := hh
 replace hh := aa hh
 obtain ⟨h315, hh⟩ := hh
 replace hh := bind_some hh
 obtain ⟨e316, h317, hh⟩ := hh
 refine ⟨[(5, 0), (9, 0), (1007, 50), (1014, 0)], ?_⟩
 cbv
 refine ⟨tA (qGOcc e316), ?_, ?_⟩
 ·refine cg hC (bN [] [185] [216]) mixed (ts := [(4, none)]) Tryz.func216 (by kernel_rfl) (by kernel_rfl) ?_
  intro S N
  cbv
  refine ⟨[iA e268a, iA e268b, iA e268c, tA (qInt e268d), tA (qGOcc e268e), tA (qGOcc e268f), tA (qGOcc e268g), tA (qGOcc e268h), tA (qGOcc e268i), iA e268j], Gb h269, ?_⟩
  cbv
  refine ⟨[iA e312], Nb h311, Gb h313, ?_⟩
  cbv
  refine ⟨Nb h314, Mb h315, ?_⟩
  refine ⟨[tA (qGOcc e316)], Gb h317, ?_⟩
  cbv
  exact Rb
 cbv
 replace hh := bind_some hh
 obtain ⟨⟨⟨x319_0a, x319_0b⟩, x319_1⟩, h318, hh⟩ := hh
 try dsimp only at hh
 have fc := iM hQ h318
 try dsimp only at fc
 refine ae hF fc ?_
 cbv
 refine ⟨[iA e268a, iA e268b, iA e268c, tA (qInt e268d), tA (qGOcc e268e), tA (qGOcc e268f), tA (qGOcc e268g), tA (qGOcc e268h), tA (qGOcc e268i), iA e268j], Gb h269, ?_⟩
 cbv
 refine ⟨⟨(⟨[(0, .mptr (0, 0) 1 0 0), (1, iA p1), (2, .mptr (2, 0) 1 0 0), (7, .ref (7, 50) 1 0 (len (qLGOcc s59))), (9, .mptr (14, 0) 1 (nadd 0 (toNat s60)) 0), (15, iA (cast (len (qGNode p0b)))), (16, iA s60), (30, tA (qGOcc x319_1)), (1000000, .mptr (0, 0) 1 0 0), (1000002, .mptr (2, 0) 1 0 0)], [((0, 0), .box 1 [iA p0a, .ref (14, 0) 1 0 (len (qGNode s57)), iA p0c, iA p0d, bA s58]), ((2, 0), .box 1 [iA p2a, iA p2b, iA p2c]), ((7, 50), .arr 1 1 (qLGOcc s59)), ((14, 0), .arr 1 10 (set (qGNode s57) (nadd 0 (toNat s60)) [iA e268a, iA e268b, iA e268c, tA (qInt e268d), tA (qGOcc x319_0a), tA (qGOcc x319_0b), tA (qGOcc e268g), tA (qGOcc e268h), tA (qGOcc e268i), iA e268j]))]⟩ : St), ?_, ?_⟩, trivial⟩
 ·refine aq [((0, 0), (1000, 0)), ((2, 0), (1002, 0)), ((7, 50), (1007, 50)), ((14, 0), (1014, 0))] ?_
  cbv
  all_goals exact Zb
 cbv
 replace hh := aa hh
 obtain ⟨h321, hh⟩ := hh
 refine ⟨⟨Ob, Ab⟩, ?_⟩
 refine ⟨⟨Ob, Wb h321⟩, ?_⟩
 refine ⟨[iA e268a, iA e268b, iA e268c, tA (qInt e268d), tA (qGOcc x319_0a), tA (qGOcc x319_0b), tA (qGOcc e268g), tA (qGOcc e268h), tA (qGOcc e268i), iA e268j], Gb2 h269 ((List.getElem?_eq_some_iff.1 h269).1), ?_⟩
 cbv
 refine ⟨[iA e268a, iA e268b, iA e268c, tA (qInt e268d), tA (qGOcc x319_0a), tA (qGOcc x319_0b), tA (qGOcc e268g), tA (qGOcc e268h), tA (qGOcc e268i), iA e268j], Gb2 h269 ((List.getElem?_eq_some_iff.1 h269).1), ?_⟩
 cbv
 refine bcs (fun f323 => ?_) (fun f323 => ?_)
 replace hh := ifT hh f323
 try rw [f323]
 cbv
 ·refine hN1 (_, _, _, _) _ hh fun ⟨t0, t1, t2, t3⟩ e => ?_
  refine aq [((0, 0), (0, 0)), ((2, 0), (2, 0)), ((7, 50), (34, 0)), ((14, 0), (14, 0))] ?_
  cbv
  all_goals exact J4
 replace hh := ifF hh f323
 try rw [f323]
 cbv
 refine ⟨[iA e268a, iA e268b, iA e268c, tA (qInt e268d), tA (qGOcc x319_0a), tA (qGOcc x319_0b), tA (qGOcc e268g), tA (qGOcc e268h), tA (qGOcc e268i), iA (wrap .i64 (add e268j (cast (len (qGOcc x319_1)))))], Gb2 h269 ((List.getElem?_eq_some_iff.1 h269).1), ?_⟩
 cbv
 ·refine hN1 (_, _, _, _) _ hh fun ⟨t0, t1, t2, t3⟩ e => ?_
  refine aq [((0, 0), (0, 0)), ((2, 0), (2, 0)), ((7, 50), (34, 0)), ((14, 0), (14, 0))] ?_
  cbv
  all_goals exact J4
 replace hh := ifF hh f303
 try rw [f303]
 cbv
 refine bcs (fun f325 => ?_) (fun f325 => ?_)
 replace hh := ifT hh f325
 try rw [f325]
 cbv
 refine ⟨[iA e268a, iA e268b, iA e268c, tA (qInt e268d), tA (qGOcc e268e), tA (qGOcc e268f), tA (qGOcc e268g), tA (qGOcc e268h), tA (qGOcc e268i), iA e268j], Gb h269, ?_⟩
 cbv
 replace hh := aa hh
 obtain ⟨h326, hh⟩ := hh
 replace hh := bind_some hh
 obtain ⟨e327, h328, hh⟩ := hh
 replace hh := aa hh
 obtain ⟨h329, hh⟩ := hh
 replace hh := aa hh
 obtain ⟨h330, hh⟩ := hh
 replace hh := bind_some hh
 obtain ⟨e331, h332, hh⟩ := hh
 refine ⟨[(5, 0), (9, 0), (1007, 50), (1014, 0)], ?_⟩
 cbv
 refine ⟨tA (qGOcc e331), ?_, ?_⟩
 ·refine cg hC (bN [] [185] [216]) mixed (ts := [(4, none)]) Tryz.func216 (by kernel_rfl) (by kernel_rfl) ?_
  intro S N
  cbv
  refine ⟨[iA e268a, iA e268b, iA e268c, tA (qInt e268d), tA (qGOcc e268e), tA (qGOcc e268f), tA (qGOcc e268g), tA (qGOcc e268h), tA (qGOcc e268i), iA e268j], Gb h269, ?_⟩
  cbv
  refine ⟨[iA e327], Nb h326, Gb h328, ?_⟩
  cbv
  refine ⟨Nb h329, Mb h330, ?_⟩
  refine ⟨[tA (qGOcc e331)], Gb h332, ?_⟩
  cbv
  exact Rb
 cbv
 replace hh := aa hh
 obtain ⟨h333, hh⟩ := hh
 replace hh := bind_some hh
 obtain ⟨e334, h335, hh⟩ := hh
 replace hh := aa hh
 obtain ⟨h336, hh⟩ := hh
 replace hh := aa hh
 obtain ⟨h337, hh⟩ := hh
 replace hh := bind_some hh
 obtain ⟨e338, h339, hh⟩ := hh
 refine ⟨[(5, 0), (9, 0), (1007, 50), (1014, 0)], ?_⟩
 cbv
 refine ⟨tA (qGOcc e338), ?_, ?_⟩
 ·refine cg hC (bN [] [185] [216]) mixed (ts := [(4, none)]) Tryz.func216 (by kernel_rfl) (by kernel_rfl) ?_
  intro S N
  cbv
  refine ⟨[iA e268a, iA e268b, iA e268c, tA (qInt e268d), tA (qGOcc e268e), tA (qGOcc e268f), tA (qGOcc e268g), tA (qGOcc e268h), tA (qGOcc e268i), iA e268j], Gb h269, ?_⟩
  cbv
  refine ⟨[iA e334], Nb h333, Gb h335, ?_⟩
  cbv
  refine ⟨Nb h336, Mb h337, ?_⟩
  refine ⟨[tA (qGOcc e338)], Gb h339, ?_⟩
  cbv
  exact Rb
 cbv
 replace hh := bind_some hh
 obtain ⟨⟨⟨x341_0a, x341_0b⟩, x341_1⟩, h340, hh⟩ := hh
 try dsimp only at hh
 have fc := iz hQ h340
 try dsimp only at fc
 refine ae hF fc ?_
 cbv
 refine ⟨[iA e268a, iA e268b, iA e268c, tA (qInt e268d), tA (qGOcc e268e), tA (qGOcc e268f), tA (qGOcc e268g), tA (qGOcc e268h), tA (qGOcc e268i), iA e268j], Gb h269, ?_⟩
 cbv
 refine ⟨⟨(⟨[(0, .mptr (0, 0) 1 0 0), (1, iA p1), (2, .mptr (2, 0) 1 0 0), (7, .ref (7, 50) 1 0 (len (qLGOcc s59))), (9, .mptr (14, 0) 1 (nadd 0 (toNat s60)) 0), (15, iA (cast (len (qGNode p0b)))), (16, iA s60), (30, tA (qGOcc x341_1)), (1000000, .mptr (0, 0) 1 0 0), (1000002, .mptr (2, 0) 1 0 0)], [((0, 0), .box 1 [iA p0a, .ref (14, 0) 1 0 (len (qGNode s57)), iA p0c, iA p0d, bA s58]), ((2, 0), .box 1 [iA p2a, iA p2b, iA p2c]), ((7, 50), .arr 1 1 (qLGOcc s59)), ((14, 0), .arr 1 10 (set (qGNode s57) (nadd 0 (toNat s60)) [iA e268a, iA e268b, iA e268c, tA (qInt e268d), tA (qGOcc x341_0a), tA (qGOcc x341_0b), tA (qGOcc e268g), tA (qGOcc e268h), tA (qGOcc e268i), iA e268j]))]⟩ : St), ?_, ?_⟩, trivial⟩
 ·refine aq [((0, 0), (1000, 0)), ((2, 0), (1002, 0)), ((7, 50), (1007, 50)), ((14, 0), (1014, 0))] ?_
  cbv
  all_goals exact Zb
 cbv
 replace hh := aa hh
 obtain ⟨h343, hh⟩ := hh
 refine ⟨⟨Ob, Ab⟩, ?_⟩
 refine ⟨⟨Ob, Wb h343⟩, ?_⟩
 refine ⟨[iA e268a, iA e268b, iA e268c, tA (qInt e268d), tA (qGOcc x341_0a), tA (qGOcc x341_0b), tA (qGOcc e268g), tA (qGOcc e268h), tA (qGOcc e268i), iA e268j], Gb2 h269 ((List.getElem?_eq_some_iff.1 h269).1), ?_⟩
 cbv
 refine ⟨[iA e268a, iA e268b, iA e268c, tA (qInt e268d), tA (qGOcc x341_0a), tA (qGOcc x341_0b), tA (qGOcc e268g), tA (qGOcc e268h), tA (qGOcc e268i), iA e268j], Gb2 h269 ((List.getElem?_eq_some_iff.1 h269).1), ?_⟩
 cbv
 refine bcs (fun f345 => ?_) (fun f345 => ?_)
 replace hh := ifT hh f345
 try rw [f345]
 cbv
 ·refine hN1 (_, _, _, _) _ hh fun ⟨t0, t1, t2, t3⟩ e => ?_
  refine aq [((0, 0), (0, 0)), ((2, 0), (2, 0)), ((7, 50), (34, 0)), ((14, 0), (14, 0))] ?_
  cbv
  all_goals exact J4
 replace hh := ifF hh f345
 try rw [f345]
 cbv
 refine ⟨[iA e268a, iA e268b, iA e268c, tA (qInt e268d), tA (qGOcc x341_0a), tA (qGOcc x341_0b), tA (qGOcc e268g), tA (qGOcc e268h), tA (qGOcc e268i), iA (wrap .i64 (add e268j (cast (len (qGOcc x341_1)))))], Gb2 h269 ((List.getElem?_eq_some_iff.1 h269).1), ?_⟩
 cbv
 ·refine hN1 (_, _, _, _) _ hh fun ⟨t0, t1, t2, t3⟩ e => ?_
  refine aq [((0, 0), (0, 0)), ((2, 0), (2, 0)), ((7, 50), (34, 0)), ((14, 0), (14, 0))] ?_
  cbv
  all_goals exact J4
 replace hh := ifF hh f325
 try rw [f325]
 cbv
 refine bcs (fun f347 => ?_) (fun f347 => ?_)
 replace hh := ifT hh f347
 try rw [f347]
 cbv
 refine ⟨[iA e268a, iA e268b, iA e268c, tA (qInt e268d), tA (qGOcc e268e), tA (qGOcc e268f), tA (qGOcc e268g), tA (qGOcc e268h), tA (qGOcc e268i), iA e268j], Gb h269, ?_⟩
 cbv
 replace hh := aa hh
 obtain ⟨h348, hh⟩ := hh
 replace hh := bind_some hh
 obtain ⟨e349, h350, hh⟩ := hh
 replace hh := aa hh
 obtain ⟨h351, hh⟩ := hh
 replace hh := aa hh
 obtain ⟨h352, hh⟩ := hh
 replace hh := bind_some hh
 obtain ⟨e353, h354, hh⟩ := hh
 refine ⟨[(5, 0), (9, 0), (1007, 50), (1014, 0)], ?_⟩
 cbv
 refine ⟨tA (qGOcc e353), ?_, ?_⟩
 ·refine cg hC (bN [] [185] [216]) mixed (ts := [(4, none)]) Tryz.func216 (by kernel_rfl) (by kernel_rfl) ?_
  intro S N
  cbv
  refine ⟨[iA e268a, iA e268b, iA e268c, tA (qInt e268d), tA (qGOcc e268e), tA (qGOcc e268f), tA (qGOcc e268g), tA (qGOcc e268h), tA (qGOcc e268i), iA e268j], Gb h269, ?_⟩
  cbv
  refine ⟨[iA e349], Nb h348, Gb h350, ?_⟩
  cbv
  refine ⟨Nb h351, Mb h352, ?_⟩
  refine ⟨[tA (qGOcc e353)], Gb h354, ?_⟩
  cbv
  exact Rb
 cbv
 replace hh := aa hh
 obtain ⟨h355, hh⟩ := hh
 replace hh := bind_some hh
 obtain ⟨e356, h357, hh⟩ := hh
 replace hh := aa hh
 obtain ⟨h358, hh⟩ := hh
 replace hh := aa hh
 obtain ⟨h359, hh⟩ := hh
 replace hh := bind_some hh
 obtain ⟨e360, h361, hh⟩ := hh
 refine ⟨[(5, 0), (9, 0), (1007, 50), (1014, 0)], ?_⟩
 cbv
 refine ⟨tA (qGOcc e360), ?_, ?_⟩
 ·refine cg hC (bN [] [185] [216]) mixed (ts := [(4, none)]) Tryz.func216 (by kernel_rfl) (by kernel_rfl) ?_
  intro S N
  cbv
  refine ⟨[iA e268a, iA e268b, iA e268c, tA (qInt e268d), tA (qGOcc e268e), tA (qGOcc e268f), tA (qGOcc e268g), tA (qGOcc e268h), tA (qGOcc e268i), iA e268j], Gb h269, ?_⟩
  cbv
  refine ⟨[iA e356], Nb h355, Gb h357, ?_⟩
  cbv
  refine ⟨Nb h358, Mb h359, ?_⟩
  refine ⟨[tA (qGOcc e360)], Gb h361, ?_⟩
  cbv
  exact Rb
 cbv
 replace hh := aa hh
 obtain ⟨h362, hh⟩ := hh
 replace hh := bind_some hh
 obtain ⟨e363, h364, hh⟩ := hh
 replace hh := aa hh
 obtain ⟨h365, hh⟩ := hh
 replace hh := aa hh
 obtain ⟨h366, hh⟩ := hh
 replace hh := bind_some hh
 obtain ⟨e367, h368, hh⟩ := hh
 refine ⟨[(5, 0), (9, 0), (1007, 50), (1014, 0)], ?_⟩
 cbv
 refine ⟨tA (qGOcc e367), ?_, ?_⟩
 ·refine cg hC (bN [] [185] [216]) mixed (ts := [(4, none)]) Tryz.func216 (by kernel_rfl) (by kernel_rfl) ?_
  intro S N
  cbv
  refine ⟨[iA e268a, iA e268b, iA e268c, tA (qInt e268d), tA (qGOcc e268e), tA (qGOcc e268f), tA (qGOcc e268g), tA (qGOcc e268h), tA (qGOcc e268i), iA e268j], Gb h269, ?_⟩
  cbv
  refine ⟨[iA e363], Nb h362, Gb h364, ?_⟩
  cbv
  refine ⟨Nb h365, Mb h366, ?_⟩
  refine ⟨[tA (qGOcc e367)], Gb h368, ?_⟩
  cbv
  exact Rb
 cbv
 replace hh := bind_some hh
 obtain ⟨⟨⟨x370_0a, x370_0b⟩, x370_1⟩, h369, hh⟩ := hh
 try dsimp only at hh
 have fc := iK hQ h369
 try dsimp only at fc
 refine ae hF fc ?_
 cbv
 refine ⟨[iA e268a, iA e268b, iA e268c, tA (qInt e268d), tA (qGOcc e268e), tA (qGOcc e268f), tA (qGOcc e268g), tA (qGOcc e268h), tA (qGOcc e268i), iA e268j], Gb h269, ?_⟩
 cbv
 refine ⟨⟨(⟨[(0, .mptr (0, 0) 1 0 0), (1, iA p1), (2, .mptr (2, 0) 1 0 0), (7, .ref (7, 50) 1 0 (len (qLGOcc s59))), (9, .mptr (14, 0) 1 (nadd 0 (toNat s60)) 0), (15, iA (cast (len (qGNode p0b)))), (16, iA s60), (30, tA (qGOcc x370_1)), (1000000, .mptr (0, 0) 1 0 0), (1000002, .mptr (2, 0) 1 0 0)], [((0, 0), .box 1 [iA p0a, .ref (14, 0) 1 0 (len (qGNode s57)), iA p0c, iA p0d, bA s58]), ((2, 0), .box 1 [iA p2a, iA p2b, iA p2c]), ((7, 50), .arr 1 1 (qLGOcc s59)), ((14, 0), .arr 1 10 (set (qGNode s57) (nadd 0 (toNat s60)) [iA e268a, iA e268b, iA e268c, tA (qInt e268d), tA (qGOcc e268e), tA (qGOcc e268f), tA (qGOcc x370_0a), tA (qGOcc x370_0b), tA (qGOcc e268i), iA e268j]))]⟩ : St), ?_, ?_⟩, trivial⟩
 ·refine aq [((0, 0), (1000, 0)), ((2, 0), (1002, 0)), ((7, 50), (1007, 50)), ((14, 0), (1014, 0))] ?_
  cbv
  all_goals exact Zb
 cbv
 replace hh := aa hh
 obtain ⟨h372, hh⟩ := hh
 refine ⟨⟨Ob, Ab⟩, ?_⟩
 refine ⟨⟨Ob, Wb h372⟩, ?_⟩
 refine ⟨[iA e268a, iA e268b, iA e268c, tA (qInt e268d), tA (qGOcc e268e), tA (qGOcc e268f), tA (qGOcc x370_0a), tA (qGOcc x370_0b), tA (qGOcc e268i), iA e268j], Gb2 h269 ((List.getElem?_eq_some_iff.1 h269).1), ?_⟩
 cbv
 refine ⟨[iA e268a, iA e268b, iA e268c, tA (qInt e268d), tA (qGOcc e268e), tA (qGOcc e268f), tA (qGOcc x370_0a), tA (qGOcc x370_0b), tA (qGOcc e268i), iA e268j], Gb2 h269 ((List.getElem?_eq_some_iff.1 h269).1), ?_⟩
 cbv
 refine bcs (fun f374 => ?_) (fun f374 => ?_)
 replace hh := ifT hh f374
 try rw [f374]
 cbv
 ·refine hN1 (_, _, _, _) _ hh fun ⟨t0, t1, t2, t3⟩ e => ?_
  refine aq [((0, 0), (0, 0)), ((2, 0), (2, 0)), ((7, 50), (34, 0)), ((14, 0), (14, 0))] ?_
  cbv
  all_goals exact J4
 replace hh := ifF hh f374
 try rw [f374]
 cbv
 refine ⟨[iA e268a, iA e268b, iA e268c, tA (qInt e268d), tA (qGOcc e268e), tA (qGOcc e268f), tA (qGOcc x370_0a), tA (qGOcc x370_0b), tA (qGOcc e268i), iA (wrap .i64 (add e268j (cast (len (qGOcc x370_1)))))], Gb2 h269 ((List.getElem?_eq_some_iff.1 h269).1), ?_⟩
 cbv
 ·refine hN1 (_, _, _, _) _ hh fun ⟨t0, t1, t2, t3⟩ e => ?_
  refine aq [((0, 0), (0, 0)), ((2, 0), (2, 0)), ((7, 50), (34, 0)), ((14, 0), (14, 0))] ?_
  cbv
  all_goals exact J4
 replace hh := ifF hh f347
 try rw [f347]
 cbv
 refine bcs (fun f376 => ?_) (fun f376 => ?_)
 replace hh := ifT hh f376
 try rw [f376]
 cbv
 refine ⟨[iA e268a, iA e268b, iA e268c, tA (qInt e268d), tA (qGOcc e268e), tA (qGOcc e268f), tA (qGOcc e268g), tA (qGOcc e268h), tA (qGOcc e268i), iA e268j], Gb h269, ?_⟩
 cbv
 replace hh := aa hh
 obtain ⟨h377, hh⟩ := hh
 replace hh := bind_some hh
 obtain ⟨e378, h379, hh⟩ := hh
 replace hh := aa hh
 obtain ⟨h380, hh⟩ := hh
 replace hh := aa hh
 obtain ⟨h381, hh⟩ := hh
 replace hh := bind_some hh
 obtain ⟨e382, h383, hh⟩ := hh
 refine ⟨[(5, 0), (9, 0), (1007, 50), (1014, 0)], ?_⟩
 cbv
 refine ⟨tA (qGOcc e382), ?_, ?_⟩
 ·refine cg hC (bN [] [185] [216]) mixed (ts := [(4, none)]) Tryz.func216 (by kernel_rfl) (by kernel_rfl) ?_
  intro S N
  cbv
  refine ⟨[iA e268a, iA e268b, iA e268c, tA (qInt e268d), tA (qGOcc e268e), tA (qGOcc e268f), tA (qGOcc e268g), tA (qGOcc e268h), tA (qGOcc e268i), iA e268j], Gb h269, ?_⟩
  cbv
  refine ⟨[iA e378], Nb h377, Gb h379, ?_⟩
  cbv
  refine ⟨Nb h380, Mb h381, ?_⟩
  refine ⟨[tA (qGOcc e382)], Gb h383, ?_⟩
  cbv
  exact Rb
 cbv
 replace hh := aa hh
 obtain ⟨h384, hh⟩ := hh
 replace hh := bind_some hh
 obtain ⟨e385, h386, hh⟩ := hh
 replace hh := aa hh
 obtain ⟨h387, hh⟩ := hh
 replace hh := aa hh
 obtain ⟨h388, hh⟩ := hh
 replace hh := bind_some hh
 obtain ⟨e389, h390, hh⟩ := hh
 refine ⟨[(5, 0), (9, 0), (1007, 50), (1014, 0)], ?_⟩
 cbv
 refine ⟨tA (qGOcc e389), ?_, ?_⟩
 ·refine cg hC (bN [] [185] [216]) mixed (ts := [(4, none)]) Tryz.func216 (by kernel_rfl) (by kernel_rfl) ?_
  intro S N
  cbv
  refine ⟨[iA e268a, iA e268b, iA e268c, tA (qInt e268d), tA (qGOcc e268e), tA (qGOcc e268f), tA (qGOcc e268g), tA (qGOcc e268h), tA (qGOcc e268i), iA e268j], Gb h269, ?_⟩
  cbv
  refine ⟨[iA e385], Nb h384, Gb h386, ?_⟩
  cbv
  refine ⟨Nb h387, Mb h388, ?_⟩
  refine ⟨[tA (qGOcc e389)], Gb h390, ?_⟩
  cbv
  exact Rb
 cbv
 replace hh := aa hh
 obtain ⟨h391, hh⟩ := hh
 replace hh := bind_some hh
 obtain ⟨e392, h393, hh⟩ := hh
 replace hh := aa hh
 obtain ⟨h394, hh⟩ := hh
 replace hh := aa hh
 obtain ⟨h395, hh⟩ := hh
 replace hh := bind_some hh
 obtain ⟨e396, h397, hh⟩ := hh
 refine ⟨[(5, 0), (9, 0), (1007, 50), (1014, 0)], ?_⟩
 cbv
 refine ⟨tA (qGOcc e396), ?_, ?_⟩
 ·refine cg hC (bN [] [185] [216]) mixed (ts := [(4, none)]) Tryz.func216 (by kernel_rfl) (by kernel_rfl) ?_
  intro S N
  cbv
  refine ⟨[iA e268a, iA e268b, iA e268c, tA (qInt e268d), tA (qGOcc e268e), tA (qGOcc e268f), tA (qGOcc e268g), tA (qGOcc e268h), tA (qGOcc e268i), iA e268j], Gb h269, ?_⟩
  cbv
  refine ⟨[iA e392], Nb h391, Gb h393, ?_⟩
  cbv
  refine ⟨Nb h394, Mb h395, ?_⟩
  refine ⟨[tA (qGOcc e396)], Gb h397, ?_⟩
  cbv
  exact Rb
 cbv
 replace hh := bind_some hh
 obtain ⟨⟨⟨x399_0a, x399_0b⟩, x399_1⟩, h398, hh⟩ := hh
 try dsimp only at hh
 have fc := gU hQ h398
 try dsimp only at fc
 refine ae hF fc ?_
 cbv
 refine ⟨[iA e268a, iA e268b, iA e268c, tA (qInt e268d), tA (qGOcc e268e), tA (qGOcc e268f), tA (qGOcc e268g), tA (qGOcc e268h), tA (qGOcc e268i), iA e268j], Gb h269, ?_⟩
 cbv
 refine ⟨⟨(⟨[(0, .mptr (0, 0) 1 0 0), (1, iA p1), (2, .mptr (2, 0) 1 0 0), (7, .ref (7, 50) 1 0 (len (qLGOcc s59))), (9, .mptr (14, 0) 1 (nadd 0 (toNat s60)) 0), (15, iA (cast (len (qGNode p0b)))), (16, iA s60), (30, tA (qGOcc x399_1)), (1000000, .mptr (0, 0) 1 0 0), (1000002, .mptr (2, 0) 1 0 0)], [((0, 0), .box 1 [iA p0a, .ref (14, 0) 1 0 (len (qGNode s57)), iA p0c, iA p0d, bA s58]), ((2, 0), .box 1 [iA p2a, iA p2b, iA p2c]), ((7, 50), .arr 1 1 (qLGOcc s59)), ((14, 0), .arr 1 10 (set (qGNode s57) (nadd 0 (toNat s60)) [iA e268a, iA e268b, iA e268c, tA (qInt e268d), tA (qGOcc e268e), tA (qGOcc e268f), tA (qGOcc x399_0a), tA (qGOcc x399_0b), tA (qGOcc e268i), iA e268j]))]⟩ : St), ?_, ?_⟩, trivial⟩
 ·refine aq [((0, 0), (1000, 0)), ((2, 0), (1002, 0)), ((7, 50), (1007, 50)), ((14, 0), (1014, 0))] ?_
  cbv
  all_goals exact Zb
 cbv
 replace hh := aa hh
 obtain ⟨h401, hh⟩ := hh
 refine ⟨⟨Ob, Ab⟩, ?_⟩
 refine ⟨⟨Ob, Wb h401⟩, ?_⟩
 refine ⟨[iA e268a, iA e268b, iA e268c, tA (qInt e268d), tA (qGOcc e268e), tA (qGOcc e268f), tA (qGOcc x399_0a), tA (qGOcc x399_0b), tA (qGOcc e268i), iA e268j], Gb2 h269 ((List.getElem?_eq_some_iff.1 h269).1), ?_⟩
 cbv
 refine ⟨[iA e268a, iA e268b, iA e268c, tA (qInt e268d), tA (qGOcc e268e), tA (qGOcc e268f), tA (qGOcc x399_0a), tA (qGOcc x399_0b), tA (qGOcc e268i), iA e268j], Gb2 h269 ((List.getElem?_eq_some_iff.1 h269).1), ?_⟩
 cbv
 refine bcs (fun f403 => ?_) (fun f403 => ?_)
 replace hh := ifT hh f403
 try rw [f403]
 cbv
 ·refine hN1 (_, _, _, _) _ hh fun ⟨t0, t1, t2, t3⟩ e => ?_
  refine aq [((0, 0), (0, 0)), ((2, 0), (2, 0)), ((7, 50), (34, 0)), ((14, 0), (14, 0))] ?_
  cbv
  all_goals exact J4
 replace hh := ifF hh f403
 try rw [f403]
 cbv
 refine ⟨[iA e268a, iA e268b, iA e268c, tA (qInt e268d), tA (qGOcc e268e), tA (qGOcc e268f), tA (qGOcc x399_0a), tA (qGOcc x399_0b), tA (qGOcc e268i), iA (wrap .i64 (add e268j (cast (len (qGOcc x399_1)))))], Gb2 h269 ((List.getElem?_eq_some_iff.1 h269).1), ?_⟩
 cbv
 ·refine hN1 (_, _, _, _) _ hh fun ⟨t0, t1, t2, t3⟩ e => ?_
  refine aq [((0, 0), (0, 0)), ((2, 0), (2, 0)), ((7, 50), (34, 0)), ((14, 0), (14, 0))] ?_
  cbv
  all_goals exact J4
 replace hh := ifF hh f376
 try rw [f376]
 cbv
 refine ⟨[iA e268a, iA e268b, iA e268c, tA (qInt e268d), tA (qGOcc e268e), tA (qGOcc e268f), tA (qGOcc e268g), tA (qGOcc e268h), tA (qGOcc e268i), iA e268j], Gb h269, ?_⟩
 cbv
 replace hh := bind_some hh
 obtain ⟨x405, h404, hh⟩ := hh
 refine ae hF (ag.frz (r' := tA (qGOcc x405)) (nI hQ h404) (by cases hQ; simp)) ?_
 cbv
 refine ⟨[iA e268a, iA e268b, iA e268c, tA (qInt e268d), tA (qGOcc e268e), tA (qGOcc e268f), tA (qGOcc e268g), tA (qGOcc e268h), tA (qGOcc e268i), iA e268j], Gb h269, ?_⟩
 cbv
 replace hh := bind_some hh
 obtain ⟨x408, h407, hh⟩ := hh
 refine ae hF (ag.frz (r' := tA (qGOcc x408)) (dz hQ (g1 := fun y0 => cI.f y0 p1) (fun h => gr hQ h) h407) (by cases hQ; simp)) ?_
 cbv
 refine ⟨[iA e268a, iA e268b, iA e268c, tA (qInt e268d), tA (qGOcc e268e), tA (qGOcc e268f), tA (qGOcc e268g), tA (qGOcc e268h), tA (qGOcc e268i), iA e268j], Gb h269, ?_⟩
 cbv
 replace hh := aa hh
 obtain ⟨h410, hh⟩ := hh
 replace hh := bind_some hh
 obtain ⟨e411, h412, hh⟩ := hh
 replace hh := aa hh
 obtain ⟨h413, hh⟩ := hh
 replace hh := aa hh
 obtain ⟨h414, hh⟩ := hh
 replace hh := bind_some hh
 obtain ⟨e415, h416, hh⟩ := hh
 refine ⟨[(5, 0), (9, 0), (1007, 50), (1014, 0)], ?_⟩
 cbv
 refine ⟨tA (qGOcc e415), ?_, ?_⟩
 ·refine cg hC (bN [] [185] [216]) mixed (ts := [(4, none)]) Tryz.func216 (by kernel_rfl) (by kernel_rfl) ?_
  intro S N
  cbv
  refine ⟨[iA e268a, iA e268b, iA e268c, tA (qInt e268d), tA (qGOcc e268e), tA (qGOcc e268f), tA (qGOcc e268g), tA (qGOcc e268h), tA (qGOcc x408), iA e268j], Gb2 h269 ((List.getElem?_eq_some_iff.1 h269).1), ?_⟩
  cbv
  refine ⟨[iA e411], Nb h410, Gb h412, ?_⟩
  cbv
  refine ⟨Nb h413, Mb h414, ?_⟩
  refine ⟨[tA (qGOcc e415)], Gb h416, ?_⟩
  cbv
  exact Rb
 cbv
 replace hh := bind_some hh
 obtain ⟨o2, hl2, hq2⟩ := hh
 refine ap hC (bN [] [185] [216]) mixed (fun n (i : (List GNode) × Int) => au.l2 k e415 s60 n i.1 i.2)
  (fun ⟨s430, s431⟩ => (⟨[(5, .mptr (5, 0) 1 0 0), (12, tA (qGOcc x405)), (36, tA (qGOcc e415)), (37, iA (cast (len (qGOcc e415)))), (38, iA s431), (2000000, .mptr (1000, 0) 1 0 0), (2000001, iA p1), (2000002, .mptr (1002, 0) 1 0 0), (2000007, .ref (1007, 50) 1 0 (len (qLGOcc s59))), (2000009, .mptr (1014, 0) 1 (nadd 0 (toNat s60)) 0), (2000015, iA (cast (len (qGNode p0b)))), (2000016, iA s60), (3000000, .mptr (1000, 0) 1 0 0), (3000002, .mptr (1002, 0) 1 0 0)], [((5, 0), .box 1 [.mptr (1014, 0) 1 (nadd 0 (toNat s60)) 0]), ((1000, 0), .box 1 [iA p0a, .ref (1014, 0) 1 0 (len (qGNode s430)), iA p0c, iA p0d, bA s58]), ((1002, 0), .box 1 [iA p2a, iA p2b, iA p2c]), ((1007, 50), .arr 1 1 (qLGOcc s59)), ((1014, 0), .arr 1 10 (qGNode s430))]⟩ : St))
  (fun (x445 : List GNode) => (⟨[(12, tA (qGOcc x405)), (2000000, .mptr (1000, 0) 1 0 0), (2000001, iA p1), (2000002, .mptr (1002, 0) 1 0 0), (2000007, .ref (1007, 50) 1 0 (len (qLGOcc s59))), (2000009, .mptr (1014, 0) 1 (nadd 0 (toNat s60)) 0), (2000015, iA (cast (len (qGNode p0b)))), (2000016, iA s60), (3000000, .mptr (1000, 0) 1 0 0), (3000002, .mptr (1002, 0) 1 0 0)], [((1000, 0), .box 1 [iA p0a, .ref (1014, 0) 1 0 (len (qGNode x445)), iA p0c, iA p0d, bA s58]), ((1002, 0), .box 1 [iA p2a, iA p2b, iA p2c]), ((1007, 50), .arr 1 1 (qLGOcc s59)), ((1014, 0), .arr 1 10 (qGNode x445))]⟩ : St)) (fun x => x) (.exit 1)
  (i0 := (_, _)) hl2 (fun _ => rfl) ?_ ?_ ?_
 ·rintro ⟨t0, t1⟩ e
  refine ah ?_
  cbv
  all_goals exact J2
 rintro x445 hx
 subst o2
 have hh := hq2
 cbv
 refine ⟨⟨(⟨[(0, .mptr (0, 0) 1 0 0), (1, iA p1), (2, .mptr (2, 0) 1 0 0), (7, .ref (7, 50) 1 0 (len (qLGOcc s59))), (9, .mptr (14, 0) 1 (nadd 0 (toNat s60)) 0), (15, iA (cast (len (qGNode p0b)))), (16, iA s60), (30, tA (qGOcc x405)), (1000000, .mptr (0, 0) 1 0 0), (1000002, .mptr (2, 0) 1 0 0)], [((0, 0), .box 1 [iA p0a, .ref (14, 0) 1 0 (len (qGNode x445)), iA p0c, iA p0d, bA s58]), ((2, 0), .box 1 [iA p2a, iA p2b, iA p2c]), ((7, 50), .arr 1 1 (qLGOcc s59)), ((14, 0), .arr 1 10 (qGNode x445))]⟩ : St), ?_, ?_⟩, trivial⟩
 ·refine aq [((0, 0), (1000, 0)), ((2, 0), (1002, 0)), ((7, 50), (1007, 50)), ((14, 0), (1014, 0))] ?_
  cbv
  all_goals exact Zb
 cbv
 replace hh := aa hh
 obtain ⟨h459, hh⟩ := hh
 refine ⟨⟨Ob, Ab⟩, ?_⟩
 refine ⟨⟨Ob, Wb h459⟩, ?_⟩
 replace hh := bind_some hh
 obtain ⟨⟨e460a, e460b, e460c, e460d, ⟨e460e, e460f⟩, ⟨e460g, e460h⟩, e460i, e460j⟩, h461, hh⟩ := hh
 try dsimp only at hh
 refine ⟨[iA e460a, iA e460b, iA e460c, tA (qInt e460d), tA (qGOcc e460e), tA (qGOcc e460f), tA (qGOcc e460g), tA (qGOcc e460h), tA (qGOcc e460i), iA e460j], Gb h461, ?_⟩
 cbv
 refine ⟨[iA e460a, iA e460b, iA e460c, tA (qInt e460d), tA (qGOcc e460e), tA (qGOcc e460f), tA (qGOcc e460g), tA (qGOcc e460h), tA (qGOcc e460i), iA e460j], Gb h461, ?_⟩
 cbv
 refine bcs (fun f463 => ?_) (fun f463 => ?_)
 replace hh := ifT hh f463
 try rw [f463]
 cbv
 ·refine hN1 (_, _, _, _) _ hh fun ⟨t0, t1, t2, t3⟩ e => ?_
  refine aq [((0, 0), (0, 0)), ((2, 0), (2, 0)), ((7, 50), (34, 0)), ((14, 0), (14, 0))] ?_
  cbv
  all_goals exact J4
 replace hh := ifF hh f463
 try rw [f463]
 cbv
 refine ⟨[iA e460a, iA e460b, iA e460c, tA (qInt e460d), tA (qGOcc e460e), tA (qGOcc e460f), tA (qGOcc e460g), tA (qGOcc e460h), tA (qGOcc e460i), iA (wrap .i64 (add e460j (cast (len (qGOcc x405)))))], Gb2 h461 ((List.getElem?_eq_some_iff.1 h461).1), ?_⟩
 cbv
 ·refine hN1 (_, _, _, _) _ hh fun ⟨t0, t1, t2, t3⟩ e => ?_
  refine aq [((0, 0), (0, 0)), ((2, 0), (2, 0)), ((7, 50), (34, 0)), ((14, 0), (14, 0))] ?_
  cbv
  all_goals exact J4
 rintro n ⟨s430, s431⟩ N2 D2 hh hN2 hD2 hQ2
 try dsimp only at hh
 unfold au.l2 at hh
 cbv
 refine bcs (fun f447 => ?_) (fun f447 => ?_)
 replace hh := ifT hh f447
 try rw [f447]
 cbv
 replace hh := aa hh
 obtain ⟨h448, hh⟩ := hh
 replace hh := bind_some hh
 obtain ⟨⟨e449a, e449b, e449c⟩, h450, hh⟩ := hh
 try dsimp only at hh
 refine ⟨[iA e449a, iA e449b, tA (qInt e449c)], Nb h448, Gb h450, ?_⟩
 cbv
 replace hh := bind_some hh
 obtain ⟨⟨e451a, e451b, e451c, e451d, ⟨e451e, e451f⟩, ⟨e451g, e451h⟩, e451i, e451j⟩, h452, hh⟩ := hh
 try dsimp only at hh
 refine ⟨[iA e451a, iA e451b, iA e451c, tA (qInt e451d), tA (qGOcc e451e), tA (qGOcc e451f), tA (qGOcc e451g), tA (qGOcc e451h), tA (qGOcc e451i), iA e451j], Gb h452, ?_⟩
 cbv
 refine ⟨[iA e451a, iA e451b, iA e451c, tA (qInt e451d), tA (qGOcc e451e), tA (qGOcc e451f), tA (qGOcc e451g), tA (qGOcc e451h), tA (qGOcc e451i), iA e451j], Gb h452, ?_⟩
 cbv
 replace hh := bind_some hh
 obtain ⟨⟨x454a, x454b, x454c⟩, h453, hh⟩ := hh
 try dsimp only at hh
 have fc := ka hQ h453
 try dsimp only at fc
 refine ae hF fc ?_
 cbv
 replace hh := bind_some hh
 obtain ⟨x457, h456, hh⟩ := hh
 refine ⟨Ob, ?_⟩
 refine ae hF (eK hQ h456) ?_
 cbv
 refine ⟨[iA e451a, iA e451b, iA e451c, tA (qInt e451d), tA (qGOcc e451e), tA (qGOcc e451f), tA (qGOcc e451g), tA (qGOcc e451h), tA (qGOcc e451i), iA e451j], Gb h452, ?_⟩
 cbv
 ·refine hN2 (_, _) _ hh fun ⟨t0, t1⟩ e => ?_
  refine ah ?_
  cbv
  all_goals exact J2
 replace hh := ifF hh f447
 try rw [f447]
 cbv
 ·refine hD2 _ _ hh fun t0 e => ?_
  refine ah ?_
  cbv
  all_goals exact J1
 replace hh := ifF hh f265
 try rw [f265]
 cbv
 ·refine hD1 (_, _, _) _ hh fun ⟨t0, t1, t2⟩ e => ?_
  refine ah ?_
  cbv
  all_goals exact J3

theorem kT {k : Nat} {p0 : GGraph} {p1 : GEv} {r : (List GOcc) × GGraph} (hh : ce.f k p0 p1 = some r) : ag P 62 [.obox [iA p0.Mode, oA 10 (qGNode p0.Nodes), iA p0.Seen, iA p0.Now, bA p0.Full], .agg [iA p1.Sym, iA p1.At, iA p1.Val]] [.obox [iA r.2.Mode, oA 10 (qGNode r.2.Nodes), iA r.2.Seen, iA r.2.Now, bA r.2.Full], hA] (oA 3 (qGOcc r.1)) := by
 obtain ⟨p0a, p0b, p0c, p0d, p0e⟩ := p0
 obtain ⟨p1a, p1b, p1c⟩ := p1
 unfold ce.f at hh
 refine go (ts := [(4, none)]) (rm := [.own]) (pm := [.own, .skip]) Tryz.func62 ?_
 intro Fn LW IN len cast toNat wrap add sub mul bin lt eq At set part app fz' rep nadd nmax ssize sext sget scat seq slt Wide Flat Ones Room r' post' hC hF hr hp
 cbv
 replace hh := bind_some hh
 obtain ⟨o1, hl1, hq1⟩ := hh
 refine ap hC eok mixed (fun n (i : Int × (List GNode) × Int × Int × Bool × (List GOcc)) => ce.l0 k (⟨p1a, p1b, p1c⟩ : GEv) n i.1 i.2.1 i.2.2.1 i.2.2.2.1 i.2.2.2.2.1 i.2.2.2.2.2)
  (fun ⟨s12, s13, s14, s15, s16, s17⟩ => (⟨[(0, .mptr (0, 0) 1 0 0), (3, .mptr (3, 0) 1 0 0), (5, .ref (5, 50) 1 0 (len (qGOcc s17))), (1000000, .mptr (0, 0) 1 0 0)], [((0, 0), .box 1 [iA s12, .ref (900, 0) 1 0 (len (qGNode s13)), iA s14, iA s15, bA s16]), ((3, 0), .box 1 [iA p1a, iA p1b, iA p1c]), ((5, 50), .arr 1 3 (qGOcc s17)), ((900, 0), .arr 1 10 (qGNode s13))]⟩ : St))
  (fun (⟨x29, x30, x31, x32, x33, x34⟩ : Int × (List GNode) × Int × Int × Bool × (List GOcc)) => (⟨[(0, .mptr (0, 0) 1 0 0), (3, .mptr (3, 0) 1 0 0), (5, .ref (5, 50) 1 0 (len (qGOcc x34))), (1000000, .mptr (0, 0) 1 0 0)], [((0, 0), .box 1 [iA x29, .ref (900, 0) 1 0 (len (qGNode x30)), iA x31, iA x32, bA x33]), ((3, 0), .box 1 [iA p1a, iA p1b, iA p1c]), ((5, 50), .arr 1 3 (qGOcc x34)), ((900, 0), .arr 1 10 (qGNode x30))]⟩ : St)) (fun x => x) (.exit 0)
  (i0 := (_, _, _, _, _, _)) hl1 (fun _ => rfl) ?_ ?_ ?_
 ·rintro ⟨t0, t1, t2, t3, t4, t5⟩ e
  refine dj hC (0, 0) 900 ?_
  cbv
  refine aq [((0, 0), (0, 0)), ((3, 0), (3, 0)), ((900, 0), (900, 0))] ?_
  cbv
  all_goals exact J6
 rintro ⟨x29, x30, x31, x32, x33, x34⟩ hx
 subst o1
 have hh := hq1
 cbv
 replace hh := az hh
 rcases hh with ⟨b46, hh⟩ | ⟨b46, hh⟩
 have f47 : x33 = true := Tb b46
 have g := f47; cbv at g; try rw [f47]
 try rw [g]
 cbv
 refine ⟨3, ?_⟩
 cbv
 refine ⟨10, ?_⟩
 cbv
 exact Eb
 have f47 : x33 = false := Fb b46
 have g := f47; cbv at g; try rw [f47]
 try rw [g]
 cbv
 replace hh := bind_some hh
 obtain ⟨⟨x49_0, ⟨x49_1a, x49_1b, x49_1c, x49_1d, x49_1e⟩, ⟨x49_2a, x49_2b, x49_2c⟩⟩, h48, hh⟩ := hh
 try dsimp only at hh
 have fc := jy hQ h48
 try dsimp only at fc
 refine ae hF fc ?_
 cbv
 replace hh := aa hh
 obtain ⟨h51, hh⟩ := hh
 try dsimp only at h51
 refine ⟨⟨Ab, Ab⟩, ?_⟩
 refine ⟨⟨Ob, Wb h51⟩, ?_⟩
 refine bcs (fun f53 => ?_) (fun f53 => ?_)
 replace hh := ifT hh f53
 try rw [f53]
 cbv
 refine ⟨3, ?_⟩
 cbv
 refine ⟨10, ?_⟩
 cbv
 exact Eb
 replace hh := ifF hh f53
 try rw [f53]
 cbv
 exact Eb
 rintro n ⟨s12, s13, s14, s15, s16, s17⟩ N1 D1 hh hN1 hD1 hQ1
 try dsimp only at hh
 unfold ce.l0 at hh
 cbv
 replace hh := az hh
 rcases hh with ⟨b35, hh⟩ | ⟨b35, hh⟩
 have f36 : s16 = true := Tb b35
 have g := f36; cbv at g; try rw [f36]
 try rw [g]
 cbv
 ·refine hD1 (_, _, _, _, _, _) _ hh fun ⟨t0, t1, t2, t3, t4, t5⟩ e => ?_
  refine ah ?_
  cbv
  all_goals exact J6
 have f36 : s16 = false := Fb b35
 have g := f36; cbv at g; try rw [f36]
 try rw [g]
 cbv
 replace hh := bind_some hh
 obtain ⟨⟨x38_0, x38_1, ⟨x38_2a, x38_2b, x38_2c, x38_2d, x38_2e⟩⟩, h37, hh⟩ := hh
 try dsimp only at hh
 have fc := lI hQ h37
 try dsimp only at fc
 refine ae hF fc ?_
 cbv
 replace hh := az hh
 rcases hh with ⟨b40, hh⟩ | ⟨b40, hh⟩
 have f41 : x38_1 = true := Tb b40
 have g := f41; cbv at g; try rw [f41]
 try rw [g]
 cbv
 replace hh := bind_some hh
 obtain ⟨⟨x43_0, ⟨x43_1a, x43_1b, x43_1c, x43_1d, x43_1e⟩⟩, h42, hh⟩ := hh
 try dsimp only at hh
 have fc := ir hQ h42
 try dsimp only at fc
 refine ae hF fc ?_
 cbv
 replace hh := aa hh
 obtain ⟨h45, hh⟩ := hh
 try dsimp only at h45
 refine ⟨⟨Ab, Ab⟩, ?_⟩
 refine ⟨⟨Ob, Wb h45⟩, ?_⟩
 ·refine hN1 (_, _, _, _, _, _) _ hh fun ⟨t0, t1, t2, t3, t4, t5⟩ e => ?_
  refine dj hC (0, 0) 900 ?_
  cbv
  refine aq [((0, 0), (0, 0)), ((3, 0), (3, 0)), ((5, 50), (26, 0)), ((900, 0), (900, 0))] ?_
  cbv
  all_goals exact J6
 have f41 : x38_1 = false := Fb b40
 have g := f41; cbv at g; try rw [f41]
 try rw [g]
 cbv
 ·refine hD1 (_, _, _, _, _, _) _ hh fun ⟨t0, t1, t2, t3, t4, t5⟩ e => ?_
  refine dj hC (0, 0) 900 ?_
  cbv
  refine ah ?_
  cbv
  all_goals exact J6

theorem lP {p0 : GEng} {p1 : GRule} {p2 : GOcc} {r : Int × Bool} (hh : eR.f p0 p1 p2 = some r) : ag P 225 [.agg [tA (qGRule p0.Rules), tA (qGGraph p0.Graphs), tA (qGEv p0.Events), tA (qInt p0.Keys), tA (qGFire p0.Fired)], .agg [sA p1.Name, iA p1.Pri, iA p1.Mode, iA p1.Ex.Kind, iA p1.Ex.Sym, iA p1.Ex.N, tA (qGEx p1.Ex.Kids), iA p1.Low, iA p1.High, iA p1.Key, iA p1.Add, iA p1.Raise], .agg [iA p2.From, iA p2.To, tA (qInt p2.Ids)]] [hA, hA, hA] (.tup [iA r.1, bA r.2]) := by
 obtain ⟨p0a, p0b, p0c, p0d, p0e⟩ := p0
 obtain ⟨p1a, p1b, p1c, ⟨p1d, p1e, p1f, p1g⟩, p1h, p1i, p1j, p1k, p1l⟩ := p1
 obtain ⟨p2a, p2b, p2c⟩ := p2
 unfold eR.f at hh
 refine go (ts := [(6, none), (7, none)]) (rm := [.own, .own]) (pm := [.skip, .skip, .skip]) Tryz.func225 ?_
 intro Fn LW IN len cast toNat wrap add sub mul bin lt eq At set part app fz' rep nadd nmax ssize sext sget scat seq slt Wide Flat Ones Room r' post' hC hF hr hp
 cbv
 replace hh := bind_some hh
 obtain ⟨x2, h1, hh⟩ := hh
 refine ae hF (fH hQ h1) ?_
 cbv
 replace hh := aa hh
 obtain ⟨h4, hh⟩ := hh
 replace hh := bind_some hh
 obtain ⟨⟨e5a, e5b, e5c⟩, h6, hh⟩ := hh
 try dsimp only at hh
 refine ⟨[iA e5a, iA e5b, iA e5c], Nb h4, Gb h6, ?_⟩
 cbv
 replace hh := bind_some hh
 obtain ⟨x8, h7, hh⟩ := hh
 refine ae hF (aR hQ h7) ?_
 cbv
 exact Eb
theorem gl {p0 : GEng} {p1 : GRule} {p2 : GOcc} {r : Int × Bool} (hh : eR.f p0 p1 p2 = some r) : ag P 225 [.agg [tA (qGRule p0.Rules), oA 5 (qGGraphS p0.Graphs), oA 3 (qGEv p0.Events), oA 1 (qInt p0.Keys), oA 4 (qGFire p0.Fired)], .agg [sA p1.Name, iA p1.Pri, iA p1.Mode, iA p1.Ex.Kind, iA p1.Ex.Sym, iA p1.Ex.N, tA (qGEx p1.Ex.Kids), iA p1.Low, iA p1.High, iA p1.Key, iA p1.Add, iA p1.Raise], .agg [iA p2.From, iA p2.To, tA (qInt p2.Ids)]] [.agg [tA (qGRule p0.Rules), oA 5 (qGGraphS p0.Graphs), oA 3 (qGEv p0.Events), oA 1 (qInt p0.Keys), oA 4 (qGFire p0.Fired)], hA, hA] (.tup [iA r.1, bA r.2]) := by
  cases hQ; exact (lP .mk hh).lend (rfl) (.lend (by simp) (.same rfl (.same rfl .nil)))

theorem mr {p0 : GEng} {p1 : Int} {p2 : GOcc} {p3 : cB} {r : Int × GEng × cB} (hh : gw.f p0 p1 p2 p3 = some r) : ag P 190 [.obox [tA (qGRule p0.Rules), oA 5 (qGGraphS p0.Graphs), oA 3 (qGEv p0.Events), oA 1 (qInt p0.Keys), oA 4 (qGFire p0.Fired)], iA p1, .agg [iA p2.From, iA p2.To, tA (qInt p2.Ids)], .obox [oA 3 (qGEv p3.queue), iA p3.raised]] [.obox [tA (qGRule r.2.1.Rules), oA 5 (qGGraphS r.2.1.Graphs), oA 3 (qGEv r.2.1.Events), oA 1 (qInt r.2.1.Keys), oA 4 (qGFire r.2.1.Fired)], hA, hA, .obox [oA 3 (qGEv r.2.2.queue), iA r.2.2.raised]] (iA r.1) := by
 obtain ⟨p0a, p0b, p0c, p0d, p0e⟩ := p0
 obtain ⟨p2a, p2b, p2c⟩ := p2
 obtain ⟨p3a, p3b⟩ := p3
 unfold gw.f at hh
 refine go (ts := [(8, none)]) (rm := [.own]) (pm := [.own, .skip, .skip, .own]) Tryz.func190 ?_
 intro Fn LW IN len cast toNat wrap add sub mul bin lt eq At set part app fz' rep nadd nmax ssize sext sget scat seq slt Wide Flat Ones Room r' post' hC hF hr hp
 cbv
 replace hh := aa hh
 obtain ⟨h1, hh⟩ := hh
 replace hh := bind_some hh
 obtain ⟨⟨e2a, e2b, e2c, ⟨e2d, e2e, e2f, e2g⟩, e2h, e2i, e2j, e2k, e2l⟩, h3, hh⟩ := hh
 try dsimp only at hh
 refine ⟨[sA e2a, iA e2b, iA e2c, iA e2d, iA e2e, iA e2f, tA (qGEx e2g), iA e2h, iA e2i, iA e2j, iA e2k, iA e2l], Nb h1, Gb h3, ?_⟩
 cbv
 replace hh := bind_some hh
 obtain ⟨⟨x5_0, x5_1⟩, h4, hh⟩ := hh
 try dsimp only at hh
 have fc := gl hQ h4
 try dsimp only at fc
 refine ae hF fc ?_
 cbv
 replace hh := az hh
 rcases hh with ⟨b7, hh⟩ | ⟨b7, hh⟩
 have f8 : x5_1 = true := Tb b7
 have g := f8; cbv at g; try rw [f8]
 try rw [g]
 cbv
 replace hh := aa hh
 obtain ⟨h9, hh⟩ := hh
 try dsimp only at h9
 replace hh := aa hh
 obtain ⟨h10, hh⟩ := hh
 try dsimp only at h10
 refine ⟨Nb h9, Mb h10, ?_⟩
 replace hh := bind_some hh
 obtain ⟨e11, h12, hh⟩ := hh
 refine ⟨[iA e11], Gb h12, ?_⟩
 cbv
 replace hh := bind_some hh
 obtain ⟨x14, h13, hh⟩ := hh
 refine ae hF (aR hQ h13) ?_
 cbv
 replace hh := az hh
 rcases hh with ⟨b16, hh⟩ | ⟨b16, hh⟩
 have f17 : x14 = true := Tb b16
 have g := f17; cbv at g; try rw [f17]
 try rw [g]
 cbv
 replace hh := aa hh
 obtain ⟨h18, hh⟩ := hh
 try dsimp only at h18
 replace hh := aa hh
 obtain ⟨h19, hh⟩ := hh
 try dsimp only at h19
 refine ⟨Nb h18, Mb h19, ?_⟩
 refine ⟨[iA e11], Gb h12, ?_⟩
 cbv
 replace hh := aa hh
 obtain ⟨h20, hh⟩ := hh
 try dsimp only at h20
 replace hh := aa hh
 obtain ⟨h21, hh⟩ := hh
 try dsimp only at h21
 refine ⟨Nb h20, Mb h21, ?_⟩
 refine ⟨[iA e11], Gb h12, ?_⟩
 cbv
 replace hh := aa hh
 obtain ⟨h22, hh⟩ := hh
 try dsimp only at h22
 refine ⟨⟨Ob, Ab⟩, ?_⟩
 refine ⟨⟨Ob, Wb h22⟩, ?_⟩
 refine bcs (fun f24 => ?_) (fun f24 => ?_)
 replace hh := ifT hh f24
 try rw [f24]
 cbv
 exact Eb
 replace hh := ifF hh f24
 try rw [f24]
 cbv
 refine bcs (fun f26 => ?_) (fun f26 => ?_)
 replace hh := ifT hh f26
 try rw [f26]
 cbv
 exact Eb
 replace hh := ifF hh f26
 try rw [f26]
 cbv
 replace hh := aa hh
 obtain ⟨h27, hh⟩ := hh
 try dsimp only at h27
 refine ⟨⟨Ob, Ab⟩, ?_⟩
 refine ⟨⟨Ob, Wb h27⟩, ?_⟩
 exact Eb
 have f17 : x14 = false := Fb b16
 have g := f17; cbv at g; try rw [f17]
 try rw [g]
 cbv
 exact Eb
 have f8 : x5_1 = false := Fb b7
 have g := f8; cbv at g; try rw [f8]
 try rw [g]
 cbv
 exact Eb

theorem j9 {k : Nat} {p0 : GEng} {p1 : GEv} {p2 : cB} {r : Int × GEng × cB} (hh : aN.f k p0 p1 p2 = some r) : ag P 143 [.obox [tA (qGRule p0.Rules), oA 5 (qGGraphS p0.Graphs), oA 3 (qGEv p0.Events), oA 1 (qInt p0.Keys), oA 4 (qGFire p0.Fired)], .agg [iA p1.Sym, iA p1.At, iA p1.Val], .obox [oA 3 (qGEv p2.queue), iA p2.raised]] [.obox [tA (qGRule r.2.1.Rules), oA 5 (qGGraphS r.2.1.Graphs), oA 3 (qGEv r.2.1.Events), oA 1 (qInt r.2.1.Keys), oA 4 (qGFire r.2.1.Fired)], hA, .obox [oA 3 (qGEv r.2.2.queue), iA r.2.2.raised]] (iA r.1) := by
 obtain ⟨p0a, p0b, p0c, p0d, p0e⟩ := p0
 obtain ⟨p1a, p1b, p1c⟩ := p1
 obtain ⟨p2a, p2b⟩ := p2
 unfold aN.f at hh
 refine go (ts := [(6, none)]) (rm := [.own]) (pm := [.own, .skip, .own]) Tryz.func143 ?_
 intro Fn LW IN len cast toNat wrap add sub mul bin lt eq At set part app fz' rep nadd nmax ssize sext sget scat seq slt Wide Flat Ones Room r' post' hC hF hr hp
 cbv
 refine bcs (fun f2 => ?_) (fun f2 => ?_)
 replace hh := ifT hh f2
 try rw [f2]
 cbv
 exact Eb
 replace hh := ifF hh f2
 try rw [f2]
 cbv
 refine bcs (fun f4 => ?_) (fun f4 => ?_)
 replace hh := ifT hh f4
 try rw [f4]
 cbv
 exact Eb
 replace hh := ifF hh f4
 try rw [f4]
 cbv
 replace hh := aa hh
 obtain ⟨h5, hh⟩ := hh
 try dsimp only at h5
 refine ⟨⟨Ob, Ab⟩, ?_⟩
 refine ⟨⟨Ob, Wb h5⟩, ?_⟩
 replace hh := bind_some hh
 obtain ⟨x7, h6, hh⟩ := hh
 refine ae hF (oW hQ h6) ?_
 cbv
 replace hh := bind_some hh
 obtain ⟨o1, hl1, hq1⟩ := hh
 refine ap hC eok mixed (fun n (i : (List GRule) × (List GGraph) × (List GEv) × (List Int) × (List aH) × (List GEv) × Int × Int) => aN.l2 k (⟨p1a, p1b, p1c⟩ : GEv) x7 n i.1 i.2.1 i.2.2.1 i.2.2.2.1 i.2.2.2.2.1 i.2.2.2.2.2.1 i.2.2.2.2.2.2.1 i.2.2.2.2.2.2.2)
  (fun ⟨s72, s73, s74, s75, s76, s77, s78, s79⟩ => (⟨[(0, .mptr (0, 0) 1 0 0), (2, .mptr (2, 0) 1 0 0), (4, .mptr (4, 0) 1 0 0), (39, .ref (39, 0) 1 0 (len (qInt x7))), (40, iA (cast (len (qInt x7)))), (41, iA s79), (1000000, .mptr (0, 0) 1 0 0), (1000002, .mptr (2, 0) 1 0 0)], [((0, 0), .box 1 [tA (qGRule s72), .ref (900, 0) 1 0 (len (qGGraphS s73)), .ref (32, 0) 1 0 (len (qGEv s74)), .ref (900, 1) 1 0 (len (qInt s75)), .ref (900, 2) 1 0 (len (qGFire s76))]), ((2, 0), .box 1 [.ref (901, 0) 1 0 (len (qGEv s77)), iA s78]), ((4, 0), .box 1 [iA p1a, iA p1b, iA p1c]), ((32, 0), .arr 1 3 (qGEv s74)), ((39, 0), .arr 1 1 (qInt x7)), ((900, 0), .arr 1 5 (qGGraphS s73)), ((900, 1), .arr 1 1 (qInt s75)), ((900, 2), .arr 1 4 (qGFire s76)), ((901, 0), .arr 1 3 (qGEv s77))]⟩ : St))
  (fun (⟨x143, x144, x145, x146, x147, x148, x149⟩ : (List GRule) × (List GGraph) × (List GEv) × (List Int) × (List aH) × (List GEv) × Int) => (⟨[(1000000, .mptr (0, 0) 1 0 0), (1000002, .mptr (2, 0) 1 0 0)], [((0, 0), .box 1 [tA (qGRule x143), .ref (900, 0) 1 0 (len (qGGraphS x144)), .ref (32, 0) 1 0 (len (qGEv x145)), .ref (900, 1) 1 0 (len (qInt x146)), .ref (900, 2) 1 0 (len (qGFire x147))]), ((2, 0), .box 1 [.ref (901, 0) 1 0 (len (qGEv x148)), iA x149]), ((32, 0), .arr 1 3 (qGEv x145)), ((900, 0), .arr 1 5 (qGGraphS x144)), ((900, 1), .arr 1 1 (qInt x146)), ((900, 2), .arr 1 4 (qGFire x147)), ((901, 0), .arr 1 3 (qGEv x148))]⟩ : St)) .ok (.exit 0)
  (i0 := (_, _, _, _, _, _, _, _)) hl1 (fun _ => rfl) ?_ ?_ ?_
 ·rintro ⟨t0, t1, t2, t3, t4, t5, t6, t7⟩ e
  refine dj hC (0, 0) 900 ?_
  cbv
  refine dj hC (2, 0) 901 ?_
  cbv
  refine ah ?_
  cbv
  all_goals exact J8
 rintro ⟨x143, x144, x145, x146, x147, x148, x149⟩ hx
 subst o1
 have hh := hq1
 cbv
 exact Eb
 rintro n ⟨s72, s73, s74, s75, s76, s77, s78, s79⟩ N1 D1 hh hN1 hD1 hQ1
 try dsimp only at hh
 unfold aN.l2 at hh
 cbv
 refine bcs (fun f151 => ?_) (fun f151 => ?_)
 replace hh := ifT hh f151
 try rw [f151]
 cbv
 replace hh := aa hh
 obtain ⟨h152, hh⟩ := hh
 replace hh := aa hh
 obtain ⟨h153, hh⟩ := hh
 refine ⟨Nb h152, Mb h153, ?_⟩
 replace hh := bind_some hh
 obtain ⟨e154, h155, hh⟩ := hh
 refine ⟨[iA e154], Gb h155, ?_⟩
 cbv
 replace hh := aa hh
 obtain ⟨h156, hh⟩ := hh
 replace hh := aa hh
 obtain ⟨h157, hh⟩ := hh
 refine ⟨Nb h156, Mb h157, ?_⟩
 replace hh := bind_some hh
 obtain ⟨⟨e158a, e158b, e158c, e158d, e158e⟩, h159, hh⟩ := hh
 try dsimp only at hh
 replace hh := bind_some hh
 obtain ⟨⟨x161_0, ⟨x161_1a, x161_1b, x161_1c, x161_1d, x161_1e⟩⟩, h160, hh⟩ := hh
 try dsimp only at hh
 have fc := ag.rowedC hC (kT hQ h160) rfl (.row (rows := (qGGraphS s73)) (k := 5) (i := (nadd 0 (toNat e154))) (Gb h159) rfl (.same .nil))
 try dsimp only at fc
 refine ae hF fc ?_
 cbv
 refine ⟨⟨Ob, trivial⟩, ?_⟩
 cbv
 refine ⟨[iA x161_1a, oA 10 (qGNode x161_1b), iA x161_1c, iA x161_1d, bA x161_1e], Gb2 h159 ((List.getElem?_eq_some_iff.1 h159).1), ?_⟩
 cbv
 refine bcs (fun f164 => ?_) (fun f164 => ?_)
 replace hh := ifT hh f164
 try rw [f164]
 cbv
 cases hh
 have hh : some _ = some _ := hq1
 refine hQ1 _ _ ?_
 cbv
 exact Eb
 replace hh := ifF hh f164
 try rw [f164]
 cbv
 replace hh := bind_some hh
 obtain ⟨o2, hl2, hq2⟩ := hh
 refine ap hC eok mixed (fun n (i : (List GRule) × (List GGraph) × (List GEv) × (List Int) × (List aH) × (List GEv) × Int × Int) => aN.l3 k e154 (⟨x161_0, ⟨x161_1a, x161_1b, x161_1c, x161_1d, x161_1e⟩⟩ : (List GOcc) × GGraph) n i.1 i.2.1 i.2.2.1 i.2.2.2.1 i.2.2.2.2.1 i.2.2.2.2.2.1 i.2.2.2.2.2.2.1 i.2.2.2.2.2.2.2)
  (fun ⟨s176, s177, s178, s179, s180, s181, s182, s183⟩ => (⟨[(0, .mptr (0, 0) 1 0 0), (2, .mptr (2, 0) 1 0 0), (4, .mptr (4, 0) 1 0 0), (8, iA e154), (39, .ref (39, 0) 1 0 (len (qInt x7))), (40, iA (cast (len (qInt x7)))), (41, iA s79), (58, .ref (53, 0) 1 0 (len (qGOcc x161_0))), (59, iA (cast (len (qGOcc x161_0)))), (60, iA s183), (1000000, .mptr (0, 0) 1 0 0), (1000002, .mptr (2, 0) 1 0 0)], [((0, 0), .box 1 [tA (qGRule s176), .ref (900, 0) 1 0 (len (qGGraphS s177)), .ref (32, 0) 1 0 (len (qGEv s178)), .ref (900, 1) 1 0 (len (qInt s179)), .ref (900, 2) 1 0 (len (qGFire s180))]), ((2, 0), .box 1 [.ref (901, 0) 1 0 (len (qGEv s181)), iA s182]), ((4, 0), .box 1 [iA p1a, iA p1b, iA p1c]), ((32, 0), .arr 1 3 (qGEv s178)), ((39, 0), .arr 1 1 (qInt x7)), ((53, 0), .arr 1 3 (qGOcc x161_0)), ((900, 0), .arr 1 5 (qGGraphS s177)), ((900, 1), .arr 1 1 (qInt s179)), ((900, 2), .arr 1 4 (qGFire s180)), ((901, 0), .arr 1 3 (qGEv s181))]⟩ : St))
  (fun (⟨x195, x196, x197, x198, x199, x200, x201⟩ : (List GRule) × (List GGraph) × (List GEv) × (List Int) × (List aH) × (List GEv) × Int) => (⟨[(0, .mptr (0, 0) 1 0 0), (2, .mptr (2, 0) 1 0 0), (4, .mptr (4, 0) 1 0 0), (39, .ref (39, 0) 1 0 (len (qInt x7))), (40, iA (cast (len (qInt x7)))), (41, iA s79), (1000000, .mptr (0, 0) 1 0 0), (1000002, .mptr (2, 0) 1 0 0)], [((0, 0), .box 1 [tA (qGRule x195), .ref (900, 0) 1 0 (len (qGGraphS x196)), .ref (32, 0) 1 0 (len (qGEv x197)), .ref (900, 1) 1 0 (len (qInt x198)), .ref (900, 2) 1 0 (len (qGFire x199))]), ((2, 0), .box 1 [.ref (901, 0) 1 0 (len (qGEv x200)), iA x201]), ((4, 0), .box 1 [iA p1a, iA p1b, iA p1c]), ((32, 0), .arr 1 3 (qGEv x197)), ((39, 0), .arr 1 1 (qInt x7)), ((900, 0), .arr 1 5 (qGGraphS x196)), ((900, 1), .arr 1 1 (qInt x198)), ((900, 2), .arr 1 4 (qGFire x199)), ((901, 0), .arr 1 3 (qGEv x200))]⟩ : St)) .ok (.exit 2)
  (i0 := (_, _, _, _, _, _, _, _)) hl2 (fun _ => rfl) ?_ ?_ ?_
 ·rintro ⟨t0, t1, t2, t3, t4, t5, t6, t7⟩ e
  refine ah ?_
  cbv
  all_goals exact J8
 rintro ⟨x195, x196, x197, x198, x199, x200, x201⟩ hx
 subst o2
 have hh := hq2
 cbv
 ·refine hN1 (_, _, _, _, _, _, _, _) _ hh fun ⟨t0, t1, t2, t3, t4, t5, t6, t7⟩ e => ?_
  refine ah ?_
  cbv
  all_goals exact J8
 rintro n ⟨s176, s177, s178, s179, s180, s181, s182, s183⟩ N2 D2 hh hN2 hD2 hQ2
 try dsimp only at hh
 unfold aN.l3 at hh
 cbv
 refine bcs (fun f203 => ?_) (fun f203 => ?_)
 replace hh := ifT hh f203
 try rw [f203]
 cbv
 replace hh := aa hh
 obtain ⟨h204, hh⟩ := hh
 replace hh := aa hh
 obtain ⟨h205, hh⟩ := hh
 try dsimp only at h205
 refine ⟨Nb h204, Mb h205, ?_⟩
 replace hh := bind_some hh
 obtain ⟨⟨e206a, e206b, e206c⟩, h207, hh⟩ := hh
 try dsimp only at hh
 refine ⟨[iA e206a, iA e206b, tA (qInt e206c)], Gb h207, ?_⟩
 cbv
 replace hh := bind_some hh
 obtain ⟨⟨x209_0, ⟨x209_1a, x209_1b, x209_1c, x209_1d, x209_1e⟩, ⟨x209_2a, x209_2b⟩⟩, h208, hh⟩ := hh
 try dsimp only at hh
 have fc := mr hQ h208
 try dsimp only at fc
 refine ae hF fc ?_
 cbv
 replace hh := az hh
 rcases hh with ⟨b211, hh⟩ | ⟨b211, hh⟩
 have f212 : (eq x209_0 0) = true := Tb b211
 have g := f212; cbv at g; try rw [f212]
 try rw [g]
 cbv
 ·refine hN2 (_, _, _, _, _, _, _, _) _ hh fun ⟨t0, t1, t2, t3, t4, t5, t6, t7⟩ e => ?_
  refine dj hC (0, 0) 900 ?_
  cbv
  refine dj hC (2, 0) 901 ?_
  cbv
  refine aq [((0, 0), (0, 0)), ((2, 0), (2, 0)), ((4, 0), (4, 0)), ((32, 0), (900, 1)), ((39, 0), (39, 0)), ((53, 0), (53, 0)), ((900, 0), (900, 0)), ((900, 1), (900, 2)), ((900, 2), (900, 3)), ((901, 0), (901, 0))] ?_
  cbv
  all_goals exact J8
 have f212 : (eq x209_0 0) = false := Fb b211
 have g := f212; cbv at g; try rw [f212]
 try rw [g]
 cbv
 cases hh
 have hh : some _ = some _ := hq2
 cases hh
 have hh : some _ = some _ := hq1
 refine hQ2 _ _ ?_
 refine hQ1 _ _ ?_
 cbv
 exact Eb
 replace hh := ifF hh f203
 try rw [f203]
 cbv
 ·refine hD2 (_, _, _, _, _, _, _) _ hh fun ⟨t0, t1, t2, t3, t4, t5, t6⟩ e => ?_
  refine ah ?_
  cbv
  all_goals exact J7
 replace hh := ifF hh f151
 try rw [f151]
 cbv
 ·refine hD1 (_, _, _, _, _, _, _) _ hh fun ⟨t0, t1, t2, t3, t4, t5, t6⟩ e => ?_
  refine ah ?_
  cbv
  all_goals exact J7

theorem mG {k : Nat} {p0 : GEng} {p1 : Int} {p2 : Int} {p3 : Int} {r : GEng × Int × (List aH)} (hh : bu.f k p0 p1 p2 p3 = some r) : ag P 84 [.agg [tA (qGRule p0.Rules), tA (qGGraph p0.Graphs), tA (qGEv p0.Events), tA (qInt p0.Keys), tA (qGFire p0.Fired)], iA p1, iA p2, iA p3] [hA, hA, hA, hA] (.tup [.agg [tA (qGRule r.1.Rules), oA 5 (qGGraphS r.1.Graphs), oA 3 (qGEv r.1.Events), oA 1 (qInt r.1.Keys), oA 4 (qGFire r.1.Fired)], iA r.2.1, oA 4 (qGFire r.2.2)]) := by
 obtain ⟨p0a, p0b, p0c, p0d, p0e⟩ := p0
 unfold bu.f at hh
 refine goG (g := [9, 12]) (i := []) (o := []) (sh := []) (ts := [(8, some 53), (9, none), (10, none)]) (rm := [.own, .own, .own]) (pm := [.skip, .skip, .skip, .skip]) Tryz.func84 ?_
 intro Fn LW IN len cast toNat wrap add sub mul bin lt eq At set part app fz' rep nadd nmax ssize sext sget scat seq slt Wide Flat Ones Room r' post' hC hF hr hp
 cbv
 replace hh := bind_some hh
 obtain ⟨⟨x2a, x2b, x2c, x2d, x2e⟩, h1, hh⟩ := hh
 try dsimp only at hh
 have fc := ea hQ h1
 try dsimp only at fc
 refine ae hF fc ?_
 cbv
 replace hh := bind_some hh
 obtain ⟨o1, hl1, hq1⟩ := hh
 refine ap hC (bN [9, 12] [] []) mixed (fun n (i : (List GRule) × (List GGraph) × (List GEv) × (List Int) × (List aH) × (List GEv) × Int × Int) => bu.l0 k (⟨p0a, p0b, p0c, p0d, p0e⟩ : GEng) n i.1 i.2.1 i.2.2.1 i.2.2.2.1 i.2.2.2.2.1 i.2.2.2.2.2.1 i.2.2.2.2.2.2.1 i.2.2.2.2.2.2.2)
  (fun ⟨s24, s25, s26, s27, s28, s29, s30, s31⟩ => (⟨[(4, .mptr (4, 0) 1 0 0), (8, .mptr (8, 0) 1 0 0), (11, .mptr (11, 0) 1 0 0), (12, .mptr (23, 0) 1 0 0), (13, iA s31)], [((4, 0), .box 1 [tA (qGRule p0a), tA (qGGraph p0b), tA (qGEv p0c), tA (qInt p0d), tA (qGFire p0e)]), ((8, 0), .box 1 [.lit (.slice none 0 0), .lit (.slice none 0 0), .lit (.slice none 0 0), .lit (.slice none 0 0), .lit (.slice none 0 0)]), ((11, 0), .box 1 [tA (qGRule s24), .ref (17, 0) 1 0 (len (qGGraphS s25)), .ref (17, 1) 1 0 (len (qGEv s26)), .ref (17, 2) 1 0 (len (qInt s27)), .ref (17, 3) 1 0 (len (qGFire s28))]), ((17, 0), .arr 1 5 (qGGraphS s25)), ((17, 1), .arr 1 3 (qGEv s26)), ((17, 2), .arr 1 1 (qInt s27)), ((17, 3), .arr 1 4 (qGFire s28)), ((21, 0), .arr 1 3 (qGEv s29)), ((23, 0), .box 1 [.ref (21, 0) 1 0 (len (qGEv s29)), iA s30])]⟩ : St))
  (fun (⟨x52, x53, x54, x55, x56⟩ : (List GRule) × (List GGraph) × (List GEv) × (List Int) × (List aH)) => (⟨[(4, .mptr (4, 0) 1 0 0), (8, .mptr (8, 0) 1 0 0), (11, .mptr (11, 0) 1 0 0)], [((4, 0), .box 1 [tA (qGRule p0a), tA (qGGraph p0b), tA (qGEv p0c), tA (qInt p0d), tA (qGFire p0e)]), ((8, 0), .box 1 [.lit (.slice none 0 0), .lit (.slice none 0 0), .lit (.slice none 0 0), .lit (.slice none 0 0), .lit (.slice none 0 0)]), ((11, 0), .box 1 [tA (qGRule x52), .ref (17, 0) 1 0 (len (qGGraphS x53)), .ref (17, 1) 1 0 (len (qGEv x54)), .ref (17, 2) 1 0 (len (qInt x55)), .ref (17, 3) 1 0 (len (qGFire x56))]), ((17, 0), .arr 1 5 (qGGraphS x53)), ((17, 1), .arr 1 3 (qGEv x54)), ((17, 2), .arr 1 1 (qInt x55)), ((17, 3), .arr 1 4 (qGFire x56))]⟩ : St)) .ok (.exit 0)
  (i0 := (_, _, _, _, _, _, _, _)) hl1 (fun _ => rfl) ?_ ?_ ?_
 ·rintro ⟨t0, t1, t2, t3, t4, t5, t6, t7⟩ e
  refine ah ?_
  cbv
  all_goals exact J8
 rintro ⟨x52, x53, x54, x55, x56⟩ hx
 subst o1
 have hh := hq1
 cbv
 refine rZ hC (bN [9, 12] [] []) mixed [(17, 0), (17, 1), (17, 2), (17, 3)] ?_
 cbv
 replace hh := bind_some hh
 obtain ⟨⟨x78a, x78b, x78c, x78d, x78e⟩, h77, hh⟩ := hh
 try dsimp only at hh
 refine ⟨Ob, ?_⟩
 refine ⟨Ob, ?_⟩
 refine ⟨Ob, ?_⟩
 refine ⟨Ob, ?_⟩
 have fc := ea hQ h77
 try dsimp only at fc
 refine ae hF fc ?_
 cbv
 replace hh := aa hh
 obtain ⟨h80, hh⟩ := hh
 try dsimp only at h80
 replace hh := aa hh
 obtain ⟨h81, hh⟩ := hh
 try dsimp only at h81
 replace hh := aa hh
 obtain ⟨h82, hh⟩ := hh
 refine ⟨⟨Nb h80, Nb h81, Nb h82⟩, ?_⟩
 replace hh := bind_some hh
 obtain ⟨x84, h83, hh⟩ := hh
 refine ⟨Ob, ?_⟩
 refine ae hF (gD hQ h83) ?_
 cbv
 exact Eb
 rintro n ⟨s24, s25, s26, s27, s28, s29, s30, s31⟩ N1 D1 hh hN1 hD1 hQ1
 try dsimp only at hh
 unfold bu.l0 at hh
 cbv
 refine bcs (fun f58 => ?_) (fun f58 => ?_)
 replace hh := ifT hh f58
 try rw [f58]
 cbv
 replace hh := aa hh
 obtain ⟨h59, hh⟩ := hh
 replace hh := aa hh
 obtain ⟨h60, hh⟩ := hh
 refine ⟨Nb h59, Mb h60, ?_⟩
 replace hh := bind_some hh
 obtain ⟨⟨e61a, e61b, e61c⟩, h62, hh⟩ := hh
 try dsimp only at hh
 refine ⟨[iA e61a, iA e61b, iA e61c], Gb h62, ?_⟩
 cbv
 replace hh := aa hh
 obtain ⟨h63, hh⟩ := hh
 replace hh := aa hh
 obtain ⟨h64, hh⟩ := hh
 replace hh := aa hh
 obtain ⟨h65, hh⟩ := hh
 refine ⟨⟨Nb h63, Nb h64, Nb h65⟩, ?_⟩
 replace hh := bind_some hh
 obtain ⟨x67, h66, hh⟩ := hh
 refine ae hF (nU hQ h66) ?_
 cbv
 refine rB hC (bN [9, 12] [] []) mixed (⟨[(4, .mptr (4, 0) 1 0 0), (8, .mptr (8, 0) 1 0 0), (11, .mptr (11, 0) 1 0 0), (12, .mptr (23, 0) 1 0 0), (14, .mptr (14, 0) 1 0 0)], [((4, 0), .box 1 [tA (qGRule p0a), tA (qGGraph p0b), tA (qGEv p0c), tA (qInt p0d), tA (qGFire p0e)]), ((8, 0), .box 1 [.lit (.slice none 0 0), .lit (.slice none 0 0), .lit (.slice none 0 0), .lit (.slice none 0 0), .lit (.slice none 0 0)]), ((11, 0), .box 1 [tA (qGRule s24), .ref (17, 0) 1 0 (len (qGGraphS s25)), .ref (17, 1) 1 0 (len (qGEv s26)), .ref (17, 2) 1 0 (len (qInt s27)), .ref (17, 3) 1 0 (len (qGFire s28))]), ((14, 0), .box 1 [iA e61a, iA (wrap .i64 (add x67 s31)), iA e61c]), ((17, 0), .arr 1 5 (qGGraphS s25)), ((17, 1), .arr 1 3 (qGEv s26)), ((17, 2), .arr 1 1 (qInt s27)), ((17, 3), .arr 1 4 (qGFire s28)), ((21, 0), .arr 1 3 (part (qGEv s29) (nadd 0 (toNat 1)) (toNat (sub (cast (len (qGEv s29))) 1)))), ((23, 0), .box 1 [.ref (21, 0) 1 0 (toNat (sub (cast (len (qGEv s29))) 1)), iA s30])]⟩ : St) ?_ ?_
 ·cbv
  refine rF hC (23, 0) 0 ?_
  cbv
  refine ⟨Ob, ?_⟩
  refine ah ?_
  cbv
  all_goals exact Zb
 cbv
 replace hh := bind_some hh
 obtain ⟨⟨x70_0, ⟨x70_1a, x70_1b, x70_1c, x70_1d, x70_1e⟩, ⟨x70_2a, x70_2b⟩⟩, h69, hh⟩ := hh
 try dsimp only at hh
 refine ⟨Ob, ?_⟩
 have fc := j9 hQ h69
 try dsimp only at fc
 refine ae hF fc ?_
 cbv
 replace hh := az hh
 rcases hh with ⟨b72, hh⟩ | ⟨b72, hh⟩
 have f73 : (eq x70_0 0) = true := Tb b72
 have g := f73; cbv at g; try rw [f73]
 try rw [g]
 cbv
 ·refine hN1 (_, _, _, _, _, _, _, _) _ hh fun ⟨t0, t1, t2, t3, t4, t5, t6, t7⟩ e => ?_
  refine dj hC (11, 0) 900 ?_
  cbv
  refine dj hC (23, 0) 901 ?_
  cbv
  refine aq [((4, 0), (4, 0)), ((8, 0), (8, 0)), ((11, 0), (11, 0)), ((17, 0), (900, 0)), ((17, 1), (900, 1)), ((17, 2), (900, 2)), ((17, 3), (900, 3)), ((21, 0), (901, 0)), ((23, 0), (23, 0))] ?_
  cbv
  all_goals exact J8
 have f73 : (eq x70_0 0) = false := Fb b72
 have g := f73; cbv at g; try rw [f73]
 try rw [g]
 cbv
 replace hh := bind_some hh
 obtain ⟨⟨x75a, x75b, x75c, x75d, x75e⟩, h74, hh⟩ := hh
 try dsimp only at hh
 have fc := ea hQ h74
 try dsimp only at fc
 refine ae hF fc ?_
 cbv
 cases hh
 have hh : some _ = some _ := hq1
 refine hQ1 _ _ ?_
 cbv
 refine ⟨4, ?_⟩
 cbv
 exact Eb
 replace hh := ifF hh f58
 try rw [f58]
 cbv
 ·refine hD1 (_, _, _, _, _) _ hh fun ⟨t0, t1, t2, t3, t4⟩ e => ?_
  refine ah ?_
  cbv
  all_goals exact J5

theorem mX {k : Nat} {p0 : GEng} {p1 : Int} {p2 : Int} {p3 : Int} {r : GEng × Int × (List aH)} (hh : eI.f k p0 p1 p2 p3 = some r) : ag P 35 [.agg [tA (qGRule p0.Rules), tA (qGGraph p0.Graphs), tA (qGEv p0.Events), tA (qInt p0.Keys), tA (qGFire p0.Fired)], iA p1, iA p2, iA p3] [hA, hA, hA, hA] (.tup [.agg [tA (qGRule r.1.Rules), oA 5 (qGGraphS r.1.Graphs), oA 3 (qGEv r.1.Events), oA 1 (qInt r.1.Keys), oA 4 (qGFire r.1.Fired)], iA r.2.1, oA 4 (qGFire r.2.2)]) := by
 obtain ⟨p0a, p0b, p0c, p0d, p0e⟩ := p0
 unfold eI.f at hh
 refine go (ts := [(8, some 53), (9, none), (10, none)]) (rm := [.own, .own, .own]) (pm := [.skip, .skip, .skip, .skip]) Tryz.func35 ?_
 intro Fn LW IN len cast toNat wrap add sub mul bin lt eq At set part app fz' rep nadd nmax ssize sext sget scat seq slt Wide Flat Ones Room r' post' hC hF hr hp
 cbv
 replace hh := bind_some hh
 obtain ⟨x2, h1, hh⟩ := hh
 refine ae hF (oZ hQ h1) ?_
 cbv
 replace hh := az hh
 rcases hh with ⟨b4, hh⟩ | ⟨b4, hh⟩
 have f5 : x2 = true := Tb b4
 have g := f5; cbv at g; try rw [f5]
 try rw [g]
 cbv
 replace hh := bind_some hh
 obtain ⟨x7, h6, hh⟩ := hh
 refine ae hF (jT hQ h6) ?_
 cbv
 replace hh := az hh
 rcases hh with ⟨b9, hh⟩ | ⟨b9, hh⟩
 have f10 : x7 = true := Tb b9
 have g := f10; cbv at g; try rw [f10]
 try rw [g]
 cbv
 replace hh := bind_some hh
 obtain ⟨⟨⟨x12_0a, x12_0b, x12_0c, x12_0d, x12_0e⟩, x12_1, x12_2⟩, h11, hh⟩ := hh
 try dsimp only at hh
 have fc := mG hQ h11
 try dsimp only at fc
 refine ae hF fc ?_
 cbv
 exact Eb
 have f10 : x7 = false := Fb b9
 have g := f10; cbv at g; try rw [f10]
 try rw [g]
 cbv
 replace hh := bind_some hh
 obtain ⟨⟨x15a, x15b, x15c, x15d, x15e⟩, h14, hh⟩ := hh
 try dsimp only at hh
 have fc := ea hQ h14
 try dsimp only at fc
 refine ae hF fc ?_
 cbv
 refine ⟨4, ?_⟩
 cbv
 exact Eb
 have f5 : x2 = false := Fb b4
 have g := f5; cbv at g; try rw [f5]
 try rw [g]
 cbv
 refine ⟨0, ?_⟩
 cbv
 refine ⟨5, ?_⟩
 cbv
 refine ⟨3, ?_⟩
 cbv
 refine ⟨1, ?_⟩
 cbv
 refine ⟨4, ?_⟩
 cbv
 refine ⟨4, ?_⟩
 cbv
 exact Eb

theorem eS {k : Nat} {p0 : List GRule} {p1 : List av} {r : GEng × (List Int)} (hh : aY.f k p0 p1 = some r) : ag P 30 [tA (qGRule p0), tA (qGCall p1)] [hA, hA] (.tup [.agg [tA (qGRule r.1.Rules), oA 5 (qGGraphS r.1.Graphs), oA 3 (qGEv r.1.Events), oA 1 (qInt r.1.Keys), oA 4 (qGFire r.1.Fired)], oA 1 (qInt r.2)]) := by
 unfold aY.f at hh
 refine go (ts := [(4, some 53), (5, none)]) (rm := [.own, .own]) (pm := [.skip, .skip]) Tryz.func30 ?_
 intro Fn LW IN len cast toNat wrap add sub mul bin lt eq At set part app fz' rep nadd nmax ssize sext sget scat seq slt Wide Flat Ones Room r' post' hC hF hr hp
 cbv
 replace hh := bind_some hh
 obtain ⟨x2, h1, hh⟩ := hh
 refine ae hF (fM hQ h1) ?_
 cbv
 replace hh := az hh
 rcases hh with ⟨b4, hh⟩ | ⟨b4, hh⟩
 have f5 : x2 = true := Tb b4
 have g := f5; cbv at g; try rw [f5]
 try rw [g]
 cbv
 replace hh := bind_some hh
 obtain ⟨x7, h6, hh⟩ := hh
 refine ae hF (jU hQ h6) ?_
 cbv
 replace hh := az hh
 rcases hh with ⟨b9, hh⟩ | ⟨b9, hh⟩
 have f10 : x7 = true := Tb b9
 have g := f10; cbv at g; try rw [f10]
 try rw [g]
 cbv
 replace hh := bind_some hh
 obtain ⟨⟨x12a, x12b, x12c, x12d, x12e⟩, h11, hh⟩ := hh
 try dsimp only at hh
 have fc := mR hQ h11
 try dsimp only at fc
 refine ae hF fc ?_
 cbv
 replace hh := bind_some hh
 obtain ⟨o1, hl1, hq1⟩ := hh
 refine ap hC eok mixed (fun n (i : (List GRule) × (List GGraph) × (List GEv) × (List Int) × (List aH) × (List Int) × Int) => aY.l0 k p1 n i.1 i.2.1 i.2.2.1 i.2.2.2.1 i.2.2.2.2.1 i.2.2.2.2.2.1 i.2.2.2.2.2.2)
  (fun ⟨s23, s24, s25, s26, s27, s28, s29⟩ => (⟨[(4, .mptr (4, 0) 1 0 0), (6, .mptr (6, 0) 1 0 0), (7, .ref (7, 50) 1 0 (len (qInt s28))), (24, tA (qGCall p1)), (25, iA (cast (len (qGCall p1)))), (26, iA s29)], [((4, 0), .box 1 [.lit (.slice none 0 0), .lit (.slice none 0 0), .lit (.slice none 0 0), .lit (.slice none 0 0), .lit (.slice none 0 0)]), ((6, 0), .box 1 [tA (qGRule s23), .ref (23, 0) 1 0 (len (qGGraphS s24)), .ref (23, 1) 1 0 (len (qGEv s25)), .ref (23, 2) 1 0 (len (qInt s26)), .ref (23, 3) 1 0 (len (qGFire s27))]), ((7, 50), .arr 1 1 (qInt s28)), ((23, 0), .arr 1 5 (qGGraphS s24)), ((23, 1), .arr 1 3 (qGEv s25)), ((23, 2), .arr 1 1 (qInt s26)), ((23, 3), .arr 1 4 (qGFire s27))]⟩ : St))
  (fun (⟨x39, x40, x41, x42, x43, x44⟩ : (List GRule) × (List GGraph) × (List GEv) × (List Int) × (List aH) × (List Int)) => (⟨[(4, .mptr (4, 0) 1 0 0), (6, .mptr (6, 0) 1 0 0), (7, .ref (7, 50) 1 0 (len (qInt x44)))], [((4, 0), .box 1 [.lit (.slice none 0 0), .lit (.slice none 0 0), .lit (.slice none 0 0), .lit (.slice none 0 0), .lit (.slice none 0 0)]), ((6, 0), .box 1 [tA (qGRule x39), .ref (23, 0) 1 0 (len (qGGraphS x40)), .ref (23, 1) 1 0 (len (qGEv x41)), .ref (23, 2) 1 0 (len (qInt x42)), .ref (23, 3) 1 0 (len (qGFire x43))]), ((7, 50), .arr 1 1 (qInt x44)), ((23, 0), .arr 1 5 (qGGraphS x40)), ((23, 1), .arr 1 3 (qGEv x41)), ((23, 2), .arr 1 1 (qInt x42)), ((23, 3), .arr 1 4 (qGFire x43))]⟩ : St)) (fun x => x) (.exit 0)
  (i0 := (_, _, _, _, _, _, _)) hl1 (fun _ => rfl) ?_ ?_ ?_
 ·rintro ⟨t0, t1, t2, t3, t4, t5, t6⟩ e
  refine aq [((4, 0), (4, 0)), ((6, 0), (6, 0)), ((23, 0), (23, 0)), ((23, 1), (23, 1)), ((23, 2), (23, 2)), ((23, 3), (23, 3))] ?_
  cbv
  all_goals exact J7
 rintro ⟨x39, x40, x41, x42, x43, x44⟩ hx
 subst o1
 have hh := hq1
 cbv
 exact Eb
 rintro n ⟨s23, s24, s25, s26, s27, s28, s29⟩ N1 D1 hh hN1 hD1 hQ1
 try dsimp only at hh
 unfold aY.l0 at hh
 cbv
 refine bcs (fun f46 => ?_) (fun f46 => ?_)
 replace hh := ifT hh f46
 try rw [f46]
 cbv
 replace hh := aa hh
 obtain ⟨h47, hh⟩ := hh
 replace hh := bind_some hh
 obtain ⟨⟨e48a, e48b, e48c⟩, h49, hh⟩ := hh
 try dsimp only at hh
 refine ⟨[iA e48a, iA e48b, iA e48c], Nb h47, Gb h49, ?_⟩
 cbv
 replace hh := bind_some hh
 obtain ⟨⟨⟨x51_0a, x51_0b, x51_0c, x51_0d, x51_0e⟩, x51_1, x51_2⟩, h50, hh⟩ := hh
 try dsimp only at hh
 refine ⟨Ob, ?_⟩
 refine ⟨Ob, ?_⟩
 refine ⟨Ob, ?_⟩
 refine ⟨Ob, ?_⟩
 have fc := mX hQ h50
 try dsimp only at fc
 refine ae hF fc ?_
 cbv
 replace hh := aa hh
 obtain ⟨h53, hh⟩ := hh
 refine ⟨⟨Ob, Ab⟩, ?_⟩
 refine ⟨⟨Ob, Wb h53⟩, ?_⟩
 ·refine hN1 (_, _, _, _, _, _, _) _ hh fun ⟨t0, t1, t2, t3, t4, t5, t6⟩ e => ?_
  refine aq [((4, 0), (4, 0)), ((6, 0), (6, 0)), ((7, 50), (46, 0)), ((23, 0), (38, 0)), ((23, 1), (38, 1)), ((23, 2), (38, 2)), ((23, 3), (38, 3))] ?_
  cbv
  all_goals exact J7
 replace hh := ifF hh f46
 try rw [f46]
 cbv
 ·refine hD1 (_, _, _, _, _, _) _ hh fun ⟨t0, t1, t2, t3, t4, t5⟩ e => ?_
  refine ah ?_
  cbv
  all_goals exact J6
 have f10 : x7 = false := Fb b9
 have g := f10; cbv at g; try rw [f10]
 try rw [g]
 cbv
 refine ⟨0, ?_⟩
 cbv
 refine ⟨5, ?_⟩
 cbv
 refine ⟨3, ?_⟩
 cbv
 refine ⟨1, ?_⟩
 cbv
 refine ⟨4, ?_⟩
 cbv
 refine ⟨1, ?_⟩
 cbv
 exact Eb
 have f5 : x2 = false := Fb b4
 have g := f5; cbv at g; try rw [f5]
 try rw [g]
 cbv
 refine ⟨0, ?_⟩
 cbv
 refine ⟨5, ?_⟩
 cbv
 refine ⟨3, ?_⟩
 cbv
 refine ⟨1, ?_⟩
 cbv
 refine ⟨4, ?_⟩
 cbv
 refine ⟨1, ?_⟩
 cbv
 exact Eb

end Go.Proofs.YtlbnmldopjadoaaGreat
