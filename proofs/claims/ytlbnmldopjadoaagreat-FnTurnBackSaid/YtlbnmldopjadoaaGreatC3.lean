/- The functions of this program do what the plain ones do. -/
import Derived.Test.YtlbnmldopjadoaaGreatC2
namespace Go.Proofs.YtlbnmldopjadoaaGreat
open Go Go.Vm
set_option linter.unusedVariables false
set_option maxHeartbeats 4000000
set_option maxRecDepth 4000
variable {qIu8 : List Int → Vm.Rows} {qInt : List Int → Vm.Rows} {qGExO : List GEx → Vm.Rows} {qGEx : List GEx → Vm.Rows} {qGEv : List GEv → Vm.Rows} {qGOcc : List GOcc → Vm.Rows} {qGNode : List GNode → Vm.Rows} {qLGOcc : List (List GOcc) → Vm.Rows} {qLInt : List (List Int) → Vm.Rows} {qGOccO : List GOcc → Vm.Rows} (hQ : EQ qIu8 qInt qGExO qGEx qGEv qGOcc qGNode qLGOcc qLInt qGOccO)
include hQ
theorem lC {k : Nat} {p0 : GGraph} {p1 : Int} {p2 : GEv} {r : (List GOcc) × GGraph × GEv} (hh : ai.f k p0 p1 p2 = some r) : am P 130 [.obox [iA p0.Mode, oA 10 (qGNode p0.Nodes), iA p0.Seen, iA p0.Now, bA p0.Full], iA p1, .obox [iA p2.Sym, iA p2.At, iA p2.Val]] [.obox [iA r.2.1.Mode, oA 10 (qGNode r.2.1.Nodes), iA r.2.1.Seen, iA r.2.1.Now, bA r.2.1.Full], hA, .obox [iA r.2.2.Sym, iA r.2.2.At, iA r.2.2.Val]] (tA (qGOcc r.1)) := by
 obtain ⟨p0a, p0b, p0c, p0d, p0e⟩ := p0
 obtain ⟨p2a, p2b, p2c⟩ := p2
 unfold ai.f at hh
 refine goG (g := []) (i := [185]) (o := [216]) (ts := [(6, none)]) (rm := [.val]) (pm := [.own, .skip, .own]) Tryz.func130 ?_
 intro Fn LW IN len cast toNat wrap add sub mul bin lt eq At set part app fz' rep nadd nmax ssize sext sget scat seq slt Wide Flat Ones Room r' post' hC hF hr hp
 cbv
 replace hh := bind_some hh
 obtain ⟨o1, hl1, hq1⟩ := hh
 refine aA hC (cE [] [185] [216]) mixed (fun n (i : (List GNode) × Bool × (List (List GOcc)) × Int) => ai.l1 k (⟨p0a, p0b, p0c, p0d, p0e⟩ : GGraph) p1 (⟨p2a, p2b, p2c⟩ : GEv) n i.1 i.2.1 i.2.2.1 i.2.2.2)
  (fun ⟨s57, s58, s59, s60⟩ => (⟨[(0, .mptr (0, 0) 1 0 0), (1, iA p1), (2, .mptr (2, 0) 1 0 0), (7, .ref (7, 50) 1 0 (len (qLGOcc s59))), (15, iA (cast (len (qGNode p0b)))), (16, iA s60), (1000000, .mptr (0, 0) 1 0 0), (1000002, .mptr (2, 0) 1 0 0)], [((0, 0), .box 1 [iA p0a, .ref (14, 0) 1 0 (len (qGNode s57)), iA p0c, iA p0d, bA s58]), ((2, 0), .box 1 [iA p2a, iA p2b, iA p2c]), ((7, 50), .arr 1 1 (qLGOcc s59)), ((14, 0), .arr 1 10 (qGNode s57))]⟩ : St))
  (fun (⟨x261, x262, x263⟩ : (List (List GOcc)) × (List GNode) × Bool) => (⟨[(7, .ref (7, 50) 1 0 (len (qLGOcc x261))), (1000000, .mptr (0, 0) 1 0 0), (1000002, .mptr (2, 0) 1 0 0)], [((0, 0), .box 1 [iA p0a, .ref (14, 0) 1 0 (len (qGNode x262)), iA p0c, iA p0d, bA x263]), ((2, 0), .box 1 [iA p2a, iA p2b, iA p2c]), ((7, 50), .arr 1 1 (qLGOcc x261)), ((14, 0), .arr 1 10 (qGNode x262))]⟩ : St)) (fun x => x) (.exit 0)
  (i0 := (_, _, _, _)) hl1 (fun _ => rfl) ?_ ?_ ?_
 ·rintro ⟨t0, t1, t2, t3⟩ e
  refine az [((0, 0), (0, 0)), ((2, 0), (2, 0)), ((14, 0), (14, 0))] ?_
  cbv
  all_goals exact J4
 rintro ⟨x261, x262, x263⟩ hx
 subst o1
 have hh := hq1
 cbv
 replace hh := aa hh
 obtain ⟨h464, hh⟩ := hh
 replace hh := aa hh
 obtain ⟨h465, hh⟩ := hh
 refine ⟨Nb h464, Mb h465, ?_⟩
 replace hh := bind_some hh
 obtain ⟨e466, h467, hh⟩ := hh
 refine ⟨[tA (qGOcc e466)], Gb h467, ?_⟩
 cbv
 exact Eb
 rintro n ⟨s57, s58, s59, s60⟩ N1 D1 hh hN1 hD1 hQ1
 dsimp only at hh
 unfold ai.l1 at hh
 cbv
 refine bcs (fun f265 => ?_) (fun f265 => ?_)
 replace hh := ifT hh f265
 try rw [f265]
 cbv
 replace hh := aa hh
 obtain ⟨h266, hh⟩ := hh
 replace hh := aa hh
 obtain ⟨h267, hh⟩ := hh
 refine ⟨Nb h266, Mb h267, ?_⟩
 refine u3 hC (cE [] [185] [216]) mixed (ts := [(10, none)]) (⟨[(0, .mptr (1014, 0) 1 (nadd 0 (toNat s60)) 0), (1, .mptr (1000, 0) 1 0 0), (2, iA p1), (3, .mptr (1002, 0) 1 0 0), (4, .ref (1007, 50) 1 0 (len (qLGOcc s59))), (2000000, .mptr (1000, 0) 1 0 0), (2000001, iA p1), (2000002, .mptr (1002, 0) 1 0 0), (2000007, .ref (1007, 50) 1 0 (len (qLGOcc s59))), (2000009, .mptr (1014, 0) 1 (nadd 0 (toNat s60)) 0), (2000015, iA (cast (len (qGNode p0b)))), (2000016, iA s60), (3000000, .mptr (1000, 0) 1 0 0), (3000002, .mptr (1002, 0) 1 0 0)], [((1000, 0), .box 1 [iA p0a, .ref (1014, 0) 1 0 (len (qGNode s57)), iA p0c, iA p0d, bA s58]), ((1002, 0), .box 1 [iA p2a, iA p2b, iA p2c]), ((1007, 50), .arr 1 1 (qLGOcc s59)), ((1014, 0), .arr 1 10 (qGNode s57))]⟩ : St) Tryz.func185 (by kernel_rfl) (by kernel_rfl) ?_ ?_
 ·refine az [((1000, 0), (0, 0)), ((1002, 0), (2, 0)), ((1007, 50), (7, 50)), ((1014, 0), (14, 0))] ?_
  cbv
  all_goals exact Zb
 cbv
 replace hh := bind_some hh
 obtain ⟨⟨e268a, e268b, e268c, e268d, ⟨e268e, e268f⟩, ⟨e268g, e268h⟩, e268i, e268j⟩, h269, hh⟩ := hh
 try dsimp only at hh
 refine ⟨[iA e268a, iA e268b, iA e268c, tA (qInt e268d), tA (qGOcc e268e), tA (qGOcc e268f), tA (qGOcc e268g), tA (qGOcc e268h), tA (qGOcc e268i), iA e268j], Gb h269, ?_⟩
 cbv
 refine bcs (fun f271 => ?_) (fun f271 => ?_)
 replace hh := ifT hh f271
 try rw [f271]
 cbv
 refine ⟨[iA e268a, iA e268b, iA e268c, tA (qInt e268d), tA (qGOcc e268e), tA (qGOcc e268f), tA (qGOcc e268g), tA (qGOcc e268h), tA (qGOcc e268i), iA e268j], Gb h269, ?_⟩
 cbv
 refine bcs (fun f273 => ?_) (fun f273 => ?_)
 replace hh := ifT hh f273
 try rw [f273]
 cbv
 refine ⟨Ob, ?_⟩
 refine ⟨⟨(⟨[(0, .mptr (0, 0) 1 0 0), (1, iA p1), (2, .mptr (2, 0) 1 0 0), (7, .ref (7, 50) 1 0 (len (qLGOcc s59))), (9, .mptr (14, 0) 1 (nadd 0 (toNat s60)) 0), (15, iA (cast (len (qGNode p0b)))), (16, iA s60), (30, .ref (2080, 0) 1 0 1), (1000000, .mptr (0, 0) 1 0 0), (1000002, .mptr (2, 0) 1 0 0)], [((0, 0), .box 1 [iA p0a, .ref (14, 0) 1 0 (len (qGNode s57)), iA p0c, iA p0d, bA s58]), ((2, 0), .box 1 [iA p2a, iA p2b, iA p2c]), ((7, 50), .arr 1 1 (qLGOcc s59)), ((14, 0), .arr 1 10 (qGNode s57)), ((2080, 0), .farr 1 3 (qGOcc [((⟨p1, p1, [p0c]⟩ : GOcc))]))]⟩ : St), ?_, ?_⟩, trivial⟩
 ·refine az [((0, 0), (1000, 0)), ((2, 0), (1002, 0)), ((7, 50), (1007, 50)), ((14, 0), (1014, 0)), ((2080, 0), (80, 0))] ?_
  cbv
  all_goals exact Zb
 cbv
 refine ⟨Ob, ?_⟩
 replace hh := aa hh
 obtain ⟨h274, hh⟩ := hh
 refine ⟨⟨Ob, Ab⟩, ?_⟩
 refine ⟨⟨Ob, Wb h274⟩, ?_⟩
 refine ⟨[iA e268a, iA e268b, iA e268c, tA (qInt e268d), tA (qGOcc e268e), tA (qGOcc e268f), tA (qGOcc e268g), tA (qGOcc e268h), tA (qGOcc e268i), iA e268j], Gb h269, ?_⟩
 cbv
 refine ⟨[iA e268a, iA e268b, iA e268c, tA (qInt e268d), tA (qGOcc e268e), tA (qGOcc e268f), tA (qGOcc e268g), tA (qGOcc e268h), tA (qGOcc e268i), iA e268j], Gb h269, ?_⟩
 cbv
 refine bcs (fun f276 => ?_) (fun f276 => ?_)
 replace hh := ifT hh f276
 try rw [f276]
 cbv
 ·refine hN1 (_, _, _, _) _ hh fun ⟨t0, t1, t2, t3⟩ e => ?_
  refine az [((0, 0), (0, 0)), ((2, 0), (2, 0)), ((7, 50), (34, 0)), ((14, 0), (14, 0))] ?_
  cbv
  all_goals exact J4
 replace hh := ifF hh f276
 try rw [f276]
 cbv
 refine ⟨[iA e268a, iA e268b, iA e268c, tA (qInt e268d), tA (qGOcc e268e), tA (qGOcc e268f), tA (qGOcc e268g), tA (qGOcc e268h), tA (qGOcc e268i), iA (wrap .i64 (add e268j (cast 1)))], Gb2 h269 ((List.getElem?_eq_some_iff.1 h269).1), ?_⟩
 cbv
 ·refine hN1 (_, _, _, _) _ hh fun ⟨t0, t1, t2, t3⟩ e => ?_
  refine az [((0, 0), (0, 0)), ((2, 0), (2, 0)), ((7, 50), (34, 0)), ((14, 0), (14, 0))] ?_
  cbv
  all_goals exact J4
 replace hh := ifF hh f273
 try rw [f273]
 cbv
 refine ⟨⟨(⟨[(0, .mptr (0, 0) 1 0 0), (1, iA p1), (2, .mptr (2, 0) 1 0 0), (7, .ref (7, 50) 1 0 (len (qLGOcc s59))), (9, .mptr (14, 0) 1 (nadd 0 (toNat s60)) 0), (15, iA (cast (len (qGNode p0b)))), (16, iA s60), (30, .lit (.slice none 0 0)), (1000000, .mptr (0, 0) 1 0 0), (1000002, .mptr (2, 0) 1 0 0)], [((0, 0), .box 1 [iA p0a, .ref (14, 0) 1 0 (len (qGNode s57)), iA p0c, iA p0d, bA s58]), ((2, 0), .box 1 [iA p2a, iA p2b, iA p2c]), ((7, 50), .arr 1 1 (qLGOcc s59)), ((14, 0), .arr 1 10 (qGNode s57))]⟩ : St), ?_, ?_⟩, trivial⟩
 ·refine az [((0, 0), (1000, 0)), ((2, 0), (1002, 0)), ((7, 50), (1007, 50)), ((14, 0), (1014, 0))] ?_
  cbv
  all_goals exact Zb
 cbv
 refine ⟨none, ?_⟩; try cbv
 replace hh := aa hh
 obtain ⟨h277, hh⟩ := hh
 refine ⟨⟨Ob, Ab⟩, ?_⟩
 refine ⟨⟨Ob, Wb h277⟩, ?_⟩
 refine ⟨[iA e268a, iA e268b, iA e268c, tA (qInt e268d), tA (qGOcc e268e), tA (qGOcc e268f), tA (qGOcc e268g), tA (qGOcc e268h), tA (qGOcc e268i), iA e268j], Gb h269, ?_⟩
 cbv
 refine ⟨[iA e268a, iA e268b, iA e268c, tA (qInt e268d), tA (qGOcc e268e), tA (qGOcc e268f), tA (qGOcc e268g), tA (qGOcc e268h), tA (qGOcc e268i), iA e268j], Gb h269, ?_⟩
 cbv
 refine bcs (fun f279 => ?_) (fun f279 => ?_)
 replace hh := ifT hh f279
 try rw [f279]
 cbv
 ·refine hN1 (_, _, _, _) _ hh fun ⟨t0, t1, t2, t3⟩ e => ?_
  refine az [((0, 0), (0, 0)), ((2, 0), (2, 0)), ((7, 50), (34, 0)), ((14, 0), (14, 0))] ?_
  cbv
  all_goals exact J4
 replace hh := ifF hh f279
 try rw [f279]
 cbv
 refine ⟨[iA e268a, iA e268b, iA e268c, tA (qInt e268d), tA (qGOcc e268e), tA (qGOcc e268f), tA (qGOcc e268g), tA (qGOcc e268h), tA (qGOcc e268i), iA (wrap .i64 (add e268j 0))], Gb2 h269 ((List.getElem?_eq_some_iff.1 h269).1), ?_⟩
 cbv
 ·refine hN1 (_, _, _, _) _ hh fun ⟨t0, t1, t2, t3⟩ e => ?_
  refine az [((0, 0), (0, 0)), ((2, 0), (2, 0)), ((7, 50), (34, 0)), ((14, 0), (14, 0))] ?_
  cbv
  all_goals exact J4
 replace hh := ifF hh f271
 try rw [f271]
 cbv
 refine bcs (fun f281 => ?_) (fun f281 => ?_)
 replace hh := ifT hh f281
 try rw [f281]
 cbv
 replace hh := aa hh
 obtain ⟨h282, hh⟩ := hh
 replace hh := bind_some hh
 obtain ⟨e283, h284, hh⟩ := hh
 replace hh := aa hh
 obtain ⟨h285, hh⟩ := hh
 replace hh := aa hh
 obtain ⟨h286, hh⟩ := hh
 replace hh := bind_some hh
 obtain ⟨e287, h288, hh⟩ := hh
 refine ⟨[(5, 0), (9, 0), (1007, 50), (1014, 0)], ?_⟩
 cbv
 refine ⟨tA (qGOcc e287), ?_, ?_⟩
 ·refine cS hC (cE [] [185] [216]) mixed (ts := [(4, none)]) Tryz.func216 (by kernel_rfl) (by kernel_rfl) ?_
  intro S N
  cbv
  refine ⟨[iA e268a, iA e268b, iA e268c, tA (qInt e268d), tA (qGOcc e268e), tA (qGOcc e268f), tA (qGOcc e268g), tA (qGOcc e268h), tA (qGOcc e268i), iA e268j], Gb h269, ?_⟩
  cbv
  refine ⟨[iA e283], Nb h282, Gb h284, ?_⟩
  cbv
  refine ⟨Nb h285, Mb h286, ?_⟩
  refine ⟨[tA (qGOcc e287)], Gb h288, ?_⟩
  cbv
  exact Rb
 cbv
 replace hh := aa hh
 obtain ⟨h289, hh⟩ := hh
 replace hh := bind_some hh
 obtain ⟨e290, h291, hh⟩ := hh
 replace hh := aa hh
 obtain ⟨h292, hh⟩ := hh
 replace hh := aa hh
 obtain ⟨h293, hh⟩ := hh
 replace hh := bind_some hh
 obtain ⟨e294, h295, hh⟩ := hh
 refine ⟨[(5, 0), (9, 0), (1007, 50), (1014, 0)], ?_⟩
 cbv
 refine ⟨tA (qGOcc e294), ?_, ?_⟩
 ·refine cS hC (cE [] [185] [216]) mixed (ts := [(4, none)]) Tryz.func216 (by kernel_rfl) (by kernel_rfl) ?_
  intro S N
  cbv
  refine ⟨[iA e268a, iA e268b, iA e268c, tA (qInt e268d), tA (qGOcc e268e), tA (qGOcc e268f), tA (qGOcc e268g), tA (qGOcc e268h), tA (qGOcc e268i), iA e268j], Gb h269, ?_⟩
  cbv
  refine ⟨[iA e290], Nb h289, Gb h291, ?_⟩
  cbv
  refine ⟨Nb h292, Mb h293, ?_⟩
  refine ⟨[tA (qGOcc e294)], Gb h295, ?_⟩
  cbv
  exact Rb
 cbv
 replace hh := bind_some hh
 obtain ⟨x297, h296, hh⟩ := hh
 refine ac hF (bX hQ h296) ?_
 cbv
 refine ⟨⟨(⟨[(0, .mptr (0, 0) 1 0 0), (1, iA p1), (2, .mptr (2, 0) 1 0 0), (7, .ref (7, 50) 1 0 (len (qLGOcc s59))), (9, .mptr (14, 0) 1 (nadd 0 (toNat s60)) 0), (15, iA (cast (len (qGNode p0b)))), (16, iA s60), (30, tA (qGOcc x297)), (1000000, .mptr (0, 0) 1 0 0), (1000002, .mptr (2, 0) 1 0 0)], [((0, 0), .box 1 [iA p0a, .ref (14, 0) 1 0 (len (qGNode s57)), iA p0c, iA p0d, bA s58]), ((2, 0), .box 1 [iA p2a, iA p2b, iA p2c]), ((7, 50), .arr 1 1 (qLGOcc s59)), ((14, 0), .arr 1 10 (qGNode s57))]⟩ : St), ?_, ?_⟩, trivial⟩
 ·refine az [((0, 0), (1000, 0)), ((2, 0), (1002, 0)), ((7, 50), (1007, 50)), ((14, 0), (1014, 0))] ?_
  cbv
  all_goals exact Zb
 cbv
 replace hh := aa hh
 obtain ⟨h299, hh⟩ := hh
 refine ⟨⟨Ob, Ab⟩, ?_⟩
 refine ⟨⟨Ob, Wb h299⟩, ?_⟩
 refine ⟨[iA e268a, iA e268b, iA e268c, tA (qInt e268d), tA (qGOcc e268e), tA (qGOcc e268f), tA (qGOcc e268g), tA (qGOcc e268h), tA (qGOcc e268i), iA e268j], Gb h269, ?_⟩
 cbv
 refine ⟨[iA e268a, iA e268b, iA e268c, tA (qInt e268d), tA (qGOcc e268e), tA (qGOcc e268f), tA (qGOcc e268g), tA (qGOcc e268h), tA (qGOcc e268i), iA e268j], Gb h269, ?_⟩
 cbv
 refine bcs (fun f301 => ?_) (fun f301 => ?_)
 replace hh := ifT hh f301
 try rw [f301]
 cbv
 ·refine hN1 (_, _, _, _) _ hh fun ⟨t0, t1, t2, t3⟩ e => ?_
  refine az [((0, 0), (0, 0)), ((2, 0), (2, 0)), ((7, 50), (34, 0)), ((14, 0), (14, 0))] ?_
  cbv
  all_goals exact J4
 replace hh := ifF hh f301
 try rw [f301]
 cbv
 refine ⟨[iA e268a, iA e268b, iA e268c, tA (qInt e268d), tA (qGOcc e268e), tA (qGOcc e268f), tA (qGOcc e268g), tA (qGOcc e268h), tA (qGOcc e268i), iA (wrap .i64 (add e268j (cast (len (qGOcc x297)))))], Gb2 h269 ((List.getElem?_eq_some_iff.1 h269).1), ?_⟩
 cbv
 ·refine hN1 (_, _, _, _) _ hh fun ⟨t0, t1, t2, t3⟩ e => ?_
  refine az [((0, 0), (0, 0)), ((2, 0), (2, 0)), ((7, 50), (34, 0)), ((14, 0), (14, 0))] ?_
  cbv
  all_goals exact J4
 replace hh := ifF hh f281
 try rw [f281]
 cbv
 refine bcs (fun f303 => ?_) (fun f303 => ?_)
 replace hh := ifT hh f303
 try rw [f303]
 cbv
 refine ⟨[iA e268a, iA e268b, iA e268c, tA (qInt e268d), tA (qGOcc e268e), tA (qGOcc e268f), tA (qGOcc e268g), tA (qGOcc e268h), tA (qGOcc e268i), iA e268j], Gb h269, ?_⟩
 cbv
 replace hh := aa hh
 obtain ⟨h304, hh⟩ := hh
 replace hh := bind_some hh
 obtain ⟨e305, h306, hh⟩ := hh
 replace hh := aa hh
 obtain ⟨h307, hh⟩ := hh
 replace hh := aa hh
 obtain ⟨h308, hh⟩ := hh
 replace hh := bind_some hh
 obtain ⟨e309, h310, hh⟩ := hh
 refine ⟨[(5, 0), (9, 0), (1007, 50), (1014, 0)], ?_⟩
 cbv
 refine ⟨tA (qGOcc e309), ?_, ?_⟩
 ·refine cS hC (cE [] [185] [216]) mixed (ts := [(4, none)]) Tryz.func216 (by kernel_rfl) (by kernel_rfl) ?_
  intro S N
  cbv
  refine ⟨[iA e268a, iA e268b, iA e268c, tA (qInt e268d), tA (qGOcc e268e), tA (qGOcc e268f), tA (qGOcc e268g), tA (qGOcc e268h), tA (qGOcc e268i), iA e268j], Gb h269, ?_⟩
  cbv
  refine ⟨[iA e305], Nb h304, Gb h306, ?_⟩
  cbv
  refine ⟨Nb h307, Mb h308, ?_⟩
  refine ⟨[tA (qGOcc e309)], Gb h310, ?_⟩
  cbv
  exact Rb
 cbv
 replace hh := aa hh
 obtain ⟨h311, hh⟩ := hh
 replace hh := bind_some hh
 obtain ⟨e312, h313, hh⟩ := hh
 replace hh := aa hh
 obtain ⟨h314, hh⟩ := hh
 replace hh := aa hh
 obtain ⟨h315, hh⟩ := hh
 replace hh := bind_some hh
 obtain ⟨e316, h317, hh⟩ := hh
 refine ⟨[(5, 0), (9, 0), (1007, 50), (1014, 0)], ?_⟩
 cbv
 refine ⟨tA (qGOcc e316), ?_, ?_⟩
 ·refine cS hC (cE [] [185] [216]) mixed (ts := [(4, none)]) Tryz.func216 (by kernel_rfl) (by kernel_rfl) ?_
  intro S N
  cbv
  refine ⟨[iA e268a, iA e268b, iA e268c, tA (qInt e268d), tA (qGOcc e268e), tA (qGOcc e268f), tA (qGOcc e268g), tA (qGOcc e268h), tA (qGOcc e268i), iA e268j], Gb h269, ?_⟩
  cbv
  refine ⟨[iA e312], Nb h311, Gb h313, ?_⟩
  cbv
  refine ⟨Nb h314, Mb h315, ?_⟩
  refine ⟨[tA (qGOcc e316)], Gb h317, ?_⟩
  cbv
  exact Rb
 cbv
 replace hh := bind_some hh
 obtain ⟨⟨⟨x319_0a, x319_0b⟩, x319_1⟩, h318, hh⟩ := hh
 try dsimp only at hh
 have fc := jS hQ h318
 try dsimp only at fc
 refine ac hF fc ?_
 cbv
 refine ⟨[iA e268a, iA e268b, iA e268c, tA (qInt e268d), tA (qGOcc e268e), tA (qGOcc e268f), tA (qGOcc e268g), tA (qGOcc e268h), tA (qGOcc e268i), iA e268j], Gb h269, ?_⟩
 cbv
 refine ⟨⟨(⟨[(0, .mptr (0, 0) 1 0 0), (1, iA p1), (2, .mptr (2, 0) 1 0 0), (7, .ref (7, 50) 1 0 (len (qLGOcc s59))), (9, .mptr (14, 0) 1 (nadd 0 (toNat s60)) 0), (15, iA (cast (len (qGNode p0b)))), (16, iA s60), (30, tA (qGOcc x319_1)), (1000000, .mptr (0, 0) 1 0 0), (1000002, .mptr (2, 0) 1 0 0)], [((0, 0), .box 1 [iA p0a, .ref (14, 0) 1 0 (len (qGNode s57)), iA p0c, iA p0d, bA s58]), ((2, 0), .box 1 [iA p2a, iA p2b, iA p2c]), ((7, 50), .arr 1 1 (qLGOcc s59)), ((14, 0), .arr 1 10 (set (qGNode s57) (nadd 0 (toNat s60)) [iA e268a, iA e268b, iA e268c, tA (qInt e268d), tA (qGOcc x319_0a), tA (qGOcc x319_0b), tA (qGOcc e268g), tA (qGOcc e268h), tA (qGOcc e268i), iA e268j]))]⟩ : St), ?_, ?_⟩, trivial⟩
 ·refine az [((0, 0), (1000, 0)), ((2, 0), (1002, 0)), ((7, 50), (1007, 50)), ((14, 0), (1014, 0))] ?_
  cbv
  all_goals exact Zb
 cbv
 replace hh := aa hh
 obtain ⟨h321, hh⟩ := hh
 refine ⟨⟨Ob, Ab⟩, ?_⟩
 refine ⟨⟨Ob, Wb h321⟩, ?_⟩
 refine ⟨[iA e268a, iA e268b, iA e268c, tA (qInt e268d), tA (qGOcc x319_0a), tA (qGOcc x319_0b), tA (qGOcc e268g), tA (qGOcc e268h), tA (qGOcc e268i), iA e268j], Gb2 h269 ((List.getElem?_eq_some_iff.1 h269).1), ?_⟩
 cbv
 refine ⟨[iA e268a, iA e268b, iA e268c, tA (qInt e268d), tA (qGOcc x319_0a), tA (qGOcc x319_0b), tA (qGOcc e268g), tA (qGOcc e268h), tA (qGOcc e268i), iA e268j], Gb2 h269 ((List.getElem?_eq_some_iff.1 h269).1), ?_⟩
 cbv
 refine bcs (fun f323 => ?_) (fun f323 => ?_)
 replace hh := ifT hh f323
 try rw [f323]
 cbv
 ·refine hN1 (_, _, _, _) _ hh fun ⟨t0, t1, t2, t3⟩ e => ?_
  refine az [((0, 0), (0, 0)), ((2, 0), (2, 0)), ((7, 50), (34, 0)), ((14, 0), (14, 0))] ?_
  cbv
  all_goals exact J4
 replace hh := ifF hh f323
 try rw [f323]
 cbv
 refine ⟨[iA e268a, iA e268b, iA e268c, tA (qInt e268d), tA (qGOcc x319_0a), tA (qGOcc x319_0b), tA (qGOcc e268g), tA (qGOcc e268h), tA (qGOcc e268i), iA (wrap .i64 (add e268j (cast (len (qGOcc x319_1)))))], Gb2 h269 ((List.getElem?_eq_some_iff.1 h269).1), ?_⟩
 cbv
 ·refine hN1 (_, _, _, _) _ hh fun ⟨t0, t1, t2, t3⟩ e => ?_
  refine az [((0, 0), (0, 0)), ((2, 0), (2, 0)), ((7, 50), (34, 0)), ((14, 0), (14, 0))] ?_
  cbv
  all_goals exact J4
 replace hh := ifF hh f303
 try rw [f303]
 cbv
 refine bcs (fun f325 => ?_) (fun f325 => ?_)
 replace hh := ifT hh f325
 try rw [f325]
 cbv
 refine ⟨[iA e268a, iA e268b, iA e268c, tA (qInt e268d), tA (qGOcc e268e), tA (qGOcc e268f), tA (qGOcc e268g), tA (qGOcc e268h), tA (qGOcc e268i), iA e268j], Gb h269, ?_⟩
 cbv
 replace hh := aa hh
 obtain ⟨h326, hh⟩ := hh
 replace hh := bind_some hh
 obtain ⟨e327, h328, hh⟩ := hh
 replace hh := aa hh
 obtain ⟨h329, hh⟩ := hh
 replace hh := aa hh
 obtain ⟨h330, hh⟩ := hh
 replace hh := bind_some hh
 obtain ⟨e331, h332, hh⟩ := hh
 refine ⟨[(5, 0), (9, 0), (1007, 50), (1014, 0)], ?_⟩
 cbv
 refine ⟨tA (qGOcc e331), ?_, ?_⟩
 ·refine cS hC (cE [] [185] [216]) mixed (ts := [(4, none)]) Tryz.func216 (by kernel_rfl) (by kernel_rfl) ?_
  intro S N
  cbv
  refine ⟨[iA e268a, iA e268b, iA e268c, tA (qInt e268d), tA (qGOcc e268e), tA (qGOcc e268f), tA (qGOcc e268g), tA (qGOcc e268h), tA (qGOcc e268i), iA e268j], Gb h269, ?_⟩
  cbv
  refine ⟨[iA e327], Nb h326, Gb h328, ?_⟩
  cbv
  refine ⟨Nb h329, Mb h330, ?_⟩
  refine ⟨[tA (qGOcc e331)], Gb h332, ?_⟩
  cbv
  exact Rb
 cbv
 replace hh := aa hh
 obtain ⟨h333, hh⟩ := hh
 replace hh := bind_some hh
 obtain ⟨e334, h335, hh⟩ := hh
 replace hh := aa hh
 obtain ⟨h336, hh⟩ := hh
 replace hh := aa hh
 obtain ⟨h337, hh⟩ := hh
 replace hh := bind_some hh
 obtain ⟨e338, h339, hh⟩ := hh
 refine ⟨[(5, 0), (9, 0), (1007, 50), (1014, 0)], ?_⟩
 cbv
 refine ⟨tA (qGOcc e338), ?_, ?_⟩
 ·refine cS hC (cE [] [185] [216]) mixed (ts := [(4, none)]) Tryz.func216 (by kernel_rfl) (by kernel_rfl) ?_
  intro S N
  cbv
  refine ⟨[iA e268a, iA e268b, iA e268c, tA (qInt e268d), tA (qGOcc e268e), tA (qGOcc e268f), tA (qGOcc e268g), tA (qGOcc e268h), tA (qGOcc e268i), iA e268j], Gb h269, ?_⟩
  cbv
  refine ⟨[iA e334], Nb h333, Gb h335, ?_⟩
  cbv
  refine ⟨Nb h336, Mb h337, ?_⟩
  refine ⟨[tA (qGOcc e338)], Gb h339, ?_⟩
  cbv
  exact Rb
 cbv
 replace hh := bind_some hh
 obtain ⟨⟨⟨x341_0a, x341_0b⟩, x341_1⟩, h340, hh⟩ := hh
 try dsimp only at hh
 have fc := jT hQ h340
 try dsimp only at fc
 refine ac hF fc ?_
 cbv
 refine ⟨[iA e268a, iA e268b, iA e268c, tA (qInt e268d), tA (qGOcc e268e), tA (qGOcc e268f), tA (qGOcc e268g), tA (qGOcc e268h), tA (qGOcc e268i), iA e268j], Gb h269, ?_⟩
 cbv
 refine ⟨⟨(⟨[(0, .mptr (0, 0) 1 0 0), (1, iA p1), (2, .mptr (2, 0) 1 0 0), (7, .ref (7, 50) 1 0 (len (qLGOcc s59))), (9, .mptr (14, 0) 1 (nadd 0 (toNat s60)) 0), (15, iA (cast (len (qGNode p0b)))), (16, iA s60), (30, tA (qGOcc x341_1)), (1000000, .mptr (0, 0) 1 0 0), (1000002, .mptr (2, 0) 1 0 0)], [((0, 0), .box 1 [iA p0a, .ref (14, 0) 1 0 (len (qGNode s57)), iA p0c, iA p0d, bA s58]), ((2, 0), .box 1 [iA p2a, iA p2b, iA p2c]), ((7, 50), .arr 1 1 (qLGOcc s59)), ((14, 0), .arr 1 10 (set (qGNode s57) (nadd 0 (toNat s60)) [iA e268a, iA e268b, iA e268c, tA (qInt e268d), tA (qGOcc x341_0a), tA (qGOcc x341_0b), tA (qGOcc e268g), tA (qGOcc e268h), tA (qGOcc e268i), iA e268j]))]⟩ : St), ?_, ?_⟩, trivial⟩
 ·refine az [((0, 0), (1000, 0)), ((2, 0), (1002, 0)), ((7, 50), (1007, 50)), ((14, 0), (1014, 0))] ?_
  cbv
  all_goals exact Zb
 cbv
 replace hh := aa hh
 obtain ⟨h343, hh⟩ := hh
 refine ⟨⟨Ob, Ab⟩, ?_⟩
 refine ⟨⟨Ob, Wb h343⟩, ?_⟩
 refine ⟨[iA e268a, iA e268b, iA e268c, tA (qInt e268d), tA (qGOcc x341_0a), tA (qGOcc x341_0b), tA (qGOcc e268g), tA (qGOcc e268h), tA (qGOcc e268i), iA e268j], Gb2 h269 ((List.getElem?_eq_some_iff.1 h269).1), ?_⟩
 cbv
 refine ⟨[iA e268a, iA e268b, iA e268c, tA (qInt e268d), tA (qGOcc x341_0a), tA (qGOcc x341_0b), tA (qGOcc e268g), tA (qGOcc e268h), tA (qGOcc e268i), iA e268j], Gb2 h269 ((List.getElem?_eq_some_iff.1 h269).1), ?_⟩
 cbv
 refine bcs (fun f345 => ?_) (fun f345 => ?_)
 replace hh := ifT hh f345
 try rw [f345]
 cbv
 ·refine hN1 (_, _, _, _) _ hh fun ⟨t0, t1, t2, t3⟩ e => ?_
  refine az [((0, 0), (0, 0)), ((2, 0), (2, 0)), ((7, 50), (34, 0)), ((14, 0), (14, 0))] ?_
  cbv
  all_goals exact J4
 replace hh := ifF hh f345
 try rw [f345]
 cbv
 refine ⟨[iA e268a, iA e268b, iA e268c, tA (qInt e268d), tA (qGOcc x341_0a), tA (qGOcc x341_0b), tA (qGOcc e268g), tA (qGOcc e268h), tA (qGOcc e268i), iA (wrap .i64 (add e268j (cast (len (qGOcc x341_1)))))], Gb2 h269 ((List.getElem?_eq_some_iff.1 h269).1), ?_⟩
 cbv
 ·refine hN1 (_, _, _, _) _ hh fun ⟨t0, t1, t2, t3⟩ e => ?_
  refine az [((0, 0), (0, 0)), ((2, 0), (2, 0)), ((7, 50), (34, 0)), ((14, 0), (14, 0))] ?_
  cbv
  all_goals exact J4
 replace hh := ifF hh f325
 try rw [f325]
 cbv
 refine bcs (fun f347 => ?_) (fun f347 => ?_)
 replace hh := ifT hh f347
 try rw [f347]
 cbv
 refine ⟨[iA e268a, iA e268b, iA e268c, tA (qInt e268d), tA (qGOcc e268e), tA (qGOcc e268f), tA (qGOcc e268g), tA (qGOcc e268h), tA (qGOcc e268i), iA e268j], Gb h269, ?_⟩
 cbv
 replace hh := aa hh
 obtain ⟨h348, hh⟩ := hh
 replace hh := bind_some hh
 obtain ⟨e349, h350, hh⟩ := hh
 replace hh := aa hh
 obtain ⟨h351, hh⟩ := hh
 replace hh := aa hh
 obtain ⟨h352, hh⟩ := hh
 replace hh := bind_some hh
 obtain ⟨e353, h354, hh⟩ := hh
 refine ⟨[(5, 0), (9, 0), (1007, 50), (1014, 0)], ?_⟩
 cbv
 refine ⟨tA (qGOcc e353), ?_, ?_⟩
 ·refine cS hC (cE [] [185] [216]) mixed (ts := [(4, none)]) Tryz.func216 (by kernel_rfl) (by kernel_rfl) ?_
  intro S N
  cbv
  refine ⟨[iA e268a, iA e268b, iA e268c, tA (qInt e268d), tA (qGOcc e268e), tA (qGOcc e268f), tA (qGOcc e268g), tA (qGOcc e268h), tA (qGOcc e268i), iA e268j], Gb h269, ?_⟩
  cbv
  refine ⟨[iA e349], Nb h348, Gb h350, ?_⟩
  cbv
  refine ⟨Nb h351, Mb h352, ?_⟩
  refine ⟨[tA (qGOcc e353)], Gb h354, ?_⟩
  cbv
  exact Rb
 cbv
 replace hh := aa hh
 obtain ⟨h355, hh⟩ := hh
 replace hh := bind_some hh
 obtain ⟨e356, h357, hh⟩ := hh
 replace hh := aa hh
 obtain ⟨h358, hh⟩ := hh
 replace hh := aa hh
 obtain ⟨h359, hh⟩ := hh
 replace hh := bind_some hh
 obtain ⟨e360, h361, hh⟩ := hh
 refine ⟨[(5, 0), (9, 0), (1007, 50), (1014, 0)], ?_⟩
 cbv
 refine ⟨tA (qGOcc e360), ?_, ?_⟩
 ·refine cS hC (cE [] [185] [216]) mixed (ts := [(4, none)]) Tryz.func216 (by kernel_rfl) (by kernel_rfl) ?_
  intro S N
  cbv
  refine ⟨[iA e268a, iA e268b, iA e268c, tA (qInt e268d), tA (qGOcc e268e), tA (qGOcc e268f), tA (qGOcc e268g), tA (qGOcc e268h), tA (qGOcc e268i), iA e268j], Gb h269, ?_⟩
  cbv
  refine ⟨[iA e356], Nb h355, Gb h357, ?_⟩
  cbv
  refine ⟨Nb h358, Mb h359, ?_⟩
  refine ⟨[tA (qGOcc e360)], Gb h361, ?_⟩
  cbv
  exact Rb
 cbv
 replace hh := aa hh
 obtain ⟨h362, hh⟩ := hh
 replace hh := bind_some hh
 obtain ⟨e363, h364, hh⟩ := hh
 replace hh := aa hh
 obtain ⟨h365, hh⟩ := hh
 replace hh := aa hh
 obtain ⟨h366, hh⟩ := hh
 replace hh := bind_some hh
 obtain ⟨e367, h368, hh⟩ := hh
 refine ⟨[(5, 0), (9, 0), (1007, 50), (1014, 0)], ?_⟩
 cbv
 refine ⟨tA (qGOcc e367), ?_, ?_⟩
 ·refine cS hC (cE [] [185] [216]) mixed (ts := [(4, none)]) Tryz.func216 (by kernel_rfl) (by kernel_rfl) ?_
  intro S N
  cbv
  refine ⟨[iA e268a, iA e268b, iA e268c, tA (qInt e268d), tA (qGOcc e268e), tA (qGOcc e268f), tA (qGOcc e268g), tA (qGOcc e268h), tA (qGOcc e268i), iA e268j], Gb h269, ?_⟩
  cbv
  refine ⟨[iA e363], Nb h362, Gb h364, ?_⟩
  cbv
  refine ⟨Nb h365, Mb h366, ?_⟩
  refine ⟨[tA (qGOcc e367)], Gb h368, ?_⟩
  cbv
  exact Rb
 cbv
 replace hh := bind_some hh
 obtain ⟨⟨⟨x370_0a, x370_0b⟩, x370_1⟩, h369, hh⟩ := hh
 try dsimp only at hh
 have fc := j3 hQ h369
 try dsimp only at fc
 refine ac hF fc ?_
 cbv
 refine ⟨[iA e268a, iA e268b, iA e268c, tA (qInt e268d), tA (qGOcc e268e), tA (qGOcc e268f), tA (qGOcc e268g), tA (qGOcc e268h), tA (qGOcc e268i), iA e268j], Gb h269, ?_⟩
 cbv
 refine ⟨⟨(⟨[(0, .mptr (0, 0) 1 0 0), (1, iA p1), (2, .mptr (2, 0) 1 0 0), (7, .ref (7, 50) 1 0 (len (qLGOcc s59))), (9, .mptr (14, 0) 1 (nadd 0 (toNat s60)) 0), (15, iA (cast (len (qGNode p0b)))), (16, iA s60), (30, tA (qGOcc x370_1)), (1000000, .mptr (0, 0) 1 0 0), (1000002, .mptr (2, 0) 1 0 0)], [((0, 0), .box 1 [iA p0a, .ref (14, 0) 1 0 (len (qGNode s57)), iA p0c, iA p0d, bA s58]), ((2, 0), .box 1 [iA p2a, iA p2b, iA p2c]), ((7, 50), .arr 1 1 (qLGOcc s59)), ((14, 0), .arr 1 10 (set (qGNode s57) (nadd 0 (toNat s60)) [iA e268a, iA e268b, iA e268c, tA (qInt e268d), tA (qGOcc e268e), tA (qGOcc e268f), tA (qGOcc x370_0a), tA (qGOcc x370_0b), tA (qGOcc e268i), iA e268j]))]⟩ : St), ?_, ?_⟩, trivial⟩
 ·refine az [((0, 0), (1000, 0)), ((2, 0), (1002, 0)), ((7, 50), (1007, 50)), ((14, 0), (1014, 0))] ?_
  cbv
  all_goals exact Zb
 cbv
 replace hh := aa hh
 obtain ⟨h372, hh⟩ := hh
 refine ⟨⟨Ob, Ab⟩, ?_⟩
 refine ⟨⟨Ob, Wb h372⟩, ?_⟩
 refine ⟨[iA e268a, iA e268b, iA e268c, tA (qInt e268d), tA (qGOcc e268e), tA (qGOcc e268f), tA (qGOcc x370_0a), tA (qGOcc x370_0b), tA (qGOcc e268i), iA e268j], Gb2 h269 ((List.getElem?_eq_some_iff.1 h269).1), ?_⟩
 cbv
 refine ⟨[iA e268a, iA e268b, iA e268c, tA (qInt e268d), tA (qGOcc e268e), tA (qGOcc e268f), tA (qGOcc x370_0a), tA (qGOcc x370_0b), tA (qGOcc e268i), iA e268j], Gb2 h269 ((List.getElem?_eq_some_iff.1 h269).1), ?_⟩
 cbv
 refine bcs (fun f374 => ?_) (fun f374 => ?_)
 replace hh := ifT hh f374
 try rw [f374]
 cbv
 ·refine hN1 (_, _, _, _) _ hh fun ⟨t0, t1, t2, t3⟩ e => ?_
  refine az [((0, 0), (0, 0)), ((2, 0), (2, 0)), ((7, 50), (34, 0)), ((14, 0), (14, 0))] ?_
  cbv
  all_goals exact J4
 replace hh := ifF hh f374
 try rw [f374]
 cbv
 refine ⟨[iA e268a, iA e268b, iA e268c, tA (qInt e268d), tA (qGOcc e268e), tA (qGOcc e268f), tA (qGOcc x370_0a), tA (qGOcc x370_0b), tA (qGOcc e268i), iA (wrap .i64 (add e268j (cast (len (qGOcc x370_1)))))], Gb2 h269 ((List.getElem?_eq_some_iff.1 h269).1), ?_⟩
 cbv
 ·refine hN1 (_, _, _, _) _ hh fun ⟨t0, t1, t2, t3⟩ e => ?_
  refine az [((0, 0), (0, 0)), ((2, 0), (2, 0)), ((7, 50), (34, 0)), ((14, 0), (14, 0))] ?_
  cbv
  all_goals exact J4
 replace hh := ifF hh f347
 try rw [f347]
 cbv
 refine bcs (fun f376 => ?_) (fun f376 => ?_)
 replace hh := ifT hh f376
 try rw [f376]
 cbv
 refine ⟨[iA e268a, iA e268b, iA e268c, tA (qInt e268d), tA (qGOcc e268e), tA (qGOcc e268f), tA (qGOcc e268g), tA (qGOcc e268h), tA (qGOcc e268i), iA e268j], Gb h269, ?_⟩
 cbv
 replace hh := aa hh
 obtain ⟨h377, hh⟩ := hh
 replace hh := bind_some hh
 obtain ⟨e378, h379, hh⟩ := hh
 replace hh := aa hh
 obtain ⟨h380, hh⟩ := hh
 replace hh := aa hh
 obtain ⟨h381, hh⟩ := hh
 replace hh := bind_some hh
 obtain ⟨e382, h383, hh⟩ := hh
 refine ⟨[(5, 0), (9, 0), (1007, 50), (1014, 0)], ?_⟩
 cbv
 refine ⟨tA (qGOcc e382), ?_, ?_⟩
 ·refine cS hC (cE [] [185] [216]) mixed (ts := [(4, none)]) Tryz.func216 (by kernel_rfl) (by kernel_rfl) ?_
  intro S N
  cbv
  refine ⟨[iA e268a, iA e268b, iA e268c, tA (qInt e268d), tA (qGOcc e268e), tA (qGOcc e268f), tA (qGOcc e268g), tA (qGOcc e268h), tA (qGOcc e268i), iA e268j], Gb h269, ?_⟩
  cbv
  refine ⟨[iA e378], Nb h377, Gb h379, ?_⟩
  cbv
  refine ⟨Nb h380, Mb h381, ?_⟩
  refine ⟨[tA (qGOcc e382)], Gb h383, ?_⟩
  cbv
  exact Rb
 cbv
 replace hh := aa hh
 obtain ⟨h384, hh⟩ := hh
 replace hh := bind_some hh
 obtain ⟨e385, h386, hh⟩ := hh
 replace hh := aa hh
 obtain ⟨h387, hh⟩ := hh
 replace hh := aa hh
 obtain ⟨h388, hh⟩ := hh
 replace hh := bind_some hh
 obtain ⟨e389, h390, hh⟩ := hh
 refine ⟨[(5, 0), (9, 0), (1007, 50), (1014, 0)], ?_⟩
 cbv
 refine ⟨tA (qGOcc e389), ?_, ?_⟩
 ·refine cS hC (cE [] [185] [216]) mixed (ts := [(4, none)]) Tryz.func216 (by kernel_rfl) (by kernel_rfl) ?_
  intro S N
  cbv
  refine ⟨[iA e268a, iA e268b, iA e268c, tA (qInt e268d), tA (qGOcc e268e), tA (qGOcc e268f), tA (qGOcc e268g), tA (qGOcc e268h), tA (qGOcc e268i), iA e268j], Gb h269, ?_⟩
  cbv
  refine ⟨[iA e385], Nb h384, Gb h386, ?_⟩
  cbv
  refine ⟨Nb h387, Mb h388, ?_⟩
  refine ⟨[tA (qGOcc e389)], Gb h390, ?_⟩
  cbv
  exact Rb
 cbv
 replace hh := aa hh
 obtain ⟨h391, hh⟩ := hh
 replace hh := bind_some hh
 obtain ⟨e392, h393, hh⟩ := hh
 replace hh := aa hh
 obtain ⟨h394, hh⟩ := hh
 replace hh := aa hh
 obtain ⟨h395, hh⟩ := hh
 replace hh := bind_some hh
 obtain ⟨e396, h397, hh⟩ := hh
 refine ⟨[(5, 0), (9, 0), (1007, 50), (1014, 0)], ?_⟩
 cbv
 refine ⟨tA (qGOcc e396), ?_, ?_⟩
 ·refine cS hC (cE [] [185] [216]) mixed (ts := [(4, none)]) Tryz.func216 (by kernel_rfl) (by kernel_rfl) ?_
  intro S N
  cbv
  refine ⟨[iA e268a, iA e268b, iA e268c, tA (qInt e268d), tA (qGOcc e268e), tA (qGOcc e268f), tA (qGOcc e268g), tA (qGOcc e268h), tA (qGOcc e268i), iA e268j], Gb h269, ?_⟩
  cbv
  refine ⟨[iA e392], Nb h391, Gb h393, ?_⟩
  cbv
  refine ⟨Nb h394, Mb h395, ?_⟩
  refine ⟨[tA (qGOcc e396)], Gb h397, ?_⟩
  cbv
  exact Rb
 cbv
 replace hh := bind_some hh
 obtain ⟨⟨⟨x399_0a, x399_0b⟩, x399_1⟩, h398, hh⟩ := hh
 try dsimp only at hh
 have fc := jm hQ h398
 try dsimp only at fc
 refine ac hF fc ?_
 cbv
 refine ⟨[iA e268a, iA e268b, iA e268c, tA (qInt e268d), tA (qGOcc e268e), tA (qGOcc e268f), tA (qGOcc e268g), tA (qGOcc e268h), tA (qGOcc e268i), iA e268j], Gb h269, ?_⟩
 cbv
 refine ⟨⟨(⟨[(0, .mptr (0, 0) 1 0 0), (1, iA p1), (2, .mptr (2, 0) 1 0 0), (7, .ref (7, 50) 1 0 (len (qLGOcc s59))), (9, .mptr (14, 0) 1 (nadd 0 (toNat s60)) 0), (15, iA (cast (len (qGNode p0b)))), (16, iA s60), (30, tA (qGOcc x399_1)), (1000000, .mptr (0, 0) 1 0 0), (1000002, .mptr (2, 0) 1 0 0)], [((0, 0), .box 1 [iA p0a, .ref (14, 0) 1 0 (len (qGNode s57)), iA p0c, iA p0d, bA s58]), ((2, 0), .box 1 [iA p2a, iA p2b, iA p2c]), ((7, 50), .arr 1 1 (qLGOcc s59)), ((14, 0), .arr 1 10 (set (qGNode s57) (nadd 0 (toNat s60)) [iA e268a, iA e268b, iA e268c, tA (qInt e268d), tA (qGOcc e268e), tA (qGOcc e268f), tA (qGOcc x399_0a), tA (qGOcc x399_0b), tA (qGOcc e268i), iA e268j]))]⟩ : St), ?_, ?_⟩, trivial⟩
 ·refine az [((0, 0), (1000, 0)), ((2, 0), (1002, 0)), ((7, 50), (1007, 50)), ((14, 0), (1014, 0))] ?_
  cbv
  all_goals exact Zb
 cbv
 replace hh := aa hh
 obtain ⟨h401, hh⟩ := hh
 refine ⟨⟨Ob, Ab⟩, ?_⟩
 refine ⟨⟨Ob, Wb h401⟩, ?_⟩
 refine ⟨[iA e268a, iA e268b, iA e268c, tA (qInt e268d), tA (qGOcc e268e), tA (qGOcc e268f), tA (qGOcc x399_0a), tA (qGOcc x399_0b), tA (qGOcc e268i), iA e268j], Gb2 h269 ((List.getElem?_eq_some_iff.1 h269).1), ?_⟩
 cbv
 refine ⟨[iA e268a, iA e268b, iA e268c, tA (qInt e268d), tA (qGOcc e268e), tA (qGOcc e268f), tA (qGOcc x399_0a), tA (qGOcc x399_0b), tA (qGOcc e268i), iA e268j], Gb2 h269 ((List.getElem?_eq_some_iff.1 h269).1), ?_⟩
 cbv
 refine bcs (fun f403 => ?_) (fun f403 => ?_)
 replace hh := ifT hh f403
 try rw [f403]
 cbv
 ·refine hN1 (_, _, _, _) _ hh fun ⟨t0, t1, t2, t3⟩ e => ?_
  refine az [((0, 0), (0, 0)), ((2, 0), (2, 0)), ((7, 50), (34, 0)), ((14, 0), (14, 0))] ?_
  cbv
  all_goals exact J4
 replace hh := ifF hh f403
 try rw [f403]
 cbv
 refine ⟨[iA e268a, iA e268b, iA e268c, tA (qInt e268d), tA (qGOcc e268e), tA (qGOcc e268f), tA (qGOcc x399_0a), tA (qGOcc x399_0b), tA (qGOcc e268i), iA (wrap .i64 (add e268j (cast (len (qGOcc x399_1)))))], Gb2 h269 ((List.getElem?_eq_some_iff.1 h269).1), ?_⟩
 cbv
 ·refine hN1 (_, _, _, _) _ hh fun ⟨t0, t1, t2, t3⟩ e => ?_
  refine az [((0, 0), (0, 0)), ((2, 0), (2, 0)), ((7, 50), (34, 0)), ((14, 0), (14, 0))] ?_
  cbv
  all_goals exact J4
 replace hh := ifF hh f376
 try rw [f376]
 cbv
 refine ⟨[iA e268a, iA e268b, iA e268c, tA (qInt e268d), tA (qGOcc e268e), tA (qGOcc e268f), tA (qGOcc e268g), tA (qGOcc e268h), tA (qGOcc e268i), iA e268j], Gb h269, ?_⟩
 cbv
 replace hh := bind_some hh
 obtain ⟨x405, h404, hh⟩ := hh
 refine ac hF (am.frz (r' := tA (qGOcc x405)) (qC hQ h404) (by cases hQ; simp)) ?_
 cbv
 refine ⟨[iA e268a, iA e268b, iA e268c, tA (qInt e268d), tA (qGOcc e268e), tA (qGOcc e268f), tA (qGOcc e268g), tA (qGOcc e268h), tA (qGOcc e268i), iA e268j], Gb h269, ?_⟩
 cbv
 replace hh := bind_some hh
 obtain ⟨x408, h407, hh⟩ := hh
 refine ac hF (am.frz (r' := tA (qGOcc x408)) (eJ hQ (g1 := fun y0 => cI.f y0 p1) (fun h => iQ hQ h) h407) (by cases hQ; simp)) ?_
 cbv
 refine ⟨[iA e268a, iA e268b, iA e268c, tA (qInt e268d), tA (qGOcc e268e), tA (qGOcc e268f), tA (qGOcc e268g), tA (qGOcc e268h), tA (qGOcc e268i), iA e268j], Gb h269, ?_⟩
 cbv
 replace hh := aa hh
 obtain ⟨h410, hh⟩ := hh
 replace hh := bind_some hh
 obtain ⟨e411, h412, hh⟩ := hh
 replace hh := aa hh
 obtain ⟨h413, hh⟩ := hh
 replace hh := aa hh
 obtain ⟨h414, hh⟩ := hh
 replace hh := bind_some hh
 obtain ⟨e415, h416, hh⟩ := hh
 refine ⟨[(5, 0), (9, 0), (1007, 50), (1014, 0)], ?_⟩
 cbv
 refine ⟨tA (qGOcc e415), ?_, ?_⟩
 ·refine cS hC (cE [] [185] [216]) mixed (ts := [(4, none)]) Tryz.func216 (by kernel_rfl) (by kernel_rfl) ?_
  intro S N
  cbv
  refine ⟨[iA e268a, iA e268b, iA e268c, tA (qInt e268d), tA (qGOcc e268e), tA (qGOcc e268f), tA (qGOcc e268g), tA (qGOcc e268h), tA (qGOcc x408), iA e268j], Gb2 h269 ((List.getElem?_eq_some_iff.1 h269).1), ?_⟩
  cbv
  refine ⟨[iA e411], Nb h410, Gb h412, ?_⟩
  cbv
  refine ⟨Nb h413, Mb h414, ?_⟩
  refine ⟨[tA (qGOcc e415)], Gb h416, ?_⟩
  cbv
  exact Rb
 cbv
 replace hh := bind_some hh
 obtain ⟨o2, hl2, hq2⟩ := hh
 refine aA hC (cE [] [185] [216]) mixed (fun n (i : (List GNode) × Int) => ai.l2 k e415 s60 n i.1 i.2)
  (fun ⟨s430, s431⟩ => (⟨[(5, .mptr (5, 0) 1 0 0), (12, tA (qGOcc x405)), (36, tA (qGOcc e415)), (37, iA (cast (len (qGOcc e415)))), (38, iA s431), (2000000, .mptr (1000, 0) 1 0 0), (2000001, iA p1), (2000002, .mptr (1002, 0) 1 0 0), (2000007, .ref (1007, 50) 1 0 (len (qLGOcc s59))), (2000009, .mptr (1014, 0) 1 (nadd 0 (toNat s60)) 0), (2000015, iA (cast (len (qGNode p0b)))), (2000016, iA s60), (3000000, .mptr (1000, 0) 1 0 0), (3000002, .mptr (1002, 0) 1 0 0)], [((5, 0), .box 1 [.mptr (1014, 0) 1 (nadd 0 (toNat s60)) 0]), ((1000, 0), .box 1 [iA p0a, .ref (1014, 0) 1 0 (len (qGNode s430)), iA p0c, iA p0d, bA s58]), ((1002, 0), .box 1 [iA p2a, iA p2b, iA p2c]), ((1007, 50), .arr 1 1 (qLGOcc s59)), ((1014, 0), .arr 1 10 (qGNode s430))]⟩ : St))
  (fun (x445 : List GNode) => (⟨[(12, tA (qGOcc x405)), (2000000, .mptr (1000, 0) 1 0 0), (2000001, iA p1), (2000002, .mptr (1002, 0) 1 0 0), (2000007, .ref (1007, 50) 1 0 (len (qLGOcc s59))), (2000009, .mptr (1014, 0) 1 (nadd 0 (toNat s60)) 0), (2000015, iA (cast (len (qGNode p0b)))), (2000016, iA s60), (3000000, .mptr (1000, 0) 1 0 0), (3000002, .mptr (1002, 0) 1 0 0)], [((1000, 0), .box 1 [iA p0a, .ref (1014, 0) 1 0 (len (qGNode x445)), iA p0c, iA p0d, bA s58]), ((1002, 0), .box 1 [iA p2a, iA p2b, iA p2c]), ((1007, 50), .arr 1 1 (qLGOcc s59)), ((1014, 0), .arr 1 10 (qGNode x445))]⟩ : St)) (fun x => x) (.exit 1)
  (i0 := (_, _)) hl2 (fun _ => rfl) ?_ ?_ ?_
 ·rintro ⟨t0, t1⟩ e
  refine aj ?_
  cbv
  all_goals exact J2
 rintro x445 hx
 subst o2
 have hh := hq2
 cbv
 refine ⟨⟨(⟨[(0, .mptr (0, 0) 1 0 0), (1, iA p1), (2, .mptr (2, 0) 1 0 0), (7, .ref (7, 50) 1 0 (len (qLGOcc s59))), (9, .mptr (14, 0) 1 (nadd 0 (toNat s60)) 0), (15, iA (cast (len (qGNode p0b)))), (16, iA s60), (30, tA (qGOcc x405)), (1000000, .mptr (0, 0) 1 0 0), (1000002, .mptr (2, 0) 1 0 0)], [((0, 0), .box 1 [iA p0a, .ref (14, 0) 1 0 (len (qGNode x445)), iA p0c, iA p0d, bA s58]), ((2, 0), .box 1 [iA p2a, iA p2b, iA p2c]), ((7, 50), .arr 1 1 (qLGOcc s59)), ((14, 0), .arr 1 10 (qGNode x445))]⟩ : St), ?_, ?_⟩, trivial⟩
 ·refine az [((0, 0), (1000, 0)), ((2, 0), (1002, 0)), ((7, 50), (1007, 50)), ((14, 0), (1014, 0))] ?_
  cbv
  all_goals exact Zb
 cbv
 replace hh := aa hh
 obtain ⟨h459, hh⟩ := hh
 refine ⟨⟨Ob, Ab⟩, ?_⟩
 refine ⟨⟨Ob, Wb h459⟩, ?_⟩
 replace hh := bind_some hh
 obtain ⟨⟨e460a, e460b, e460c, e460d, ⟨e460e, e460f⟩, ⟨e460g, e460h⟩, e460i, e460j⟩, h461, hh⟩ := hh
 try dsimp only at hh
 refine ⟨[iA e460a, iA e460b, iA e460c, tA (qInt e460d), tA (qGOcc e460e), tA (qGOcc e460f), tA (qGOcc e460g), tA (qGOcc e460h), tA (qGOcc e460i), iA e460j], Gb h461, ?_⟩
 cbv
 refine ⟨[iA e460a, iA e460b, iA e460c, tA (qInt e460d), tA (qGOcc e460e), tA (qGOcc e460f), tA (qGOcc e460g), tA (qGOcc e460h), tA (qGOcc e460i), iA e460j], Gb h461, ?_⟩
 cbv
 refine bcs (fun f463 => ?_) (fun f463 => ?_)
 replace hh := ifT hh f463
 try rw [f463]
 cbv
 ·refine hN1 (_, _, _, _) _ hh fun ⟨t0, t1, t2, t3⟩ e => ?_
  refine az [((0, 0), (0, 0)), ((2, 0), (2, 0)), ((7, 50), (34, 0)), ((14, 0), (14, 0))] ?_
  cbv
  all_goals exact J4
 replace hh := ifF hh f463
 try rw [f463]
 cbv
 refine ⟨[iA e460a, iA e460b, iA e460c, tA (qInt e460d), tA (qGOcc e460e), tA (qGOcc e460f), tA (qGOcc e460g), tA (qGOcc e460h), tA (qGOcc e460i), iA (wrap .i64 (add e460j (cast (len (qGOcc x405)))))], Gb2 h461 ((List.getElem?_eq_some_iff.1 h461).1), ?_⟩
 cbv
 ·refine hN1 (_, _, _, _) _ hh fun ⟨t0, t1, t2, t3⟩ e => ?_
  refine az [((0, 0), (0, 0)), ((2, 0), (2, 0)), ((7, 50), (34, 0)), ((14, 0), (14, 0))] ?_
  cbv
  all_goals exact J4
 rintro n ⟨s430, s431⟩ N2 D2 hh hN2 hD2 hQ2
 dsimp only at hh
 unfold ai.l2 at hh
 cbv
 refine bcs (fun f447 => ?_) (fun f447 => ?_)
 replace hh := ifT hh f447
 try rw [f447]
 cbv
 replace hh := aa hh
 obtain ⟨h448, hh⟩ := hh
 replace hh := bind_some hh
 obtain ⟨⟨e449a, e449b, e449c⟩, h450, hh⟩ := hh
 try dsimp only at hh
 refine ⟨[iA e449a, iA e449b, tA (qInt e449c)], Nb h448, Gb h450, ?_⟩
 cbv
 replace hh := bind_some hh
 obtain ⟨⟨e451a, e451b, e451c, e451d, ⟨e451e, e451f⟩, ⟨e451g, e451h⟩, e451i, e451j⟩, h452, hh⟩ := hh
 try dsimp only at hh
 refine ⟨[iA e451a, iA e451b, iA e451c, tA (qInt e451d), tA (qGOcc e451e), tA (qGOcc e451f), tA (qGOcc e451g), tA (qGOcc e451h), tA (qGOcc e451i), iA e451j], Gb h452, ?_⟩
 cbv
 refine ⟨[iA e451a, iA e451b, iA e451c, tA (qInt e451d), tA (qGOcc e451e), tA (qGOcc e451f), tA (qGOcc e451g), tA (qGOcc e451h), tA (qGOcc e451i), iA e451j], Gb h452, ?_⟩
 cbv
 replace hh := bind_some hh
 obtain ⟨⟨x454a, x454b, x454c⟩, h453, hh⟩ := hh
 try dsimp only at hh
 have fc := lR hQ h453
 try dsimp only at fc
 refine ac hF fc ?_
 cbv
 replace hh := bind_some hh
 obtain ⟨x457, h456, hh⟩ := hh
 refine ⟨Ob, ?_⟩
 refine ac hF (fT hQ h456) ?_
 cbv
 refine ⟨[iA e451a, iA e451b, iA e451c, tA (qInt e451d), tA (qGOcc e451e), tA (qGOcc e451f), tA (qGOcc e451g), tA (qGOcc e451h), tA (qGOcc e451i), iA e451j], Gb h452, ?_⟩
 cbv
 ·refine hN2 (_, _) _ hh fun ⟨t0, t1⟩ e => ?_
  refine aj ?_
  cbv
  all_goals exact J2
 replace hh := ifF hh f447
 try rw [f447]
 cbv
 ·refine hD2 _ _ hh fun t0 e => ?_
  refine aj ?_
  cbv
  all_goals exact J1
 replace hh := ifF hh f265
 try rw [f265]
 cbv
 ·refine hD1 (_, _, _) _ hh fun ⟨t0, t1, t2⟩ e => ?_
  refine aj ?_
  cbv
  all_goals exact J3

theorem m9 {k : Nat} {p0 : GGraph} {p1 : GEv} {r : (List GOcc) × GGraph} (hh : bH.f k p0 p1 = some r) : am P 62 [.obox [iA p0.Mode, oA 10 (qGNode p0.Nodes), iA p0.Seen, iA p0.Now, bA p0.Full], .agg [iA p1.Sym, iA p1.At, iA p1.Val]] [.obox [iA r.2.Mode, oA 10 (qGNode r.2.Nodes), iA r.2.Seen, iA r.2.Now, bA r.2.Full], hA] (oA 3 (qGOcc r.1)) := by
 obtain ⟨p0a, p0b, p0c, p0d, p0e⟩ := p0
 obtain ⟨p1a, p1b, p1c⟩ := p1
 unfold bH.f at hh
 refine go (ts := [(4, none)]) (rm := [.own]) (pm := [.own, .skip]) Tryz.func62 ?_
 intro Fn LW IN len cast toNat wrap add sub mul bin lt eq At set part app fz' rep nadd nmax ssize sext sget scat seq slt Wide Flat Ones Room r' post' hC hF hr hp
 cbv
 replace hh := bind_some hh
 obtain ⟨o1, hl1, hq1⟩ := hh
 refine aA hC eok mixed (fun n (i : Int × (List GNode) × Int × Int × Bool × (List GOcc)) => bH.l0 k (⟨p1a, p1b, p1c⟩ : GEv) n i.1 i.2.1 i.2.2.1 i.2.2.2.1 i.2.2.2.2.1 i.2.2.2.2.2)
  (fun ⟨s12, s13, s14, s15, s16, s17⟩ => (⟨[(0, .mptr (0, 0) 1 0 0), (3, .mptr (3, 0) 1 0 0), (5, .ref (5, 50) 1 0 (len (qGOcc s17))), (1000000, .mptr (0, 0) 1 0 0)], [((0, 0), .box 1 [iA s12, .ref (900, 0) 1 0 (len (qGNode s13)), iA s14, iA s15, bA s16]), ((3, 0), .box 1 [iA p1a, iA p1b, iA p1c]), ((5, 50), .arr 1 3 (qGOcc s17)), ((900, 0), .arr 1 10 (qGNode s13))]⟩ : St))
  (fun (⟨x29, x30, x31, x32, x33, x34⟩ : Int × (List GNode) × Int × Int × Bool × (List GOcc)) => (⟨[(0, .mptr (0, 0) 1 0 0), (3, .mptr (3, 0) 1 0 0), (5, .ref (5, 50) 1 0 (len (qGOcc x34))), (1000000, .mptr (0, 0) 1 0 0)], [((0, 0), .box 1 [iA x29, .ref (900, 0) 1 0 (len (qGNode x30)), iA x31, iA x32, bA x33]), ((3, 0), .box 1 [iA p1a, iA p1b, iA p1c]), ((5, 50), .arr 1 3 (qGOcc x34)), ((900, 0), .arr 1 10 (qGNode x30))]⟩ : St)) (fun x => x) (.exit 0)
  (i0 := (_, _, _, _, _, _)) hl1 (fun _ => rfl) ?_ ?_ ?_
 ·rintro ⟨t0, t1, t2, t3, t4, t5⟩ e
  refine io hC (0, 0) 900 ?_
  cbv
  refine az [((0, 0), (0, 0)), ((3, 0), (3, 0)), ((900, 0), (900, 0))] ?_
  cbv
  all_goals exact J6
 rintro ⟨x29, x30, x31, x32, x33, x34⟩ hx
 subst o1
 have hh := hq1
 cbv
 replace hh := ak hh
 rcases hh with ⟨b46, hh⟩ | ⟨b46, hh⟩
 have f47 : x33 = true := Tb b46
 have g := f47; cbv at g; try rw [f47]
 try rw [g]
 cbv
 refine ⟨3, ?_⟩
 cbv
 refine ⟨10, ?_⟩
 cbv
 exact Eb
 have f47 : x33 = false := Fb b46
 have g := f47; cbv at g; try rw [f47]
 try rw [g]
 cbv
 replace hh := bind_some hh
 obtain ⟨⟨x49_0, ⟨x49_1a, x49_1b, x49_1c, x49_1d, x49_1e⟩, ⟨x49_2a, x49_2b, x49_2c⟩⟩, h48, hh⟩ := hh
 try dsimp only at hh
 have fc := lC hQ h48
 try dsimp only at fc
 refine ac hF fc ?_
 cbv
 replace hh := aa hh
 obtain ⟨h51, hh⟩ := hh
 try dsimp only at h51
 refine ⟨⟨Ab, Ab⟩, ?_⟩
 refine ⟨⟨Ob, Wb h51⟩, ?_⟩
 refine bcs (fun f53 => ?_) (fun f53 => ?_)
 replace hh := ifT hh f53
 try rw [f53]
 cbv
 refine ⟨3, ?_⟩
 cbv
 refine ⟨10, ?_⟩
 cbv
 exact Eb
 replace hh := ifF hh f53
 try rw [f53]
 cbv
 exact Eb
 rintro n ⟨s12, s13, s14, s15, s16, s17⟩ N1 D1 hh hN1 hD1 hQ1
 dsimp only at hh
 unfold bH.l0 at hh
 cbv
 replace hh := ak hh
 rcases hh with ⟨b35, hh⟩ | ⟨b35, hh⟩
 have f36 : s16 = true := Tb b35
 have g := f36; cbv at g; try rw [f36]
 try rw [g]
 cbv
 ·refine hD1 (_, _, _, _, _, _) _ hh fun ⟨t0, t1, t2, t3, t4, t5⟩ e => ?_
  refine aj ?_
  cbv
  all_goals exact J6
 have f36 : s16 = false := Fb b35
 have g := f36; cbv at g; try rw [f36]
 try rw [g]
 cbv
 replace hh := bind_some hh
 obtain ⟨⟨x38_0, x38_1, ⟨x38_2a, x38_2b, x38_2c, x38_2d, x38_2e⟩⟩, h37, hh⟩ := hh
 try dsimp only at hh
 have fc := oB hQ h37
 try dsimp only at fc
 refine ac hF fc ?_
 cbv
 replace hh := ak hh
 rcases hh with ⟨b40, hh⟩ | ⟨b40, hh⟩
 have f41 : x38_1 = true := Tb b40
 have g := f41; cbv at g; try rw [f41]
 try rw [g]
 cbv
 replace hh := bind_some hh
 obtain ⟨⟨x43_0, ⟨x43_1a, x43_1b, x43_1c, x43_1d, x43_1e⟩⟩, h42, hh⟩ := hh
 try dsimp only at hh
 have fc := jO hQ h42
 try dsimp only at fc
 refine ac hF fc ?_
 cbv
 replace hh := aa hh
 obtain ⟨h45, hh⟩ := hh
 try dsimp only at h45
 refine ⟨⟨Ab, Ab⟩, ?_⟩
 refine ⟨⟨Ob, Wb h45⟩, ?_⟩
 ·refine hN1 (_, _, _, _, _, _) _ hh fun ⟨t0, t1, t2, t3, t4, t5⟩ e => ?_
  refine io hC (0, 0) 900 ?_
  cbv
  refine az [((0, 0), (0, 0)), ((3, 0), (3, 0)), ((5, 50), (26, 0)), ((900, 0), (900, 0))] ?_
  cbv
  all_goals exact J6
 have f41 : x38_1 = false := Fb b40
 have g := f41; cbv at g; try rw [f41]
 try rw [g]
 cbv
 ·refine hD1 (_, _, _, _, _, _) _ hh fun ⟨t0, t1, t2, t3, t4, t5⟩ e => ?_
  refine io hC (0, 0) 900 ?_
  cbv
  refine aj ?_
  cbv
  all_goals exact J6

theorem nT {k : Nat} {p0 : List GOcc} {r : List GOcc} (hh : bR.f k p0 = some r) : am P 63 [tA (qGOcc p0)] [hA] (oA 3 (qGOccO r)) := by
 unfold bR.f at hh
 refine go (ts := [(2, none)]) (rm := [.own]) (pm := [.skip]) Tryz.func63 ?_
 intro Fn LW IN len cast toNat wrap add sub mul bin lt eq At set part app fz' rep nadd nmax ssize sext sget scat seq slt Wide Flat Ones Room r' post' hC hF hr hp
 cbv
 replace hh := bind_some hh
 obtain ⟨o1, hl1, hq1⟩ := hh
 refine aA hC eok mixed (fun n (i : (List GOcc) × Int) => bR.l0 k p0 n i.1 i.2)
  (fun ⟨s10, s11⟩ => (⟨[(3, .ref (3, 50) 1 0 (len (qGOccO s10))), (6, tA (qGOcc p0)), (7, iA (cast (len (qGOcc p0)))), (8, iA s11)], [((3, 50), .arr 1 3 (qGOccO s10))]⟩ : St))
  (fun (x21 : List GOcc) => (⟨[(3, .ref (3, 50) 1 0 (len (qGOccO x21)))], [((3, 50), .arr 1 3 (qGOccO x21))]⟩ : St)) (fun x => x) (.exit 0)
  (i0 := (_, _)) hl1 (fun _ => rfl) ?_ ?_ ?_
 ·rintro ⟨t0, t1⟩ e
  refine az [] ?_
  cbv
  all_goals exact J2
 rintro x21 hx
 subst o1
 have hh := hq1
 cbv
 exact Eb
 rintro n ⟨s10, s11⟩ N1 D1 hh hN1 hD1 hQ1
 dsimp only at hh
 unfold bR.l0 at hh
 cbv
 refine bcs (fun f23 => ?_) (fun f23 => ?_)
 replace hh := ifT hh f23
 try rw [f23]
 cbv
 replace hh := aa hh
 obtain ⟨h24, hh⟩ := hh
 replace hh := bind_some hh
 obtain ⟨⟨e25a, e25b, e25c⟩, h26, hh⟩ := hh
 try dsimp only at hh
 refine ⟨[iA e25a, iA e25b, tA (qInt e25c)], Nb h24, Gb h26, ?_⟩
 cbv
 replace hh := bind_some hh
 obtain ⟨⟨x28a, x28b, x28c⟩, h27, hh⟩ := hh
 try dsimp only at hh
 have fc := jI hQ h27
 try dsimp only at fc
 refine ac hF fc ?_
 cbv
 replace hh := aa hh
 obtain ⟨h30, hh⟩ := hh
 refine ⟨⟨Ob, Ab⟩, ?_⟩
 refine ⟨⟨Ob, Wb h30⟩, ?_⟩
 ·refine hN1 (_, _) _ hh fun ⟨t0, t1⟩ e => ?_
  refine az [((3, 50), (16, 0))] ?_
  cbv
  all_goals exact J2
 replace hh := ifF hh f23
 try rw [f23]
 cbv
 ·refine hD1 _ _ hh fun t0 e => ?_
  refine aj ?_
  cbv
  all_goals exact J1

theorem ph {k : Nat} {p0 : GEx} {p1 : Int} {p2 : List GEv} {r : (List GOcc) × Bool} (hh : aX.f k p0 p1 p2 = some r) : am P 20 [.agg [iA p0.Kind, iA p0.Sym, iA p0.N, tA (qGEx p0.Kids)], iA p1, tA (qGEv p2)] [hA, hA, hA] (.tup [oA 3 (qGOccO r.1), bA r.2]) := by
 obtain ⟨p0a, p0b, p0c, p0d⟩ := p0
 unfold aX.f at hh
 refine go (ts := [(6, none), (7, none)]) (rm := [.own, .own]) (pm := [.skip, .skip, .skip]) Tryz.func20 ?_
 intro Fn LW IN len cast toNat wrap add sub mul bin lt eq At set part app fz' rep nadd nmax ssize sext sget scat seq slt Wide Flat Ones Room r' post' hC hF hr hp
 cbv
 replace hh := bind_some hh
 obtain ⟨x2, h1, hh⟩ := hh
 refine ac hF (ku hQ h1) ?_
 cbv
 replace hh := ak hh
 rcases hh with ⟨b4, hh⟩ | ⟨b4, hh⟩
 have f5 : x2 = true := Tb b4
 have g := f5; cbv at g; try rw [f5]
 try rw [g]
 cbv
 replace hh := bind_some hh
 obtain ⟨x7, h6, hh⟩ := hh
 refine ac hF (lL hQ h6) ?_
 cbv
 replace hh := ak hh
 rcases hh with ⟨b9, hh⟩ | ⟨b9, hh⟩
 have f10 : x7 = true := Tb b9
 have g := f10; cbv at g; try rw [f10]
 try rw [g]
 cbv
 replace hh := bind_some hh
 obtain ⟨x12, h11, hh⟩ := hh
 refine ac hF (mr hQ h11) ?_
 cbv
 replace hh := ak hh
 rcases hh with ⟨b14, hh⟩ | ⟨b14, hh⟩
 have f15 : x12 = true := Tb b14
 have g := f15; cbv at g; try rw [f15]
 try rw [g]
 cbv
 replace hh := bind_some hh
 obtain ⟨⟨x17a, x17b, x17c, x17d, x17e⟩, h16, hh⟩ := hh
 try dsimp only at hh
 have fc := kE hQ h16
 try dsimp only at fc
 refine ac hF fc ?_
 cbv
 replace hh := bind_some hh
 obtain ⟨o1, hl1, hq1⟩ := hh
 refine aA hC eok mixed (fun n (i : Int × (List GNode) × Int × Int × Bool × (List GOcc) × Int) => aX.l0 k p2 n i.1 i.2.1 i.2.2.1 i.2.2.2.1 i.2.2.2.2.1 i.2.2.2.2.2.1 i.2.2.2.2.2.2)
  (fun ⟨s32, s33, s34, s35, s36, s37, s38⟩ => (⟨[(8, .mptr (8, 0) 1 0 0), (9, tA (qGOcc s37)), (28, tA (qGEv p2)), (29, iA (cast (len (qGEv p2)))), (30, iA s38)], [((8, 0), .box 1 [iA s32, .ref (27, 0) 1 0 (len (qGNode s33)), iA s34, iA s35, bA s36]), ((27, 0), .arr 1 10 (qGNode s33))]⟩ : St))
  (fun (x52 : List GOcc) => (⟨[(9, tA (qGOcc x52))], []⟩ : St)) .ok (.exit 0)
  (i0 := (_, _, _, _, _, _, _)) hl1 (fun _ => rfl) ?_ ?_ ?_
 ·rintro ⟨t0, t1, t2, t3, t4, t5, t6⟩ e
  refine aj ?_
  cbv
  all_goals exact J7
 rintro x52 hx
 subst o1
 have hh := hq1
 cbv
 replace hh := bind_some hh
 obtain ⟨x67, h66, hh⟩ := hh
 refine ac hF (nT hQ h66) ?_
 cbv
 exact Eb
 rintro n ⟨s32, s33, s34, s35, s36, s37, s38⟩ N1 D1 hh hN1 hD1 hQ1
 dsimp only at hh
 unfold aX.l0 at hh
 cbv
 refine bcs (fun f54 => ?_) (fun f54 => ?_)
 replace hh := ifT hh f54
 try rw [f54]
 cbv
 replace hh := aa hh
 obtain ⟨h55, hh⟩ := hh
 replace hh := bind_some hh
 obtain ⟨⟨e56a, e56b, e56c⟩, h57, hh⟩ := hh
 try dsimp only at hh
 refine ⟨[iA e56a, iA e56b, iA e56c], Nb h55, Gb h57, ?_⟩
 cbv
 replace hh := bind_some hh
 obtain ⟨⟨x59_0, ⟨x59_1a, x59_1b, x59_1c, x59_1d, x59_1e⟩⟩, h58, hh⟩ := hh
 try dsimp only at hh
 have fc := m9 hQ h58
 try dsimp only at fc
 refine ac hF fc ?_
 cbv
 replace hh := bind_some hh
 obtain ⟨x62, h61, hh⟩ := hh
 refine ⟨Ob, ?_⟩
 refine ac hF (bX hQ h61) ?_
 cbv
 refine bcs (fun f65 => ?_) (fun f65 => ?_)
 replace hh := ifT hh f65
 try rw [f65]
 cbv
 cases hh
 have hh : some _ = some _ := hq1
 refine hQ1 _ _ ?_
 cbv
 refine ⟨3, ?_⟩
 cbv
 exact Eb
 replace hh := ifF hh f65
 try rw [f65]
 cbv
 ·refine hN1 (_, _, _, _, _, _, _) _ hh fun ⟨t0, t1, t2, t3, t4, t5, t6⟩ e => ?_
  refine io hC (8, 0) 900 ?_
  cbv
  refine az [((8, 0), (8, 0)), ((27, 0), (900, 0))] ?_
  cbv
  all_goals exact J7
 replace hh := ifF hh f54
 try rw [f54]
 cbv
 ·refine hD1 _ _ hh fun t0 e => ?_
  refine aj ?_
  cbv
  all_goals exact J1
 have f15 : x12 = false := Fb b14
 have g := f15; cbv at g; try rw [f15]
 try rw [g]
 cbv
 refine ⟨3, ?_⟩
 cbv
 exact Eb
 have f10 : x7 = false := Fb b9
 have g := f10; cbv at g; try rw [f10]
 try rw [g]
 cbv
 refine ⟨3, ?_⟩
 cbv
 exact Eb
 have f5 : x2 = false := Fb b4
 have g := f5; cbv at g; try rw [f5]
 try rw [g]
 cbv
 refine ⟨3, ?_⟩
 cbv
 exact Eb
theorem b8 {k : Nat} {p0 : GEx} {p1 : Int} {p2 : List GEv} {r : (List GOcc) × Bool} (hh : aX.f k p0 p1 p2 = some r) : am P 20 [.agg [iA p0.Kind, iA p0.Sym, iA p0.N, oA 4 (qGExO p0.Kids)], iA p1, oA 3 (qGEv p2)] [.agg [iA p0.Kind, iA p0.Sym, iA p0.N, oA 4 (qGExO p0.Kids)], hA, oA 3 (qGEv p2)] (.tup [oA 3 (qGOccO r.1), bA r.2]) := by
  cases hQ; exact (ph .mk hh).lend (by simp [Vm.ownd, d3, -kg, sa]) (.lend (by simp) (.same rfl (.lend (congrArg A.tree (gB _).symm) .nil)))

theorem oW {p0 : List GEv} {r : List GEv} (hh : fj.f p0 = some r) : am P 64 [tA (qGEv p0)] [hA] (oA 3 (qGEv r)) := by
 unfold fj.f at hh
 refine go (ts := [(2, none)]) (rm := [.own]) (pm := [.skip]) Tryz.func64 ?_
 intro Fn LW IN len cast toNat wrap add sub mul bin lt eq At set part app fz' rep nadd nmax ssize sext sget scat seq slt Wide Flat Ones Room r' post' hC hF hr hp
 cbv
 replace hh := aa hh
 obtain ⟨h1, hh⟩ := hh
 refine ⟨⟨Ab, Ab⟩, ?_⟩
 refine ⟨Wb h1, ?_⟩
 exact Eb

theorem kV {k : Nat} {p0 : List GEv} {p1 : List Int} {r : List GEv} (hh : aR.f k p0 p1 = some r) : am P 21 [tA (qGEv p0), tA (qInt p1)] [hA, hA] (oA 3 (qGEv r)) := by
 unfold aR.f at hh
 refine go (ts := [(4, none)]) (rm := [.own]) (pm := [.skip, .skip]) Tryz.func21 ?_
 intro Fn LW IN len cast toNat wrap add sub mul bin lt eq At set part app fz' rep nadd nmax ssize sext sget scat seq slt Wide Flat Ones Room r' post' hC hF hr hp
 cbv
 replace hh := bind_some hh
 obtain ⟨x2, h1, hh⟩ := hh
 refine ac hF (mr hQ h1) ?_
 cbv
 replace hh := ak hh
 rcases hh with ⟨b4, hh⟩ | ⟨b4, hh⟩
 have f5 : x2 = true := Tb b4
 have g := f5; cbv at g; try rw [f5]
 try rw [g]
 cbv
 replace hh := bind_some hh
 obtain ⟨x7, h6, hh⟩ := hh
 refine ac hF (fh hQ h6) ?_
 cbv
 replace hh := ak hh
 rcases hh with ⟨b9, hh⟩ | ⟨b9, hh⟩
 have f10 : x7 = true := Tb b9
 have g := f10; cbv at g; try rw [f10]
 try rw [g]
 cbv
 replace hh := bind_some hh
 obtain ⟨x12, h11, hh⟩ := hh
 refine ac hF (oW hQ h11) ?_
 cbv
 replace hh := bind_some hh
 obtain ⟨o1, hl1, hq1⟩ := hh
 refine aA hC eok mixed (fun n (i : (List GEv) × Int) => aR.l0 k p1 x12 n i.1 i.2)
  (fun ⟨s25, s26⟩ => (⟨[(1, tA (qInt p1)), (5, .ref (17, 0) 1 0 (len (qGEv s25))), (18, .ref (17, 0) 1 0 (len (qGEv s25))), (19, iA (cast (len (qGEv x12)))), (20, iA s26)], [((17, 0), .arr 1 3 (qGEv s25))]⟩ : St))
  (fun (x38 : List GEv) => (⟨[(5, .ref (17, 0) 1 0 (len (qGEv x38)))], [((17, 0), .arr 1 3 (qGEv x38))]⟩ : St)) (fun x => x) (.exit 0)
  (i0 := (_, _)) hl1 (fun _ => rfl) ?_ ?_ ?_
 ·rintro ⟨t0, t1⟩ e
  refine aj ?_
  cbv
  all_goals exact J2
 rintro x38 hx
 subst o1
 have hh := hq1
 cbv
 exact Eb
 rintro n ⟨s25, s26⟩ N1 D1 hh hN1 hD1 hQ1
 dsimp only at hh
 unfold aR.l0 at hh
 cbv
 refine bcs (fun f40 => ?_) (fun f40 => ?_)
 replace hh := ifT hh f40
 try rw [f40]
 cbv
 replace hh := aa hh
 obtain ⟨h41, hh⟩ := hh
 replace hh := aa hh
 obtain ⟨h42, hh⟩ := hh
 refine ⟨Nb h41, Mb h42, ?_⟩
 replace hh := bind_some hh
 obtain ⟨⟨e43a, e43b, e43c⟩, h44, hh⟩ := hh
 try dsimp only at hh
 refine ⟨[iA e43a, iA e43b, iA e43c], Gb h44, ?_⟩
 cbv
 replace hh := aa hh
 obtain ⟨h45, hh⟩ := hh
 try dsimp only at h45
 replace hh := bind_some hh
 obtain ⟨e46, h47, hh⟩ := hh
 refine ⟨[iA e46], Nb h45, Gb h47, ?_⟩
 cbv
 replace hh := aa hh
 obtain ⟨h48, hh⟩ := hh
 replace hh := aa hh
 obtain ⟨h49, hh⟩ := hh
 refine ⟨Nb h48, Mb h49, ?_⟩
 refine ⟨[iA e43a, iA e43b, iA e43c], Gb h44, ?_⟩
 cbv
 ·refine hN1 (_, _) _ hh fun ⟨t0, t1⟩ e => ?_
  refine aj ?_
  cbv
  all_goals exact J2
 replace hh := ifF hh f40
 try rw [f40]
 cbv
 ·refine hD1 _ _ hh fun t0 e => ?_
  refine aj ?_
  cbv
  all_goals exact J1
 have f10 : x7 = false := Fb b9
 have g := f10; cbv at g; try rw [f10]
 try rw [g]
 cbv
 refine ⟨3, ?_⟩
 cbv
 exact Eb
 have f5 : x2 = false := Fb b4
 have g := f5; cbv at g; try rw [f5]
 try rw [g]
 cbv
 refine ⟨3, ?_⟩
 cbv
 exact Eb
theorem d4 {k : Nat} {p0 : List GEv} {p1 : List Int} {r : List GEv} (hh : aR.f k p0 p1 = some r) : am P 21 [oA 3 (qGEv p0), oA 1 (qInt p1)] [oA 3 (qGEv p0), oA 1 (qInt p1)] (oA 3 (qGEv r)) := by
  cases hQ; exact (kV .mk hh).lend (oK _) (.lend (congrArg A.tree (gB _).symm) (.lend (congrArg A.tree (gC _).symm) .nil))
theorem cC {k : Nat} {p0 : List GEv} {p1 : List Int} {r : List GEv} (hh : aR.f k p0 p1 = some r) : am P 21 [oA 3 (qGEv p0), tA (qInt p1)] [oA 3 (qGEv p0), hA] (oA 3 (qGEv r)) := by
  cases hQ; exact (kV .mk hh).lend (oK _) (.lend (congrArg A.tree (gB _).symm) (.same rfl .nil))

theorem gb {k : Nat} {g2 : GEx → GEx → Option Bool} (hg2 : ∀ {y0 : GEx} {y1 : GEx} {r : Bool}, g2 y0 y1 = some r → am P 22 [.agg [iA y0.Kind, iA y0.Sym, iA y0.N, tA (qGEx y0.Kids)], .agg [iA y1.Kind, iA y1.Sym, iA y1.N, tA (qGEx y1.Kids)]] [hA, hA] (bA r)) {p0 : List GEx} {p1 : List GEx} {r : Bool} (hh : bp.f g2 k p0 p1 = some r) : am P 65 [tA (qGEx p0), tA (qGEx p1), .clo 22 []] [hA, hA, hA] (bA r) := by
 unfold bp.f at hh
 refine go (ts := [(6, none)]) (rm := [.own]) (pm := [.skip, .skip, .skip]) Tryz.func65 ?_
 intro Fn LW IN len cast toNat wrap add sub mul bin lt eq At set part app fz' rep nadd nmax ssize sext sget scat seq slt Wide Flat Ones Room r' post' hC hF hr hp
 cbv
 replace hh := ak hh
 rcases hh with ⟨b1, hh⟩ | ⟨b1, hh⟩
 have f2 : (eq (cast (len (qGEx p0))) (cast (len (qGEx p1)))) = true := Tb b1
 have g := f2; cbv at g; try rw [f2]
 try rw [g]
 cbv
 replace hh := bind_some hh
 obtain ⟨o1, hl1, hq1⟩ := hh
 refine aA hC eok mixed (bp.l0 k g2 p0 p1)
  (fun s16 => (⟨[(1, tA (qGEx p1)), (2, .clo 22 []), (15, tA (qGEx p0)), (16, iA (cast (len (qGEx p0)))), (17, iA s16)], []⟩ : St))
  (fun (_ : Unit) => (⟨[], []⟩ : St)) .ok (.exit 0)
  (i0 := _) hl1 (fun _ => rfl) ?_ ?_ ?_
 ·rintro t0 e
  refine aj ?_
  cbv
  all_goals exact J1
 rintro _ hx
 subst o1
 have hh := hq1
 cbv
 exact Eb
 rintro n s16 N1 D1 hh hN1 hD1 hQ1
 unfold bp.l0 at hh
 cbv
 refine bcs (fun f31 => ?_) (fun f31 => ?_)
 replace hh := ifT hh f31
 try rw [f31]
 cbv
 replace hh := aa hh
 obtain ⟨h32, hh⟩ := hh
 replace hh := bind_some hh
 obtain ⟨⟨e33a, e33b, e33c, e33d⟩, h34, hh⟩ := hh
 try dsimp only at hh
 refine ⟨[iA e33a, iA e33b, iA e33c, tA (qGEx e33d)], Nb h32, Gb h34, ?_⟩
 cbv
 replace hh := aa hh
 obtain ⟨h35, hh⟩ := hh
 replace hh := bind_some hh
 obtain ⟨⟨e36a, e36b, e36c, e36d⟩, h37, hh⟩ := hh
 try dsimp only at hh
 refine ⟨[iA e36a, iA e36b, iA e36c, tA (qGEx e36d)], Nb h35, Gb h37, ?_⟩
 cbv
 replace hh := bind_some hh
 obtain ⟨x39, h38, hh⟩ := hh
 refine ac hF (hg2 h38) ?_
 cbv
 replace hh := ak hh
 rcases hh with ⟨b41, hh⟩ | ⟨b41, hh⟩
 have f42 : x39 = true := Tb b41
 have g := f42; cbv at g; try rw [f42]
 try rw [g]
 cbv
 ·refine hN1 _ _ hh fun t0 e => ?_
  refine aj ?_
  cbv
  all_goals exact J1
 have f42 : x39 = false := Fb b41
 have g := f42; cbv at g; try rw [f42]
 try rw [g]
 cbv
 cases hh
 have hh : some _ = some _ := hq1
 refine hQ1 _ _ ?_
 cbv
 exact Eb
 replace hh := ifF hh f31
 try rw [f31]
 cbv
 ·refine hD1 () _ hh fun _ e => ?_
  refine aj ?_
  cbv
  all_goals exact J0
 have f2 : (eq (cast (len (qGEx p0))) (cast (len (qGEx p1)))) = false := Fb b1
 have g := f2; cbv at g; try rw [f2]
 try rw [g]
 cbv
 exact Eb

theorem wY : ∀ k : Nat, (∀ {p0 : GEx} {p1 : GEx} {r : Bool}, ct.f k p0 p1 = some r → am P 22 [.agg [iA p0.Kind, iA p0.Sym, iA p0.N, tA (qGEx p0.Kids)], .agg [iA p1.Kind, iA p1.Sym, iA p1.N, tA (qGEx p1.Kids)]] [hA, hA] (bA r)) := by
  intro k
  induction k using Nat.strongRecOn with
  | _ k ih =>
  · intro p0 p1 r hh
    cases k with
    | zero => unfold ct.f at hh; cases hh
    | succ k =>
    obtain ⟨p0a, p0b, p0c, p0d⟩ := p0
    obtain ⟨p1a, p1b, p1c, p1d⟩ := p1
    unfold ct.f at hh
    refine go (ts := [(4, none)]) (rm := [.own]) (pm := [.skip, .skip]) Tryz.func22 ?_
    intro Fn LW IN len cast toNat wrap add sub mul bin lt eq At set part app fz' rep nadd nmax ssize sext sget scat seq slt Wide Flat Ones Room r' post' hC hF hr hp
    cbv
    refine bcs (fun f2 => ?_) (fun f2 => ?_)
    replace hh := ifT hh f2
    try rw [f2]
    cbv
    refine bcs (fun f4 => ?_) (fun f4 => ?_)
    replace hh := ifT hh f4
    try rw [f4]
    cbv
    refine bcs (fun f6 => ?_) (fun f6 => ?_)
    replace hh := ifT hh f6
    try rw [f6]
    cbv
    replace hh := bind_some hh
    obtain ⟨x8, h7, hh⟩ := hh
    refine ac hF (gb hQ (g2 := fun y0 y1 => ct.f k y0 y1) (fun h => (ih k (Nat.lt_succ_self k)) h) h7) ?_
    cbv
    exact Eb
    replace hh := ifF hh f6
    try rw [f6]
    cbv
    exact Eb
    replace hh := ifF hh f4
    try rw [f4]
    cbv
    exact Eb
    replace hh := ifF hh f2
    try rw [f2]
    cbv
    exact Eb
theorem qX {k : Nat} {p0 : GEx} {p1 : GEx} {r : Bool} (hh : ct.f k p0 p1 = some r) : am P 22 [.agg [iA p0.Kind, iA p0.Sym, iA p0.N, tA (qGEx p0.Kids)], .agg [iA p1.Kind, iA p1.Sym, iA p1.N, tA (qGEx p1.Kids)]] [hA, hA] (bA r) := (wY hQ k) hh

theorem ez {k : Nat} {p0 : GEx} {p1 : GEx} {r : Bool} (hh : ct.f k p0 p1 = some r) : am P 22 [.agg [iA p0.Kind, iA p0.Sym, iA p0.N, oA 4 (qGExO p0.Kids)], .agg [iA p1.Kind, iA p1.Sym, iA p1.N, oA 4 (qGExO p1.Kids)]] [.agg [iA p0.Kind, iA p0.Sym, iA p0.N, oA 4 (qGExO p0.Kids)], .agg [iA p1.Kind, iA p1.Sym, iA p1.N, oA 4 (qGExO p1.Kids)]] (bA r) := by
  cases hQ; exact (qX .mk hh).lend (rfl) (.lend (by simp) (.lend (by simp) .nil))

theorem oi {k : Nat} {p0 : GEx} {r : Int} (hh : bP.f k p0 = some r) : am P 23 [.agg [iA p0.Kind, iA p0.Sym, iA p0.N, tA (qGEx p0.Kids)]] [hA] (iA r) := by
 obtain ⟨p0a, p0b, p0c, p0d⟩ := p0
 unfold bP.f at hh
 refine go (ts := [(2, none)]) (rm := [.own]) (pm := [.skip]) Tryz.func23 ?_
 intro Fn LW IN len cast toNat wrap add sub mul bin lt eq At set part app fz' rep nadd nmax ssize sext sget scat seq slt Wide Flat Ones Room r' post' hC hF hr hp
 cbv
 replace hh := bind_some hh
 obtain ⟨⟨x2a, x2b, x2c, x2d, x2e⟩, h1, hh⟩ := hh
 try dsimp only at hh
 have fc := kE hQ h1
 try dsimp only at fc
 refine ac hF fc ?_
 cbv
 exact Eb
theorem ck {k : Nat} {p0 : GEx} {r : Int} (hh : bP.f k p0 = some r) : am P 23 [.agg [iA p0.Kind, iA p0.Sym, iA p0.N, oA 4 (qGExO p0.Kids)]] [.agg [iA p0.Kind, iA p0.Sym, iA p0.N, oA 4 (qGExO p0.Kids)]] (iA r) := by
  cases hQ; exact (oi .mk hh).lend (rfl) (.lend (by simp) .nil)

theorem m8 {k : Nat} {p0 : List GEv} {p1 : List GEv} {r : Bool} (hh : bF.f k p0 p1 = some r) : am P 66 [tA (qGEv p0), tA (qGEv p1)] [hA, hA] (bA r) := by
 unfold bF.f at hh
 refine go (ts := [(4, none)]) (rm := [.own]) (pm := [.skip, .skip]) Tryz.func66 ?_
 intro Fn LW IN len cast toNat wrap add sub mul bin lt eq At set part app fz' rep nadd nmax ssize sext sget scat seq slt Wide Flat Ones Room r' post' hC hF hr hp
 cbv
 replace hh := ak hh
 rcases hh with ⟨b1, hh⟩ | ⟨b1, hh⟩
 have f2 : (eq (cast (len (qGEv p0))) (cast (len (qGEv p1)))) = true := Tb b1
 have g := f2; cbv at g; try rw [f2]
 try rw [g]
 cbv
 replace hh := bind_some hh
 obtain ⟨o1, hl1, hq1⟩ := hh
 refine aA hC eok mixed (bF.l0 k p0 p1)
  (fun s17 => (⟨[(0, tA (qGEv p0)), (1, tA (qGEv p1)), (12, iA (cast (len (qGEv p0)))), (13, iA s17)], []⟩ : St))
  (fun (_ : Unit) => (⟨[], []⟩ : St)) .ok (.exit 0)
  (i0 := _) hl1 (fun _ => rfl) ?_ ?_ ?_
 ·rintro t0 e
  refine aj ?_
  cbv
  all_goals exact J1
 rintro _ hx
 subst o1
 have hh := hq1
 cbv
 exact Eb
 rintro n s17 N1 D1 hh hN1 hD1 hQ1
 unfold bF.l0 at hh
 cbv
 refine bcs (fun f33 => ?_) (fun f33 => ?_)
 replace hh := ifT hh f33
 try rw [f33]
 cbv
 replace hh := aa hh
 obtain ⟨h34, hh⟩ := hh
 replace hh := bind_some hh
 obtain ⟨⟨e35a, e35b, e35c⟩, h36, hh⟩ := hh
 try dsimp only at hh
 refine ⟨[iA e35a, iA e35b, iA e35c], Nb h34, Gb h36, ?_⟩
 cbv
 replace hh := aa hh
 obtain ⟨h37, hh⟩ := hh
 replace hh := bind_some hh
 obtain ⟨⟨e38a, e38b, e38c⟩, h39, hh⟩ := hh
 try dsimp only at hh
 refine ⟨[iA e38a, iA e38b, iA e38c], Nb h37, Gb h39, ?_⟩
 cbv
 replace hh := ak hh
 rcases hh with ⟨b40, hh⟩ | ⟨b40, hh⟩
 have f41 : (eq e35a e38a) = true := Tb b40
 have g := f41; cbv at g; try rw [f41]
 try rw [g]
 cbv
 replace hh := ak hh
 rcases hh with ⟨b42, hh⟩ | ⟨b42, hh⟩
 have f43 : (eq e35b e38b) = true := Tb b42
 have g := f43; cbv at g; try rw [f43]
 try rw [g]
 cbv
 replace hh := ak hh
 rcases hh with ⟨b44, hh⟩ | ⟨b44, hh⟩
 have f45 : (eq e35c e38c) = true := Tb b44
 have g := f45; cbv at g; try rw [f45]
 try rw [g]
 cbv
 ·refine hN1 _ _ hh fun t0 e => ?_
  refine aj ?_
  cbv
  all_goals exact J1
 have f45 : (eq e35c e38c) = false := Fb b44
 have g := f45; cbv at g; try rw [f45]
 try rw [g]
 cbv
 cases hh
 have hh : some _ = some _ := hq1
 refine hQ1 _ _ ?_
 cbv
 exact Eb
 have f43 : (eq e35b e38b) = false := Fb b42
 have g := f43; cbv at g; try rw [f43]
 try rw [g]
 cbv
 cases hh
 have hh : some _ = some _ := hq1
 refine hQ1 _ _ ?_
 cbv
 exact Eb
 have f41 : (eq e35a e38a) = false := Fb b40
 have g := f41; cbv at g; try rw [f41]
 try rw [g]
 cbv
 cases hh
 have hh : some _ = some _ := hq1
 refine hQ1 _ _ ?_
 cbv
 exact Eb
 replace hh := ifF hh f33
 try rw [f33]
 cbv
 ·refine hD1 () _ hh fun _ e => ?_
  refine aj ?_
  cbv
  all_goals exact J0
 have f2 : (eq (cast (len (qGEv p0))) (cast (len (qGEv p1)))) = false := Fb b1
 have g := f2; cbv at g; try rw [f2]
 try rw [g]
 cbv
 exact Eb

theorem qf {k : Nat} {p0 : List GEv} {p1 : List GEv} {r : Bool} (hh : cJ.f k p0 p1 = some r) : am P 24 [tA (qGEv p0), tA (qGEv p1)] [hA, hA] (bA r) := by
 unfold cJ.f at hh
 refine go (ts := [(4, none)]) (rm := [.own]) (pm := [.skip, .skip]) Tryz.func24 ?_
 intro Fn LW IN len cast toNat wrap add sub mul bin lt eq At set part app fz' rep nadd nmax ssize sext sget scat seq slt Wide Flat Ones Room r' post' hC hF hr hp
 cbv
 replace hh := bind_some hh
 obtain ⟨x2, h1, hh⟩ := hh
 refine ac hF (m8 hQ h1) ?_
 cbv
 exact Eb
theorem d5 {k : Nat} {p0 : List GEv} {p1 : List GEv} {r : Bool} (hh : cJ.f k p0 p1 = some r) : am P 24 [oA 3 (qGEv p0), oA 3 (qGEv p1)] [oA 3 (qGEv p0), oA 3 (qGEv p1)] (bA r) := by
  cases hQ; exact (qf .mk hh).lend (rfl) (.lend (congrArg A.tree (gB _).symm) (.lend (congrArg A.tree (gB _).symm) .nil))

theorem sU {p0 : GEv} {r : Bool} (hh : iF.f p0 = some r) : am P 67 [.agg [iA p0.Sym, iA p0.At, iA p0.Val]] [hA] (bA r) := by
 obtain ⟨p0a, p0b, p0c⟩ := p0
 unfold iF.f at hh
 refine go (ts := [(2, none)]) (rm := [.own]) (pm := [.skip]) Tryz.func67 ?_
 intro Fn LW IN len cast toNat wrap add sub mul bin lt eq At set part app fz' rep nadd nmax ssize sext sget scat seq slt Wide Flat Ones Room r' post' hC hF hr hp
 cbv
 replace hh := ak hh
 rcases hh with ⟨b1, hh⟩ | ⟨b1, hh⟩
 have f2 : (lt p0a 0) = true := Tb b1
 have g := f2; cbv at g; try rw [f2]
 try rw [g]
 cbv
 exact Eb
 have f2 : (lt p0a 0) = false := Fb b1
 have g := f2; cbv at g; try rw [f2]
 try rw [g]
 cbv
 refine bcs (fun f4 => ?_) (fun f4 => ?_)
 replace hh := ifT hh f4
 try rw [f4]
 cbv
 replace hh := ak hh
 rcases hh with ⟨b5, hh⟩ | ⟨b5, hh⟩
 have f6 : (lt p0b 1) = true := Tb b5
 have g := f6; cbv at g; try rw [f6]
 try rw [g]
 cbv
 exact Eb
 have f6 : (lt p0b 1) = false := Fb b5
 have g := f6; cbv at g; try rw [f6]
 try rw [g]
 cbv
 replace hh := ak hh
 rcases hh with ⟨b7, hh⟩ | ⟨b7, hh⟩
 have f8 : (lt 1000 p0b) = true := Tb b7
 have g := f8; cbv at g; try rw [f8]
 try rw [g]
 cbv
 exact Eb
 have f8 : (lt 1000 p0b) = false := Fb b7
 have g := f8; cbv at g; try rw [f8]
 try rw [g]
 cbv
 replace hh := ak hh
 rcases hh with ⟨b9, hh⟩ | ⟨b9, hh⟩
 have f10 : (lt p0c 0) = true := Tb b9
 have g := f10; cbv at g; try rw [f10]
 try rw [g]
 cbv
 exact Eb
 have f10 : (lt p0c 0) = false := Fb b9
 have g := f10; cbv at g; try rw [f10]
 try rw [g]
 cbv
 exact Eb
 replace hh := ifF hh f4
 try rw [f4]
 cbv
 exact Eb

theorem sD {k : Nat} {p0 : List GEv} {r : Bool} (hh : aT.f k p0 = some r) : am P 25 [tA (qGEv p0)] [hA] (bA r) := by
 unfold aT.f at hh
 refine go (ts := [(2, none)]) (rm := [.own]) (pm := [.skip]) Tryz.func25 ?_
 intro Fn LW IN len cast toNat wrap add sub mul bin lt eq At set part app fz' rep nadd nmax ssize sext sget scat seq slt Wide Flat Ones Room r' post' hC hF hr hp
 cbv
 refine bcs (fun f2 => ?_) (fun f2 => ?_)
 replace hh := ifT hh f2
 try rw [f2]
 cbv
 exact Eb
 replace hh := ifF hh f2
 try rw [f2]
 cbv
 replace hh := bind_some hh
 obtain ⟨o1, hl1, hq1⟩ := hh
 refine aA hC eok mixed (aT.l0 k p0)
  (fun s23 => (⟨[(0, tA (qGEv p0)), (3, iA s23)], []⟩ : St))
  (fun (_ : Unit) => (⟨[], []⟩ : St)) .ok (.exit 0)
  (i0 := _) hl1 (fun _ => rfl) ?_ ?_ ?_
 ·rintro t0 e
  refine aj ?_
  cbv
  all_goals exact J1
 rintro _ hx
 subst o1
 have hh := hq1
 cbv
 exact Eb
 rintro n s23 N1 D1 hh hN1 hD1 hQ1
 unfold aT.l0 at hh
 cbv
 refine bcs (fun f45 => ?_) (fun f45 => ?_)
 replace hh := ifT hh f45
 try rw [f45]
 cbv
 replace hh := aa hh
 obtain ⟨h46, hh⟩ := hh
 replace hh := bind_some hh
 obtain ⟨⟨e47a, e47b, e47c⟩, h48, hh⟩ := hh
 try dsimp only at hh
 refine ⟨[iA e47a, iA e47b, iA e47c], Nb h46, Gb h48, ?_⟩
 cbv
 replace hh := bind_some hh
 obtain ⟨x50, h49, hh⟩ := hh
 refine ac hF (sU hQ h49) ?_
 cbv
 replace hh := ak hh
 rcases hh with ⟨b52, hh⟩ | ⟨b52, hh⟩
 have f53 : x50 = true := Tb b52
 have g := f53; cbv at g; try rw [f53]
 try rw [g]
 cbv
 refine bcs (fun f55 => ?_) (fun f55 => ?_)
 replace hh := ifT hh f55
 try rw [f55]
 cbv
 replace hh := aa hh
 obtain ⟨h56, hh⟩ := hh
 replace hh := bind_some hh
 obtain ⟨⟨e57a, e57b, e57c⟩, h58, hh⟩ := hh
 try dsimp only at hh
 refine ⟨[iA e57a, iA e57b, iA e57c], Nb h56, Gb h58, ?_⟩
 cbv
 replace hh := aa hh
 obtain ⟨h59, hh⟩ := hh
 replace hh := bind_some hh
 obtain ⟨⟨e60a, e60b, e60c⟩, h61, hh⟩ := hh
 try dsimp only at hh
 refine ⟨[iA e60a, iA e60b, iA e60c], Nb h59, Gb h61, ?_⟩
 cbv
 replace hh := ak hh
 rcases hh with ⟨b62, hh⟩ | ⟨b62, hh⟩
 have f63 : (lt e60b e57b) = true := Tb b62
 have g := f63; cbv at g; try rw [f63]
 try rw [g]
 cbv
 ·refine hN1 _ _ hh fun t0 e => ?_
  refine aj ?_
  cbv
  all_goals exact J1
 have f63 : (lt e60b e57b) = false := Fb b62
 have g := f63; cbv at g; try rw [f63]
 try rw [g]
 cbv
 cases hh
 have hh : some _ = some _ := hq1
 refine hQ1 _ _ ?_
 cbv
 exact Eb
 replace hh := ifF hh f55
 try rw [f55]
 cbv
 ·refine hN1 _ _ hh fun t0 e => ?_
  refine aj ?_
  cbv
  all_goals exact J1
 have f53 : x50 = false := Fb b52
 have g := f53; cbv at g; try rw [f53]
 try rw [g]
 cbv
 cases hh
 have hh : some _ = some _ := hq1
 refine hQ1 _ _ ?_
 cbv
 exact Eb
 replace hh := ifF hh f45
 try rw [f45]
 cbv
 ·refine hD1 () _ hh fun _ e => ?_
  refine aj ?_
  cbv
  all_goals exact J0
theorem bm {k : Nat} {p0 : List GEv} {r : Bool} (hh : aT.f k p0 = some r) : am P 25 [oA 3 (qGEv p0)] [oA 3 (qGEv p0)] (bA r) := by
  cases hQ; exact (sD .mk hh).lend (rfl) (.lend (congrArg A.tree (gB _).symm) .nil)

theorem nh {k : Nat} {p0 : GOcc} {p1 : GOcc} {r : Bool} (hh : dC.f k p0 p1 = some r) : am P 69 [.agg [iA p0.From, iA p0.To, tA (qInt p0.Ids)], .agg [iA p1.From, iA p1.To, tA (qInt p1.Ids)]] [hA, hA] (bA r) := by
 obtain ⟨p0a, p0b, p0c⟩ := p0
 obtain ⟨p1a, p1b, p1c⟩ := p1
 unfold dC.f at hh
 refine go (ts := [(4, none)]) (rm := [.own]) (pm := [.skip, .skip]) Tryz.func69 ?_
 intro Fn LW IN len cast toNat wrap add sub mul bin lt eq At set part app fz' rep nadd nmax ssize sext sget scat seq slt Wide Flat Ones Room r' post' hC hF hr hp
 cbv
 replace hh := bind_some hh
 obtain ⟨x2, h1, hh⟩ := hh
 refine ac hF (ii hQ h1) ?_
 cbv
 exact Eb

theorem fx {k : Nat} {g2 : GOcc → GOcc → Option Bool} (hg2 : ∀ {y0 : GOcc} {y1 : GOcc} {r : Bool}, g2 y0 y1 = some r → am P 69 [.agg [iA y0.From, iA y0.To, tA (qInt y0.Ids)], .agg [iA y1.From, iA y1.To, tA (qInt y1.Ids)]] [hA, hA] (bA r)) {p0 : List GOcc} {p1 : List GOcc} {r : Bool} (hh : bg.f g2 k p0 p1 = some r) : am P 68 [tA (qGOcc p0), tA (qGOcc p1), .clo 69 []] [hA, hA, hA] (bA r) := by
 unfold bg.f at hh
 refine go (ts := [(6, none)]) (rm := [.own]) (pm := [.skip, .skip, .skip]) Tryz.func68 ?_
 intro Fn LW IN len cast toNat wrap add sub mul bin lt eq At set part app fz' rep nadd nmax ssize sext sget scat seq slt Wide Flat Ones Room r' post' hC hF hr hp
 cbv
 replace hh := ak hh
 rcases hh with ⟨b1, hh⟩ | ⟨b1, hh⟩
 have f2 : (eq (cast (len (qGOcc p0))) (cast (len (qGOcc p1)))) = true := Tb b1
 have g := f2; cbv at g; try rw [f2]
 try rw [g]
 cbv
 replace hh := bind_some hh
 obtain ⟨o1, hl1, hq1⟩ := hh
 refine aA hC eok mixed (bg.l0 k g2 p0 p1)
  (fun s16 => (⟨[(1, tA (qGOcc p1)), (2, .clo 69 []), (15, tA (qGOcc p0)), (16, iA (cast (len (qGOcc p0)))), (17, iA s16)], []⟩ : St))
  (fun (_ : Unit) => (⟨[], []⟩ : St)) .ok (.exit 0)
  (i0 := _) hl1 (fun _ => rfl) ?_ ?_ ?_
 ·rintro t0 e
  refine aj ?_
  cbv
  all_goals exact J1
 rintro _ hx
 subst o1
 have hh := hq1
 cbv
 exact Eb
 rintro n s16 N1 D1 hh hN1 hD1 hQ1
 unfold bg.l0 at hh
 cbv
 refine bcs (fun f31 => ?_) (fun f31 => ?_)
 replace hh := ifT hh f31
 try rw [f31]
 cbv
 replace hh := aa hh
 obtain ⟨h32, hh⟩ := hh
 replace hh := bind_some hh
 obtain ⟨⟨e33a, e33b, e33c⟩, h34, hh⟩ := hh
 try dsimp only at hh
 refine ⟨[iA e33a, iA e33b, tA (qInt e33c)], Nb h32, Gb h34, ?_⟩
 cbv
 replace hh := aa hh
 obtain ⟨h35, hh⟩ := hh
 replace hh := bind_some hh
 obtain ⟨⟨e36a, e36b, e36c⟩, h37, hh⟩ := hh
 try dsimp only at hh
 refine ⟨[iA e36a, iA e36b, tA (qInt e36c)], Nb h35, Gb h37, ?_⟩
 cbv
 replace hh := bind_some hh
 obtain ⟨x39, h38, hh⟩ := hh
 refine ac hF (hg2 h38) ?_
 cbv
 replace hh := ak hh
 rcases hh with ⟨b41, hh⟩ | ⟨b41, hh⟩
 have f42 : x39 = true := Tb b41
 have g := f42; cbv at g; try rw [f42]
 try rw [g]
 cbv
 ·refine hN1 _ _ hh fun t0 e => ?_
  refine aj ?_
  cbv
  all_goals exact J1
 have f42 : x39 = false := Fb b41
 have g := f42; cbv at g; try rw [f42]
 try rw [g]
 cbv
 cases hh
 have hh : some _ = some _ := hq1
 refine hQ1 _ _ ?_
 cbv
 exact Eb
 replace hh := ifF hh f31
 try rw [f31]
 cbv
 ·refine hD1 () _ hh fun _ e => ?_
  refine aj ?_
  cbv
  all_goals exact J0
 have f2 : (eq (cast (len (qGOcc p0))) (cast (len (qGOcc p1)))) = false := Fb b1
 have g := f2; cbv at g; try rw [f2]
 try rw [g]
 cbv
 exact Eb

theorem pB {k : Nat} {p0 : List GOcc} {p1 : List GOcc} {r : Bool} (hh : aI.f k p0 p1 = some r) : am P 26 [tA (qGOcc p0), tA (qGOcc p1)] [hA, hA] (bA r) := by
 unfold aI.f at hh
 refine go (ts := [(4, none)]) (rm := [.own]) (pm := [.skip, .skip]) Tryz.func26 ?_
 intro Fn LW IN len cast toNat wrap add sub mul bin lt eq At set part app fz' rep nadd nmax ssize sext sget scat seq slt Wide Flat Ones Room r' post' hC hF hr hp
 cbv
 replace hh := bind_some hh
 obtain ⟨x2, h1, hh⟩ := hh
 refine ac hF (fx hQ (g2 := fun y0 y1 => dC.f k y0 y1) (fun h => nh hQ h) h1) ?_
 cbv
 exact Eb
theorem ay {k : Nat} {p0 : List GOcc} {p1 : List GOcc} {r : Bool} (hh : aI.f k p0 p1 = some r) : am P 26 [oA 3 (qGOccO p0), oA 3 (qGOccO p1)] [oA 3 (qGOccO p0), oA 3 (qGOccO p1)] (bA r) := by
  cases hQ; exact (pB .mk hh).lend (rfl) (.lend (congrArg A.tree (lz _).symm) (.lend (congrArg A.tree (lz _).symm) .nil))

end Go.Proofs.YtlbnmldopjadoaaGreat
