/- The functions of this program do what the plain ones do. -/
import Derived.Test.YtlbnmldopjadoaaGreatC3
namespace Go.Proofs.YtlbnmldopjadoaaGreat
open Go Go.Vm
set_option linter.unusedVariables false
set_option maxHeartbeats 4000000
set_option maxRecDepth 4000
variable {qIu8 : List Int → Vm.Rows} {qGEx : List GEx → Vm.Rows} {qGRule : List GRule → Vm.Rows} {qStr : List ByteArray → Vm.Rows} {qInt : List Int → Vm.Rows} {qGExO : List GEx → Vm.Rows} {qGOcc : List GOcc → Vm.Rows} {qGNode : List GNode → Vm.Rows} {qGGraphS : List GGraph → Vm.Rows} {qGGraph : List GGraph → Vm.Rows} {qGEv : List GEv → Vm.Rows} {qGFire : List GFire → Vm.Rows} {qLGOcc : List (List GOcc) → Vm.Rows} {qGOccO : List GOcc → Vm.Rows} {qLInt : List (List Int) → Vm.Rows} (hQ : EQ qIu8 qGEx qGRule qStr qInt qGExO qGOcc qGNode qGGraphS qGGraph qGEv qGFire qLGOcc qGOccO qLInt)
include hQ
theorem og {k : Nat} {p0 : GGraph} {p1 : Int} {p2 : GEv} {r : (List GOcc) × GGraph × GEv} (hh : ak.f k p0 p1 p2 = some r) : ai P 130 [.obox [iA p0.Mode, oA 10 (qGNode p0.Nodes), iA p0.Seen, iA p0.Now, bA p0.Full], iA p1, .obox [iA p2.Sym, iA p2.At, iA p2.Val]] [.obox [iA r.2.1.Mode, oA 10 (qGNode r.2.1.Nodes), iA r.2.1.Seen, iA r.2.1.Now, bA r.2.1.Full], hA, .obox [iA r.2.2.Sym, iA r.2.2.At, iA r.2.2.Val]] (tA (qGOcc r.1)) := by
 obtain ⟨p0a, p0b, p0c, p0d, p0e⟩ := p0
 obtain ⟨p2a, p2b, p2c⟩ := p2
 unfold ak.f at hh
 refine goG (g := []) (i := [185]) (o := [216]) (sh := []) (ts := [(6, none)]) (rm := [.val]) (pm := [.own, .skip, .own]) Tryz.func130 ?_
 unhygienic intros
 cbv
 replace hh := bind_some hh
 obtain ⟨o1, Fj, Fk⟩ := hh
 refine au hC (ck [] [185] [216]) mixed (fun n (i : (List GNode) × Bool × (List (List GOcc)) × Int) => ak.l1 k (⟨p0a, p0b, p0c, p0d, p0e⟩ : GGraph) p1 (⟨p2a, p2b, p2c⟩ : GEv) n i.1 i.2.1 i.2.2.1 i.2.2.2)
  (fun ⟨B, D, A, z⟩ => (⟨[(0, .mptr (0, 0) 1 0 0), (1, iA p1), (2, .mptr (2, 0) 1 0 0), (7, .ref (7, 50) 1 0 (len (qLGOcc A))), (15, iA (cast (len (qGNode p0b)))), (16, iA z), (1000000, .mptr (0, 0) 1 0 0), (1000002, .mptr (2, 0) 1 0 0)], [((0, 0), .box 1 [iA p0a, .ref (14, 0) 1 0 (len (qGNode B)), iA p0c, iA p0d, bA D]), ((2, 0), .box 1 [iA p2a, iA p2b, iA p2c]), ((7, 50), .arr 1 1 (qLGOcc A)), ((14, 0), .arr 1 10 (qGNode B))]⟩ : St))
  (fun (⟨Da, Db, De⟩ : (List (List GOcc)) × (List GNode) × Bool) => (⟨[(7, .ref (7, 50) 1 0 (len (qLGOcc Da))), (1000000, .mptr (0, 0) 1 0 0), (1000002, .mptr (2, 0) 1 0 0)], [((0, 0), .box 1 [iA p0a, .ref (14, 0) 1 0 (len (qGNode Db)), iA p0c, iA p0d, bA De]), ((2, 0), .box 1 [iA p2a, iA p2b, iA p2c]), ((7, 50), .arr 1 1 (qLGOcc Da)), ((14, 0), .arr 1 10 (qGNode Db))]⟩ : St)) (fun x => x) (.exit 0)
  (i0 := (_, _, _, _)) Fj (fun _ => rfl) ?_ ?_ ?_
 ·rintro ⟨F, G, H, T⟩ e
  refine aw [((0, 0), (0, 0)), ((2, 0), (2, 0)), ((14, 0), (14, 0))] ?_
  cbv
  all_goals exact J4
 rintro ⟨Da, Db, De⟩ hx
 subst o1
 have hh := Fk
 cbv
 replace hh := aa hh
 obtain ⟨Dx, hh⟩ := hh
 replace hh := aa hh
 obtain ⟨Dy, hh⟩ := hh
 refine ⟨Nb Dx, Mb Dy, ?_⟩
 replace hh := bind_some hh
 obtain ⟨Dz, DA, hh⟩ := hh
 refine ⟨[tA (qGOcc Dz)], Gb DA, ?_⟩
 cbv
 exact Eb
 rintro n ⟨B, D, A, z⟩ N1 D1 hh C Fl Fx
 try dsimp only at hh
 unfold ak.l1 at hh
 cbv
 refine bcs (fun U => ?_) (fun U => ?_)
 replace hh := ifT hh U
 try rw [U]
 cbv
 replace hh := aa hh
 obtain ⟨DB, hh⟩ := hh
 replace hh := aa hh
 obtain ⟨DC, hh⟩ := hh
 refine ⟨Nb DB, Mb DC, ?_⟩
 refine zl hC (ck [] [185] [216]) mixed (ts := [(10, none)]) (⟨[(0, .mptr (1014, 0) 1 (nadd 0 (toNat z)) 0), (1, .mptr (1000, 0) 1 0 0), (2, iA p1), (3, .mptr (1002, 0) 1 0 0), (4, .ref (1007, 50) 1 0 (len (qLGOcc A))), (2000000, .mptr (1000, 0) 1 0 0), (2000001, iA p1), (2000002, .mptr (1002, 0) 1 0 0), (2000007, .ref (1007, 50) 1 0 (len (qLGOcc A))), (2000009, .mptr (1014, 0) 1 (nadd 0 (toNat z)) 0), (2000015, iA (cast (len (qGNode p0b)))), (2000016, iA z), (3000000, .mptr (1000, 0) 1 0 0), (3000002, .mptr (1002, 0) 1 0 0)], [((1000, 0), .box 1 [iA p0a, .ref (1014, 0) 1 0 (len (qGNode B)), iA p0c, iA p0d, bA D]), ((1002, 0), .box 1 [iA p2a, iA p2b, iA p2c]), ((1007, 50), .arr 1 1 (qLGOcc A)), ((1014, 0), .arr 1 10 (qGNode B))]⟩ : St) Tryz.func185 (by kernel_rfl) (by kernel_rfl) ?_ ?_
 ·refine aw [((1000, 0), (0, 0)), ((1002, 0), (2, 0)), ((1007, 50), (7, 50)), ((1014, 0), (14, 0))] ?_
  cbv
  all_goals exact Zb
 cbv
 replace hh := bind_some hh
 obtain ⟨⟨b, c, d, j, ⟨u, v⟩, ⟨w, y⟩, t, p⟩, s, hh⟩ := hh
 try dsimp only at hh
 refine ⟨[iA b, iA c, iA d, tA (qInt j), tA (qGOcc u), tA (qGOcc v), tA (qGOcc w), tA (qGOcc y), tA (qGOcc t), iA p], Gb s, ?_⟩
 cbv
 refine bcs (fun V => ?_) (fun V => ?_)
 replace hh := ifT hh V
 try rw [V]
 cbv
 refine ⟨[iA b, iA c, iA d, tA (qInt j), tA (qGOcc u), tA (qGOcc v), tA (qGOcc w), tA (qGOcc y), tA (qGOcc t), iA p], Gb s, ?_⟩
 cbv
 refine bcs (fun W => ?_) (fun W => ?_)
 replace hh := ifT hh W
 try rw [W]
 cbv
 refine ⟨Ob, ?_⟩
 refine ⟨⟨(⟨[(0, .mptr (0, 0) 1 0 0), (1, iA p1), (2, .mptr (2, 0) 1 0 0), (7, .ref (7, 50) 1 0 (len (qLGOcc A))), (9, .mptr (14, 0) 1 (nadd 0 (toNat z)) 0), (15, iA (cast (len (qGNode p0b)))), (16, iA z), (30, .ref (2080, 0) 1 0 1), (1000000, .mptr (0, 0) 1 0 0), (1000002, .mptr (2, 0) 1 0 0)], [((0, 0), .box 1 [iA p0a, .ref (14, 0) 1 0 (len (qGNode B)), iA p0c, iA p0d, bA D]), ((2, 0), .box 1 [iA p2a, iA p2b, iA p2c]), ((7, 50), .arr 1 1 (qLGOcc A)), ((14, 0), .arr 1 10 (qGNode B)), ((2080, 0), .farr 1 3 (qGOcc [((⟨p1, p1, [p0c]⟩ : GOcc))]))]⟩ : St), ?_, ?_⟩, trivial⟩
 ·refine aw [((0, 0), (1000, 0)), ((2, 0), (1002, 0)), ((7, 50), (1007, 50)), ((14, 0), (1014, 0)), ((2080, 0), (80, 0))] ?_
  cbv
  all_goals exact Zb
 cbv
 refine ⟨Ob, ?_⟩
 replace hh := aa hh
 obtain ⟨DD, hh⟩ := hh
 refine ⟨⟨Ob, Ab⟩, ?_⟩
 refine ⟨⟨Ob, Wb DD⟩, ?_⟩
 refine ⟨[iA b, iA c, iA d, tA (qInt j), tA (qGOcc u), tA (qGOcc v), tA (qGOcc w), tA (qGOcc y), tA (qGOcc t), iA p], Gb s, ?_⟩
 cbv
 refine ⟨[iA b, iA c, iA d, tA (qInt j), tA (qGOcc u), tA (qGOcc v), tA (qGOcc w), tA (qGOcc y), tA (qGOcc t), iA p], Gb s, ?_⟩
 cbv
 refine bcs (fun X => ?_) (fun X => ?_)
 replace hh := ifT hh X
 try rw [X]
 cbv
 ·refine C (_, _, _, _) _ hh fun ⟨F, G, H, T⟩ e => ?_
  refine aw [((0, 0), (0, 0)), ((2, 0), (2, 0)), ((7, 50), (34, 0)), ((14, 0), (14, 0))] ?_
  cbv
  all_goals exact J4
 replace hh := ifF hh X
 try rw [X]
 cbv
 refine ⟨[iA b, iA c, iA d, tA (qInt j), tA (qGOcc u), tA (qGOcc v), tA (qGOcc w), tA (qGOcc y), tA (qGOcc t), iA (wrap .i64 (add p (cast 1)))], Gb2 s ((List.getElem?_eq_some_iff.1 s).1), ?_⟩
 cbv
 ·refine C (_, _, _, _) _ hh fun ⟨F, G, H, T⟩ e => ?_
  refine aw [((0, 0), (0, 0)), ((2, 0), (2, 0)), ((7, 50), (34, 0)), ((14, 0), (14, 0))] ?_
  cbv
  all_goals exact J4
 replace hh := ifF hh W
 try rw [W]
 cbv
 refine ⟨⟨(⟨[(0, .mptr (0, 0) 1 0 0), (1, iA p1), (2, .mptr (2, 0) 1 0 0), (7, .ref (7, 50) 1 0 (len (qLGOcc A))), (9, .mptr (14, 0) 1 (nadd 0 (toNat z)) 0), (15, iA (cast (len (qGNode p0b)))), (16, iA z), (30, .lit (.slice none 0 0)), (1000000, .mptr (0, 0) 1 0 0), (1000002, .mptr (2, 0) 1 0 0)], [((0, 0), .box 1 [iA p0a, .ref (14, 0) 1 0 (len (qGNode B)), iA p0c, iA p0d, bA D]), ((2, 0), .box 1 [iA p2a, iA p2b, iA p2c]), ((7, 50), .arr 1 1 (qLGOcc A)), ((14, 0), .arr 1 10 (qGNode B))]⟩ : St), ?_, ?_⟩, trivial⟩
 ·refine aw [((0, 0), (1000, 0)), ((2, 0), (1002, 0)), ((7, 50), (1007, 50)), ((14, 0), (1014, 0))] ?_
  cbv
  all_goals exact Zb
 cbv
 refine ⟨none, ?_⟩; try cbv
 replace hh := aa hh
 obtain ⟨DE, hh⟩ := hh
 refine ⟨⟨Ob, Ab⟩, ?_⟩
 refine ⟨⟨Ob, Wb DE⟩, ?_⟩
 refine ⟨[iA b, iA c, iA d, tA (qInt j), tA (qGOcc u), tA (qGOcc v), tA (qGOcc w), tA (qGOcc y), tA (qGOcc t), iA p], Gb s, ?_⟩
 cbv
 refine ⟨[iA b, iA c, iA d, tA (qInt j), tA (qGOcc u), tA (qGOcc v), tA (qGOcc w), tA (qGOcc y), tA (qGOcc t), iA p], Gb s, ?_⟩
 cbv
 refine bcs (fun Y => ?_) (fun Y => ?_)
 replace hh := ifT hh Y
 try rw [Y]
 cbv
 ·refine C (_, _, _, _) _ hh fun ⟨F, G, H, T⟩ e => ?_
  refine aw [((0, 0), (0, 0)), ((2, 0), (2, 0)), ((7, 50), (34, 0)), ((14, 0), (14, 0))] ?_
  cbv
  all_goals exact J4
 replace hh := ifF hh Y
 try rw [Y]
 cbv
 refine ⟨[iA b, iA c, iA d, tA (qInt j), tA (qGOcc u), tA (qGOcc v), tA (qGOcc w), tA (qGOcc y), tA (qGOcc t), iA (wrap .i64 (add p 0))], Gb2 s ((List.getElem?_eq_some_iff.1 s).1), ?_⟩
 cbv
 ·refine C (_, _, _, _) _ hh fun ⟨F, G, H, T⟩ e => ?_
  refine aw [((0, 0), (0, 0)), ((2, 0), (2, 0)), ((7, 50), (34, 0)), ((14, 0), (14, 0))] ?_
  cbv
  all_goals exact J4
 replace hh := ifF hh V
 try rw [V]
 cbv
 refine bcs (fun Z => ?_) (fun Z => ?_)
 replace hh := ifT hh Z
 try rw [Z]
 cbv
 replace hh := aa hh
 obtain ⟨DF, hh⟩ := hh
 replace hh := bind_some hh
 obtain ⟨DG, DH, hh⟩ := hh
 replace hh := aa hh
 obtain ⟨DI, hh⟩ := hh
 replace hh := aa hh
 obtain ⟨DJ, hh⟩ := hh
 replace hh := bind_some hh
 obtain ⟨Df, DK, hh⟩ := hh
 refine ⟨[(5, 0), (9, 0), (1007, 50), (1014, 0)], ?_⟩
 cbv
 refine ⟨tA (qGOcc Df), ?_, ?_⟩
 ·refine dh hC (ck [] [185] [216]) mixed (ts := [(4, none)]) Tryz.func216 (by kernel_rfl) (by kernel_rfl) ?_
  intro S N
  cbv
  refine ⟨[iA b, iA c, iA d, tA (qInt j), tA (qGOcc u), tA (qGOcc v), tA (qGOcc w), tA (qGOcc y), tA (qGOcc t), iA p], Gb s, ?_⟩
  cbv
  refine ⟨[iA DG], Nb DF, Gb DH, ?_⟩
  cbv
  refine ⟨Nb DI, Mb DJ, ?_⟩
  refine ⟨[tA (qGOcc Df)], Gb DK, ?_⟩
  cbv
  exact Rb
 cbv
 replace hh := aa hh
 obtain ⟨DL, hh⟩ := hh
 replace hh := bind_some hh
 obtain ⟨DM, DN, hh⟩ := hh
 replace hh := aa hh
 obtain ⟨DO, hh⟩ := hh
 replace hh := aa hh
 obtain ⟨DP, hh⟩ := hh
 replace hh := bind_some hh
 obtain ⟨Dg, DQ, hh⟩ := hh
 refine ⟨[(5, 0), (9, 0), (1007, 50), (1014, 0)], ?_⟩
 cbv
 refine ⟨tA (qGOcc Dg), ?_, ?_⟩
 ·refine dh hC (ck [] [185] [216]) mixed (ts := [(4, none)]) Tryz.func216 (by kernel_rfl) (by kernel_rfl) ?_
  intro S N
  cbv
  refine ⟨[iA b, iA c, iA d, tA (qInt j), tA (qGOcc u), tA (qGOcc v), tA (qGOcc w), tA (qGOcc y), tA (qGOcc t), iA p], Gb s, ?_⟩
  cbv
  refine ⟨[iA DM], Nb DL, Gb DN, ?_⟩
  cbv
  refine ⟨Nb DO, Mb DP, ?_⟩
  refine ⟨[tA (qGOcc Dg)], Gb DQ, ?_⟩
  cbv
  exact Rb
 cbv
 replace hh := bind_some hh
 obtain ⟨Dh, DR, hh⟩ := hh
 refine ac hF (ct hQ DR) ?_
 cbv
 refine ⟨⟨(⟨[(0, .mptr (0, 0) 1 0 0), (1, iA p1), (2, .mptr (2, 0) 1 0 0), (7, .ref (7, 50) 1 0 (len (qLGOcc A))), (9, .mptr (14, 0) 1 (nadd 0 (toNat z)) 0), (15, iA (cast (len (qGNode p0b)))), (16, iA z), (30, tA (qGOcc Dh)), (1000000, .mptr (0, 0) 1 0 0), (1000002, .mptr (2, 0) 1 0 0)], [((0, 0), .box 1 [iA p0a, .ref (14, 0) 1 0 (len (qGNode B)), iA p0c, iA p0d, bA D]), ((2, 0), .box 1 [iA p2a, iA p2b, iA p2c]), ((7, 50), .arr 1 1 (qLGOcc A)), ((14, 0), .arr 1 10 (qGNode B))]⟩ : St), ?_, ?_⟩, trivial⟩
 ·refine aw [((0, 0), (1000, 0)), ((2, 0), (1002, 0)), ((7, 50), (1007, 50)), ((14, 0), (1014, 0))] ?_
  cbv
  all_goals exact Zb
 cbv
 replace hh := aa hh
 obtain ⟨DS, hh⟩ := hh
 refine ⟨⟨Ob, Ab⟩, ?_⟩
 refine ⟨⟨Ob, Wb DS⟩, ?_⟩
 refine ⟨[iA b, iA c, iA d, tA (qInt j), tA (qGOcc u), tA (qGOcc v), tA (qGOcc w), tA (qGOcc y), tA (qGOcc t), iA p], Gb s, ?_⟩
 cbv
 refine ⟨[iA b, iA c, iA d, tA (qInt j), tA (qGOcc u), tA (qGOcc v), tA (qGOcc w), tA (qGOcc y), tA (qGOcc t), iA p], Gb s, ?_⟩
 cbv
 refine bcs (fun dv => ?_) (fun dv => ?_)
 replace hh := ifT hh dv
 try rw [dv]
 cbv
 ·refine C (_, _, _, _) _ hh fun ⟨F, G, H, T⟩ e => ?_
  refine aw [((0, 0), (0, 0)), ((2, 0), (2, 0)), ((7, 50), (34, 0)), ((14, 0), (14, 0))] ?_
  cbv
  all_goals exact J4
 replace hh := ifF hh dv
 try rw [dv]
 cbv
 refine ⟨[iA b, iA c, iA d, tA (qInt j), tA (qGOcc u), tA (qGOcc v), tA (qGOcc w), tA (qGOcc y), tA (qGOcc t), iA (wrap .i64 (add p (cast (len (qGOcc Dh)))))], Gb2 s ((List.getElem?_eq_some_iff.1 s).1), ?_⟩
 cbv
 ·refine C (_, _, _, _) _ hh fun ⟨F, G, H, T⟩ e => ?_
  refine aw [((0, 0), (0, 0)), ((2, 0), (2, 0)), ((7, 50), (34, 0)), ((14, 0), (14, 0))] ?_
  cbv
  all_goals exact J4
 replace hh := ifF hh Z
 try rw [Z]
 cbv
 refine bcs (fun xI => ?_) (fun xI => ?_)
 replace hh := ifT hh xI
 try rw [xI]
 cbv
 refine ⟨[iA b, iA c, iA d, tA (qInt j), tA (qGOcc u), tA (qGOcc v), tA (qGOcc w), tA (qGOcc y), tA (qGOcc t), iA p], Gb s, ?_⟩
 cbv
 replace hh := aa hh
 obtain ⟨DT, hh⟩ := hh
 replace hh := bind_some hh
 obtain ⟨DU, DV, hh⟩ := hh
 replace hh := aa hh
 obtain ⟨DW, hh⟩ := hh
 replace hh := aa hh
 obtain ⟨DX, hh⟩ := hh
 replace hh := bind_some hh
 obtain ⟨Di, DY, hh⟩ := hh
 refine ⟨[(5, 0), (9, 0), (1007, 50), (1014, 0)], ?_⟩
 cbv
 refine ⟨tA (qGOcc Di), ?_, ?_⟩
 ·refine dh hC (ck [] [185] [216]) mixed (ts := [(4, none)]) Tryz.func216 (by kernel_rfl) (by kernel_rfl) ?_
  intro S N
  cbv
  refine ⟨[iA b, iA c, iA d, tA (qInt j), tA (qGOcc u), tA (qGOcc v), tA (qGOcc w), tA (qGOcc y), tA (qGOcc t), iA p], Gb s, ?_⟩
  cbv
  refine ⟨[iA DU], Nb DT, Gb DV, ?_⟩
  cbv
  refine ⟨Nb DW, Mb DX, ?_⟩
  refine ⟨[tA (qGOcc Di)], Gb DY, ?_⟩
  cbv
  exact Rb
 cbv
 replace hh := aa hh
 obtain ⟨DZ, hh⟩ := hh
 replace hh := bind_some hh
 obtain ⟨D0, D3, hh⟩ := hh
 replace hh := aa hh
 obtain ⟨D4, hh⟩ := hh
 replace hh := aa hh
 obtain ⟨D5, hh⟩ := hh
 replace hh := bind_some hh
 obtain ⟨Dj, D6, hh⟩ := hh
 refine ⟨[(5, 0), (9, 0), (1007, 50), (1014, 0)], ?_⟩
 cbv
 refine ⟨tA (qGOcc Dj), ?_, ?_⟩
 ·refine dh hC (ck [] [185] [216]) mixed (ts := [(4, none)]) Tryz.func216 (by kernel_rfl) (by kernel_rfl) ?_
  intro S N
  cbv
  refine ⟨[iA b, iA c, iA d, tA (qInt j), tA (qGOcc u), tA (qGOcc v), tA (qGOcc w), tA (qGOcc y), tA (qGOcc t), iA p], Gb s, ?_⟩
  cbv
  refine ⟨[iA D0], Nb DZ, Gb D3, ?_⟩
  cbv
  refine ⟨Nb D4, Mb D5, ?_⟩
  refine ⟨[tA (qGOcc Dj)], Gb D6, ?_⟩
  cbv
  exact Rb
 cbv
 replace hh := bind_some hh
 obtain ⟨⟨⟨I, J⟩, C6⟩, D7, hh⟩ := hh
 try dsimp only at hh
 have fc := mj hQ D7
 try dsimp only at fc
 refine ac hF fc ?_
 cbv
 refine ⟨[iA b, iA c, iA d, tA (qInt j), tA (qGOcc u), tA (qGOcc v), tA (qGOcc w), tA (qGOcc y), tA (qGOcc t), iA p], Gb s, ?_⟩
 cbv
 refine ⟨⟨(⟨[(0, .mptr (0, 0) 1 0 0), (1, iA p1), (2, .mptr (2, 0) 1 0 0), (7, .ref (7, 50) 1 0 (len (qLGOcc A))), (9, .mptr (14, 0) 1 (nadd 0 (toNat z)) 0), (15, iA (cast (len (qGNode p0b)))), (16, iA z), (30, tA (qGOcc C6)), (1000000, .mptr (0, 0) 1 0 0), (1000002, .mptr (2, 0) 1 0 0)], [((0, 0), .box 1 [iA p0a, .ref (14, 0) 1 0 (len (qGNode B)), iA p0c, iA p0d, bA D]), ((2, 0), .box 1 [iA p2a, iA p2b, iA p2c]), ((7, 50), .arr 1 1 (qLGOcc A)), ((14, 0), .arr 1 10 (set (qGNode B) (nadd 0 (toNat z)) [iA b, iA c, iA d, tA (qInt j), tA (qGOcc I), tA (qGOcc J), tA (qGOcc w), tA (qGOcc y), tA (qGOcc t), iA p]))]⟩ : St), ?_, ?_⟩, trivial⟩
 ·refine aw [((0, 0), (1000, 0)), ((2, 0), (1002, 0)), ((7, 50), (1007, 50)), ((14, 0), (1014, 0))] ?_
  cbv
  all_goals exact Zb
 cbv
 replace hh := aa hh
 obtain ⟨D8, hh⟩ := hh
 refine ⟨⟨Ob, Ab⟩, ?_⟩
 refine ⟨⟨Ob, Wb D8⟩, ?_⟩
 refine ⟨[iA b, iA c, iA d, tA (qInt j), tA (qGOcc I), tA (qGOcc J), tA (qGOcc w), tA (qGOcc y), tA (qGOcc t), iA p], Gb2 s ((List.getElem?_eq_some_iff.1 s).1), ?_⟩
 cbv
 refine ⟨[iA b, iA c, iA d, tA (qInt j), tA (qGOcc I), tA (qGOcc J), tA (qGOcc w), tA (qGOcc y), tA (qGOcc t), iA p], Gb2 s ((List.getElem?_eq_some_iff.1 s).1), ?_⟩
 cbv
 refine bcs (fun Bo => ?_) (fun Bo => ?_)
 replace hh := ifT hh Bo
 try rw [Bo]
 cbv
 ·refine C (_, _, _, _) _ hh fun ⟨F, G, H, T⟩ e => ?_
  refine aw [((0, 0), (0, 0)), ((2, 0), (2, 0)), ((7, 50), (34, 0)), ((14, 0), (14, 0))] ?_
  cbv
  all_goals exact J4
 replace hh := ifF hh Bo
 try rw [Bo]
 cbv
 refine ⟨[iA b, iA c, iA d, tA (qInt j), tA (qGOcc I), tA (qGOcc J), tA (qGOcc w), tA (qGOcc y), tA (qGOcc t), iA (wrap .i64 (add p (cast (len (qGOcc C6)))))], Gb2 s ((List.getElem?_eq_some_iff.1 s).1), ?_⟩
 cbv
 ·refine C (_, _, _, _) _ hh fun ⟨F, G, H, T⟩ e => ?_
  refine aw [((0, 0), (0, 0)), ((2, 0), (2, 0)), ((7, 50), (34, 0)), ((14, 0), (14, 0))] ?_
  cbv
  all_goals exact J4
 replace hh := ifF hh xI
 try rw [xI]
 cbv
 refine bcs (fun B2 => ?_) (fun B2 => ?_)
 replace hh := ifT hh B2
 try rw [B2]
 cbv
 refine ⟨[iA b, iA c, iA d, tA (qInt j), tA (qGOcc u), tA (qGOcc v), tA (qGOcc w), tA (qGOcc y), tA (qGOcc t), iA p], Gb s, ?_⟩
 cbv
 replace hh := aa hh
 obtain ⟨D9, hh⟩ := hh
 replace hh := bind_some hh
 obtain ⟨Ea, Ec, hh⟩ := hh
 replace hh := aa hh
 obtain ⟨Ed, hh⟩ := hh
 replace hh := aa hh
 obtain ⟨Ee, hh⟩ := hh
 replace hh := bind_some hh
 obtain ⟨Dk, Ef, hh⟩ := hh
 refine ⟨[(5, 0), (9, 0), (1007, 50), (1014, 0)], ?_⟩
 cbv
 refine ⟨tA (qGOcc Dk), ?_, ?_⟩
 ·refine dh hC (ck [] [185] [216]) mixed (ts := [(4, none)]) Tryz.func216 (by kernel_rfl) (by kernel_rfl) ?_
  intro S N
  cbv
  refine ⟨[iA b, iA c, iA d, tA (qInt j), tA (qGOcc u), tA (qGOcc v), tA (qGOcc w), tA (qGOcc y), tA (qGOcc t), iA p], Gb s, ?_⟩
  cbv
  refine ⟨[iA Ea], Nb D9, Gb Ec, ?_⟩
  cbv
  refine ⟨Nb Ed, Mb Ee, ?_⟩
  refine ⟨[tA (qGOcc Dk)], Gb Ef, ?_⟩
  cbv
  exact Rb
 cbv
 replace hh := aa hh
 obtain ⟨Eh, hh⟩ := hh
 replace hh := bind_some hh
 obtain ⟨Ei, Ej, hh⟩ := hh
 replace hh := aa hh
 obtain ⟨Ek, hh⟩ := hh
 replace hh := aa hh
 obtain ⟨El, hh⟩ := hh
 replace hh := bind_some hh
 obtain ⟨Dl, Em, hh⟩ := hh
 refine ⟨[(5, 0), (9, 0), (1007, 50), (1014, 0)], ?_⟩
 cbv
 refine ⟨tA (qGOcc Dl), ?_, ?_⟩
 ·refine dh hC (ck [] [185] [216]) mixed (ts := [(4, none)]) Tryz.func216 (by kernel_rfl) (by kernel_rfl) ?_
  intro S N
  cbv
  refine ⟨[iA b, iA c, iA d, tA (qInt j), tA (qGOcc u), tA (qGOcc v), tA (qGOcc w), tA (qGOcc y), tA (qGOcc t), iA p], Gb s, ?_⟩
  cbv
  refine ⟨[iA Ei], Nb Eh, Gb Ej, ?_⟩
  cbv
  refine ⟨Nb Ek, Mb El, ?_⟩
  refine ⟨[tA (qGOcc Dl)], Gb Em, ?_⟩
  cbv
  exact Rb
 cbv
 replace hh := bind_some hh
 obtain ⟨⟨⟨K, L⟩, C7⟩, En, hh⟩ := hh
 try dsimp only at hh
 have fc := mv hQ En
 try dsimp only at fc
 refine ac hF fc ?_
 cbv
 refine ⟨[iA b, iA c, iA d, tA (qInt j), tA (qGOcc u), tA (qGOcc v), tA (qGOcc w), tA (qGOcc y), tA (qGOcc t), iA p], Gb s, ?_⟩
 cbv
 refine ⟨⟨(⟨[(0, .mptr (0, 0) 1 0 0), (1, iA p1), (2, .mptr (2, 0) 1 0 0), (7, .ref (7, 50) 1 0 (len (qLGOcc A))), (9, .mptr (14, 0) 1 (nadd 0 (toNat z)) 0), (15, iA (cast (len (qGNode p0b)))), (16, iA z), (30, tA (qGOcc C7)), (1000000, .mptr (0, 0) 1 0 0), (1000002, .mptr (2, 0) 1 0 0)], [((0, 0), .box 1 [iA p0a, .ref (14, 0) 1 0 (len (qGNode B)), iA p0c, iA p0d, bA D]), ((2, 0), .box 1 [iA p2a, iA p2b, iA p2c]), ((7, 50), .arr 1 1 (qLGOcc A)), ((14, 0), .arr 1 10 (set (qGNode B) (nadd 0 (toNat z)) [iA b, iA c, iA d, tA (qInt j), tA (qGOcc K), tA (qGOcc L), tA (qGOcc w), tA (qGOcc y), tA (qGOcc t), iA p]))]⟩ : St), ?_, ?_⟩, trivial⟩
 ·refine aw [((0, 0), (1000, 0)), ((2, 0), (1002, 0)), ((7, 50), (1007, 50)), ((14, 0), (1014, 0))] ?_
  cbv
  all_goals exact Zb
 cbv
 replace hh := aa hh
 obtain ⟨Eo, hh⟩ := hh
 refine ⟨⟨Ob, Ab⟩, ?_⟩
 refine ⟨⟨Ob, Wb Eo⟩, ?_⟩
 refine ⟨[iA b, iA c, iA d, tA (qInt j), tA (qGOcc K), tA (qGOcc L), tA (qGOcc w), tA (qGOcc y), tA (qGOcc t), iA p], Gb2 s ((List.getElem?_eq_some_iff.1 s).1), ?_⟩
 cbv
 refine ⟨[iA b, iA c, iA d, tA (qInt j), tA (qGOcc K), tA (qGOcc L), tA (qGOcc w), tA (qGOcc y), tA (qGOcc t), iA p], Gb2 s ((List.getElem?_eq_some_iff.1 s).1), ?_⟩
 cbv
 refine bcs (fun B3 => ?_) (fun B3 => ?_)
 replace hh := ifT hh B3
 try rw [B3]
 cbv
 ·refine C (_, _, _, _) _ hh fun ⟨F, G, H, T⟩ e => ?_
  refine aw [((0, 0), (0, 0)), ((2, 0), (2, 0)), ((7, 50), (34, 0)), ((14, 0), (14, 0))] ?_
  cbv
  all_goals exact J4
 replace hh := ifF hh B3
 try rw [B3]
 cbv
 refine ⟨[iA b, iA c, iA d, tA (qInt j), tA (qGOcc K), tA (qGOcc L), tA (qGOcc w), tA (qGOcc y), tA (qGOcc t), iA (wrap .i64 (add p (cast (len (qGOcc C7)))))], Gb2 s ((List.getElem?_eq_some_iff.1 s).1), ?_⟩
 cbv
 ·refine C (_, _, _, _) _ hh fun ⟨F, G, H, T⟩ e => ?_
  refine aw [((0, 0), (0, 0)), ((2, 0), (2, 0)), ((7, 50), (34, 0)), ((14, 0), (14, 0))] ?_
  cbv
  all_goals exact J4
 replace hh := ifF hh B2
 try rw [B2]
 cbv
 refine bcs (fun Ce => ?_) (fun Ce => ?_)
 replace hh := ifT hh Ce
 try rw [Ce]
 cbv
 refine ⟨[iA b, iA c, iA d, tA (qInt j), tA (qGOcc u), tA (qGOcc v), tA (qGOcc w), tA (qGOcc y), tA (qGOcc t), iA p], Gb s, ?_⟩
 cbv
 replace hh := aa hh
 obtain ⟨Ep, hh⟩ := hh
 replace hh := bind_some hh
 obtain ⟨Eq, Er, hh⟩ := hh
 replace hh := aa hh
 obtain ⟨Es, hh⟩ := hh
 replace hh := aa hh
 obtain ⟨Et, hh⟩ := hh
 replace hh := bind_some hh
 obtain ⟨Dm, Eu, hh⟩ := hh
 refine ⟨[(5, 0), (9, 0), (1007, 50), (1014, 0)], ?_⟩
 cbv
 refine ⟨tA (qGOcc Dm), ?_, ?_⟩
 ·refine dh hC (ck [] [185] [216]) mixed (ts := [(4, none)]) Tryz.func216 (by kernel_rfl) (by kernel_rfl) ?_
  intro S N
  cbv
  refine ⟨[iA b, iA c, iA d, tA (qInt j), tA (qGOcc u), tA (qGOcc v), tA (qGOcc w), tA (qGOcc y), tA (qGOcc t), iA p], Gb s, ?_⟩
  cbv
  refine ⟨[iA Eq], Nb Ep, Gb Er, ?_⟩
  cbv
  refine ⟨Nb Es, Mb Et, ?_⟩
  refine ⟨[tA (qGOcc Dm)], Gb Eu, ?_⟩
  cbv
  exact Rb
 cbv
 replace hh := aa hh
 obtain ⟨Ev, hh⟩ := hh
 replace hh := bind_some hh
 obtain ⟨Ew, Ey, hh⟩ := hh
 replace hh := aa hh
 obtain ⟨Ez, hh⟩ := hh
 replace hh := aa hh
 obtain ⟨EA, hh⟩ := hh
 replace hh := bind_some hh
 obtain ⟨Dn, EB, hh⟩ := hh
 refine ⟨[(5, 0), (9, 0), (1007, 50), (1014, 0)], ?_⟩
 cbv
 refine ⟨tA (qGOcc Dn), ?_, ?_⟩
 ·refine dh hC (ck [] [185] [216]) mixed (ts := [(4, none)]) Tryz.func216 (by kernel_rfl) (by kernel_rfl) ?_
  intro S N
  cbv
  refine ⟨[iA b, iA c, iA d, tA (qInt j), tA (qGOcc u), tA (qGOcc v), tA (qGOcc w), tA (qGOcc y), tA (qGOcc t), iA p], Gb s, ?_⟩
  cbv
  refine ⟨[iA Ew], Nb Ev, Gb Ey, ?_⟩
  cbv
  refine ⟨Nb Ez, Mb EA, ?_⟩
  refine ⟨[tA (qGOcc Dn)], Gb EB, ?_⟩
  cbv
  exact Rb
 cbv
 replace hh := aa hh
 obtain ⟨EC, hh⟩ := hh
 replace hh := bind_some hh
 obtain ⟨ED, EE, hh⟩ := hh
 replace hh := aa hh
 obtain ⟨EF, hh⟩ := hh
 replace hh := aa hh
 obtain ⟨EG, hh⟩ := hh
 replace hh := bind_some hh
 obtain ⟨Do, EH, hh⟩ := hh
 refine ⟨[(5, 0), (9, 0), (1007, 50), (1014, 0)], ?_⟩
 cbv
 refine ⟨tA (qGOcc Do), ?_, ?_⟩
 ·refine dh hC (ck [] [185] [216]) mixed (ts := [(4, none)]) Tryz.func216 (by kernel_rfl) (by kernel_rfl) ?_
  intro S N
  cbv
  refine ⟨[iA b, iA c, iA d, tA (qInt j), tA (qGOcc u), tA (qGOcc v), tA (qGOcc w), tA (qGOcc y), tA (qGOcc t), iA p], Gb s, ?_⟩
  cbv
  refine ⟨[iA ED], Nb EC, Gb EE, ?_⟩
  cbv
  refine ⟨Nb EF, Mb EG, ?_⟩
  refine ⟨[tA (qGOcc Do)], Gb EH, ?_⟩
  cbv
  exact Rb
 cbv
 replace hh := bind_some hh
 obtain ⟨⟨⟨M, O⟩, C8⟩, EI, hh⟩ := hh
 try dsimp only at hh
 have fc := mw hQ EI
 try dsimp only at fc
 refine ac hF fc ?_
 cbv
 refine ⟨[iA b, iA c, iA d, tA (qInt j), tA (qGOcc u), tA (qGOcc v), tA (qGOcc w), tA (qGOcc y), tA (qGOcc t), iA p], Gb s, ?_⟩
 cbv
 refine ⟨⟨(⟨[(0, .mptr (0, 0) 1 0 0), (1, iA p1), (2, .mptr (2, 0) 1 0 0), (7, .ref (7, 50) 1 0 (len (qLGOcc A))), (9, .mptr (14, 0) 1 (nadd 0 (toNat z)) 0), (15, iA (cast (len (qGNode p0b)))), (16, iA z), (30, tA (qGOcc C8)), (1000000, .mptr (0, 0) 1 0 0), (1000002, .mptr (2, 0) 1 0 0)], [((0, 0), .box 1 [iA p0a, .ref (14, 0) 1 0 (len (qGNode B)), iA p0c, iA p0d, bA D]), ((2, 0), .box 1 [iA p2a, iA p2b, iA p2c]), ((7, 50), .arr 1 1 (qLGOcc A)), ((14, 0), .arr 1 10 (set (qGNode B) (nadd 0 (toNat z)) [iA b, iA c, iA d, tA (qInt j), tA (qGOcc u), tA (qGOcc v), tA (qGOcc M), tA (qGOcc O), tA (qGOcc t), iA p]))]⟩ : St), ?_, ?_⟩, trivial⟩
 ·refine aw [((0, 0), (1000, 0)), ((2, 0), (1002, 0)), ((7, 50), (1007, 50)), ((14, 0), (1014, 0))] ?_
  cbv
  all_goals exact Zb
 cbv
 replace hh := aa hh
 obtain ⟨EJ, hh⟩ := hh
 refine ⟨⟨Ob, Ab⟩, ?_⟩
 refine ⟨⟨Ob, Wb EJ⟩, ?_⟩
 refine ⟨[iA b, iA c, iA d, tA (qInt j), tA (qGOcc u), tA (qGOcc v), tA (qGOcc M), tA (qGOcc O), tA (qGOcc t), iA p], Gb2 s ((List.getElem?_eq_some_iff.1 s).1), ?_⟩
 cbv
 refine ⟨[iA b, iA c, iA d, tA (qInt j), tA (qGOcc u), tA (qGOcc v), tA (qGOcc M), tA (qGOcc O), tA (qGOcc t), iA p], Gb2 s ((List.getElem?_eq_some_iff.1 s).1), ?_⟩
 cbv
 refine bcs (fun Cj => ?_) (fun Cj => ?_)
 replace hh := ifT hh Cj
 try rw [Cj]
 cbv
 ·refine C (_, _, _, _) _ hh fun ⟨F, G, H, T⟩ e => ?_
  refine aw [((0, 0), (0, 0)), ((2, 0), (2, 0)), ((7, 50), (34, 0)), ((14, 0), (14, 0))] ?_
  cbv
  all_goals exact J4
 replace hh := ifF hh Cj
 try rw [Cj]
 cbv
 refine ⟨[iA b, iA c, iA d, tA (qInt j), tA (qGOcc u), tA (qGOcc v), tA (qGOcc M), tA (qGOcc O), tA (qGOcc t), iA (wrap .i64 (add p (cast (len (qGOcc C8)))))], Gb2 s ((List.getElem?_eq_some_iff.1 s).1), ?_⟩
 cbv
 ·refine C (_, _, _, _) _ hh fun ⟨F, G, H, T⟩ e => ?_
  refine aw [((0, 0), (0, 0)), ((2, 0), (2, 0)), ((7, 50), (34, 0)), ((14, 0), (14, 0))] ?_
  cbv
  all_goals exact J4
 replace hh := ifF hh Ce
 try rw [Ce]
 cbv
 refine bcs (fun Ck => ?_) (fun Ck => ?_)
 replace hh := ifT hh Ck
 try rw [Ck]
 cbv
 refine ⟨[iA b, iA c, iA d, tA (qInt j), tA (qGOcc u), tA (qGOcc v), tA (qGOcc w), tA (qGOcc y), tA (qGOcc t), iA p], Gb s, ?_⟩
 cbv
 replace hh := aa hh
 obtain ⟨EK, hh⟩ := hh
 replace hh := bind_some hh
 obtain ⟨EL, EM, hh⟩ := hh
 replace hh := aa hh
 obtain ⟨EN, hh⟩ := hh
 replace hh := aa hh
 obtain ⟨EO, hh⟩ := hh
 replace hh := bind_some hh
 obtain ⟨Dp, EP, hh⟩ := hh
 refine ⟨[(5, 0), (9, 0), (1007, 50), (1014, 0)], ?_⟩
 cbv
 refine ⟨tA (qGOcc Dp), ?_, ?_⟩
 ·refine dh hC (ck [] [185] [216]) mixed (ts := [(4, none)]) Tryz.func216 (by kernel_rfl) (by kernel_rfl) ?_
  intro S N
  cbv
  refine ⟨[iA b, iA c, iA d, tA (qInt j), tA (qGOcc u), tA (qGOcc v), tA (qGOcc w), tA (qGOcc y), tA (qGOcc t), iA p], Gb s, ?_⟩
  cbv
  refine ⟨[iA EL], Nb EK, Gb EM, ?_⟩
  cbv
  refine ⟨Nb EN, Mb EO, ?_⟩
  refine ⟨[tA (qGOcc Dp)], Gb EP, ?_⟩
  cbv
  exact Rb
 cbv
 replace hh := aa hh
 obtain ⟨ER, hh⟩ := hh
 replace hh := bind_some hh
 obtain ⟨ES, ET, hh⟩ := hh
 replace hh := aa hh
 obtain ⟨EU, hh⟩ := hh
 replace hh := aa hh
 obtain ⟨EV, hh⟩ := hh
 replace hh := bind_some hh
 obtain ⟨Dq, EW, hh⟩ := hh
 refine ⟨[(5, 0), (9, 0), (1007, 50), (1014, 0)], ?_⟩
 cbv
 refine ⟨tA (qGOcc Dq), ?_, ?_⟩
 ·refine dh hC (ck [] [185] [216]) mixed (ts := [(4, none)]) Tryz.func216 (by kernel_rfl) (by kernel_rfl) ?_
  intro S N
  cbv
  refine ⟨[iA b, iA c, iA d, tA (qInt j), tA (qGOcc u), tA (qGOcc v), tA (qGOcc w), tA (qGOcc y), tA (qGOcc t), iA p], Gb s, ?_⟩
  cbv
  refine ⟨[iA ES], Nb ER, Gb ET, ?_⟩
  cbv
  refine ⟨Nb EU, Mb EV, ?_⟩
  refine ⟨[tA (qGOcc Dq)], Gb EW, ?_⟩
  cbv
  exact Rb
 cbv
 replace hh := aa hh
 obtain ⟨EX, hh⟩ := hh
 replace hh := bind_some hh
 obtain ⟨EY, EZ, hh⟩ := hh
 replace hh := aa hh
 obtain ⟨E0, hh⟩ := hh
 replace hh := aa hh
 obtain ⟨E1, hh⟩ := hh
 replace hh := bind_some hh
 obtain ⟨Dr, E2, hh⟩ := hh
 refine ⟨[(5, 0), (9, 0), (1007, 50), (1014, 0)], ?_⟩
 cbv
 refine ⟨tA (qGOcc Dr), ?_, ?_⟩
 ·refine dh hC (ck [] [185] [216]) mixed (ts := [(4, none)]) Tryz.func216 (by kernel_rfl) (by kernel_rfl) ?_
  intro S N
  cbv
  refine ⟨[iA b, iA c, iA d, tA (qInt j), tA (qGOcc u), tA (qGOcc v), tA (qGOcc w), tA (qGOcc y), tA (qGOcc t), iA p], Gb s, ?_⟩
  cbv
  refine ⟨[iA EY], Nb EX, Gb EZ, ?_⟩
  cbv
  refine ⟨Nb E0, Mb E1, ?_⟩
  refine ⟨[tA (qGOcc Dr)], Gb E2, ?_⟩
  cbv
  exact Rb
 cbv
 replace hh := bind_some hh
 obtain ⟨⟨⟨Q, R⟩, C9⟩, E3, hh⟩ := hh
 try dsimp only at hh
 have fc := lG hQ E3
 try dsimp only at fc
 refine ac hF fc ?_
 cbv
 refine ⟨[iA b, iA c, iA d, tA (qInt j), tA (qGOcc u), tA (qGOcc v), tA (qGOcc w), tA (qGOcc y), tA (qGOcc t), iA p], Gb s, ?_⟩
 cbv
 refine ⟨⟨(⟨[(0, .mptr (0, 0) 1 0 0), (1, iA p1), (2, .mptr (2, 0) 1 0 0), (7, .ref (7, 50) 1 0 (len (qLGOcc A))), (9, .mptr (14, 0) 1 (nadd 0 (toNat z)) 0), (15, iA (cast (len (qGNode p0b)))), (16, iA z), (30, tA (qGOcc C9)), (1000000, .mptr (0, 0) 1 0 0), (1000002, .mptr (2, 0) 1 0 0)], [((0, 0), .box 1 [iA p0a, .ref (14, 0) 1 0 (len (qGNode B)), iA p0c, iA p0d, bA D]), ((2, 0), .box 1 [iA p2a, iA p2b, iA p2c]), ((7, 50), .arr 1 1 (qLGOcc A)), ((14, 0), .arr 1 10 (set (qGNode B) (nadd 0 (toNat z)) [iA b, iA c, iA d, tA (qInt j), tA (qGOcc u), tA (qGOcc v), tA (qGOcc Q), tA (qGOcc R), tA (qGOcc t), iA p]))]⟩ : St), ?_, ?_⟩, trivial⟩
 ·refine aw [((0, 0), (1000, 0)), ((2, 0), (1002, 0)), ((7, 50), (1007, 50)), ((14, 0), (1014, 0))] ?_
  cbv
  all_goals exact Zb
 cbv
 replace hh := aa hh
 obtain ⟨E4, hh⟩ := hh
 refine ⟨⟨Ob, Ab⟩, ?_⟩
 refine ⟨⟨Ob, Wb E4⟩, ?_⟩
 refine ⟨[iA b, iA c, iA d, tA (qInt j), tA (qGOcc u), tA (qGOcc v), tA (qGOcc Q), tA (qGOcc R), tA (qGOcc t), iA p], Gb2 s ((List.getElem?_eq_some_iff.1 s).1), ?_⟩
 cbv
 refine ⟨[iA b, iA c, iA d, tA (qInt j), tA (qGOcc u), tA (qGOcc v), tA (qGOcc Q), tA (qGOcc R), tA (qGOcc t), iA p], Gb2 s ((List.getElem?_eq_some_iff.1 s).1), ?_⟩
 cbv
 refine bcs (fun Cm => ?_) (fun Cm => ?_)
 replace hh := ifT hh Cm
 try rw [Cm]
 cbv
 ·refine C (_, _, _, _) _ hh fun ⟨F, G, H, T⟩ e => ?_
  refine aw [((0, 0), (0, 0)), ((2, 0), (2, 0)), ((7, 50), (34, 0)), ((14, 0), (14, 0))] ?_
  cbv
  all_goals exact J4
 replace hh := ifF hh Cm
 try rw [Cm]
 cbv
 refine ⟨[iA b, iA c, iA d, tA (qInt j), tA (qGOcc u), tA (qGOcc v), tA (qGOcc Q), tA (qGOcc R), tA (qGOcc t), iA (wrap .i64 (add p (cast (len (qGOcc C9)))))], Gb2 s ((List.getElem?_eq_some_iff.1 s).1), ?_⟩
 cbv
 ·refine C (_, _, _, _) _ hh fun ⟨F, G, H, T⟩ e => ?_
  refine aw [((0, 0), (0, 0)), ((2, 0), (2, 0)), ((7, 50), (34, 0)), ((14, 0), (14, 0))] ?_
  cbv
  all_goals exact J4
 replace hh := ifF hh Ck
 try rw [Ck]
 cbv
 refine ⟨[iA b, iA c, iA d, tA (qInt j), tA (qGOcc u), tA (qGOcc v), tA (qGOcc w), tA (qGOcc y), tA (qGOcc t), iA p], Gb s, ?_⟩
 cbv
 replace hh := bind_some hh
 obtain ⟨Cn, E5, hh⟩ := hh
 refine ac hF (ai.frz (r' := tA (qGOcc Cn)) (uL hQ E5) (by cases hQ; simp)) ?_
 cbv
 refine ⟨[iA b, iA c, iA d, tA (qInt j), tA (qGOcc u), tA (qGOcc v), tA (qGOcc w), tA (qGOcc y), tA (qGOcc t), iA p], Gb s, ?_⟩
 cbv
 replace hh := bind_some hh
 obtain ⟨Ds, E6, hh⟩ := hh
 refine ac hF (ai.frz (r' := tA (qGOcc Ds)) (fy hQ (g1 := fun y0 => cW.f y0 p1) (fun h => kH hQ h) E6) (by cases hQ; simp)) ?_
 cbv
 refine ⟨[iA b, iA c, iA d, tA (qInt j), tA (qGOcc u), tA (qGOcc v), tA (qGOcc w), tA (qGOcc y), tA (qGOcc t), iA p], Gb s, ?_⟩
 cbv
 replace hh := aa hh
 obtain ⟨E7, hh⟩ := hh
 replace hh := bind_some hh
 obtain ⟨E8, E9, hh⟩ := hh
 replace hh := aa hh
 obtain ⟨Fa, hh⟩ := hh
 replace hh := aa hh
 obtain ⟨Fc, hh⟩ := hh
 replace hh := bind_some hh
 obtain ⟨Co, Fd, hh⟩ := hh
 refine ⟨[(5, 0), (9, 0), (1007, 50), (1014, 0)], ?_⟩
 cbv
 refine ⟨tA (qGOcc Co), ?_, ?_⟩
 ·refine dh hC (ck [] [185] [216]) mixed (ts := [(4, none)]) Tryz.func216 (by kernel_rfl) (by kernel_rfl) ?_
  intro S N
  cbv
  refine ⟨[iA b, iA c, iA d, tA (qInt j), tA (qGOcc u), tA (qGOcc v), tA (qGOcc w), tA (qGOcc y), tA (qGOcc Ds), iA p], Gb2 s ((List.getElem?_eq_some_iff.1 s).1), ?_⟩
  cbv
  refine ⟨[iA E8], Nb E7, Gb E9, ?_⟩
  cbv
  refine ⟨Nb Fa, Mb Fc, ?_⟩
  refine ⟨[tA (qGOcc Co)], Gb Fd, ?_⟩
  cbv
  exact Rb
 cbv
 replace hh := bind_some hh
 obtain ⟨o2, Fm, Fo⟩ := hh
 refine au hC (ck [] [185] [216]) mixed (fun n (i : (List GNode) × Int) => ak.l2 k Co z n i.1 i.2)
  (fun ⟨Dc, Dt⟩ => (⟨[(5, .mptr (5, 0) 1 0 0), (12, tA (qGOcc Cn)), (36, tA (qGOcc Co)), (37, iA (cast (len (qGOcc Co)))), (38, iA Dt), (2000000, .mptr (1000, 0) 1 0 0), (2000001, iA p1), (2000002, .mptr (1002, 0) 1 0 0), (2000007, .ref (1007, 50) 1 0 (len (qLGOcc A))), (2000009, .mptr (1014, 0) 1 (nadd 0 (toNat z)) 0), (2000015, iA (cast (len (qGNode p0b)))), (2000016, iA z), (3000000, .mptr (1000, 0) 1 0 0), (3000002, .mptr (1002, 0) 1 0 0)], [((5, 0), .box 1 [.mptr (1014, 0) 1 (nadd 0 (toNat z)) 0]), ((1000, 0), .box 1 [iA p0a, .ref (1014, 0) 1 0 (len (qGNode Dc)), iA p0c, iA p0d, bA D]), ((1002, 0), .box 1 [iA p2a, iA p2b, iA p2c]), ((1007, 50), .arr 1 1 (qLGOcc A)), ((1014, 0), .arr 1 10 (qGNode Dc))]⟩ : St))
  (fun (Cp : List GNode) => (⟨[(12, tA (qGOcc Cn)), (2000000, .mptr (1000, 0) 1 0 0), (2000001, iA p1), (2000002, .mptr (1002, 0) 1 0 0), (2000007, .ref (1007, 50) 1 0 (len (qLGOcc A))), (2000009, .mptr (1014, 0) 1 (nadd 0 (toNat z)) 0), (2000015, iA (cast (len (qGNode p0b)))), (2000016, iA z), (3000000, .mptr (1000, 0) 1 0 0), (3000002, .mptr (1002, 0) 1 0 0)], [((1000, 0), .box 1 [iA p0a, .ref (1014, 0) 1 0 (len (qGNode Cp)), iA p0c, iA p0d, bA D]), ((1002, 0), .box 1 [iA p2a, iA p2b, iA p2c]), ((1007, 50), .arr 1 1 (qLGOcc A)), ((1014, 0), .arr 1 10 (qGNode Cp))]⟩ : St)) (fun x => x) (.exit 1)
  (i0 := (_, _)) Fm (fun _ => rfl) ?_ ?_ ?_
 ·rintro ⟨F, G⟩ e
  refine ah ?_
  cbv
  all_goals exact J2
 rintro Cp hx
 subst o2
 have hh := Fo
 cbv
 refine ⟨⟨(⟨[(0, .mptr (0, 0) 1 0 0), (1, iA p1), (2, .mptr (2, 0) 1 0 0), (7, .ref (7, 50) 1 0 (len (qLGOcc A))), (9, .mptr (14, 0) 1 (nadd 0 (toNat z)) 0), (15, iA (cast (len (qGNode p0b)))), (16, iA z), (30, tA (qGOcc Cn)), (1000000, .mptr (0, 0) 1 0 0), (1000002, .mptr (2, 0) 1 0 0)], [((0, 0), .box 1 [iA p0a, .ref (14, 0) 1 0 (len (qGNode Cp)), iA p0c, iA p0d, bA D]), ((2, 0), .box 1 [iA p2a, iA p2b, iA p2c]), ((7, 50), .arr 1 1 (qLGOcc A)), ((14, 0), .arr 1 10 (qGNode Cp))]⟩ : St), ?_, ?_⟩, trivial⟩
 ·refine aw [((0, 0), (1000, 0)), ((2, 0), (1002, 0)), ((7, 50), (1007, 50)), ((14, 0), (1014, 0))] ?_
  cbv
  all_goals exact Zb
 cbv
 replace hh := aa hh
 obtain ⟨Fe, hh⟩ := hh
 refine ⟨⟨Ob, Ab⟩, ?_⟩
 refine ⟨⟨Ob, Wb Fe⟩, ?_⟩
 replace hh := bind_some hh
 obtain ⟨⟨Ct, Cw, Cy, Cz, ⟨CB, CE⟩, ⟨CG, CH⟩, CI, CJ⟩, CK, hh⟩ := hh
 try dsimp only at hh
 refine ⟨[iA Ct, iA Cw, iA Cy, tA (qInt Cz), tA (qGOcc CB), tA (qGOcc CE), tA (qGOcc CG), tA (qGOcc CH), tA (qGOcc CI), iA CJ], Gb CK, ?_⟩
 cbv
 refine ⟨[iA Ct, iA Cw, iA Cy, tA (qInt Cz), tA (qGOcc CB), tA (qGOcc CE), tA (qGOcc CG), tA (qGOcc CH), tA (qGOcc CI), iA CJ], Gb CK, ?_⟩
 cbv
 refine bcs (fun Cq => ?_) (fun Cq => ?_)
 replace hh := ifT hh Cq
 try rw [Cq]
 cbv
 ·refine C (_, _, _, _) _ hh fun ⟨F, G, H, T⟩ e => ?_
  refine aw [((0, 0), (0, 0)), ((2, 0), (2, 0)), ((7, 50), (34, 0)), ((14, 0), (14, 0))] ?_
  cbv
  all_goals exact J4
 replace hh := ifF hh Cq
 try rw [Cq]
 cbv
 refine ⟨[iA Ct, iA Cw, iA Cy, tA (qInt Cz), tA (qGOcc CB), tA (qGOcc CE), tA (qGOcc CG), tA (qGOcc CH), tA (qGOcc CI), iA (wrap .i64 (add CJ (cast (len (qGOcc Cn)))))], Gb2 CK ((List.getElem?_eq_some_iff.1 CK).1), ?_⟩
 cbv
 ·refine C (_, _, _, _) _ hh fun ⟨F, G, H, T⟩ e => ?_
  refine aw [((0, 0), (0, 0)), ((2, 0), (2, 0)), ((7, 50), (34, 0)), ((14, 0), (14, 0))] ?_
  cbv
  all_goals exact J4
 rintro n ⟨Dc, Dt⟩ N2 D2 hh Fp Fq Fy
 try dsimp only at hh
 unfold ak.l2 at hh
 cbv
 refine bcs (fun Cs => ?_) (fun Cs => ?_)
 replace hh := ifT hh Cs
 try rw [Cs]
 cbv
 replace hh := aa hh
 obtain ⟨Ff, hh⟩ := hh
 replace hh := bind_some hh
 obtain ⟨⟨Du, Dv, Dw⟩, Fg, hh⟩ := hh
 try dsimp only at hh
 refine ⟨[iA Du, iA Dv, tA (qInt Dw)], Nb Ff, Gb Fg, ?_⟩
 cbv
 replace hh := bind_some hh
 obtain ⟨⟨CP, CQ, CU, CZ, ⟨C0, C1⟩, ⟨C2, C3⟩, C4, C5⟩, Dd, hh⟩ := hh
 try dsimp only at hh
 refine ⟨[iA CP, iA CQ, iA CU, tA (qInt CZ), tA (qGOcc C0), tA (qGOcc C1), tA (qGOcc C2), tA (qGOcc C3), tA (qGOcc C4), iA C5], Gb Dd, ?_⟩
 cbv
 refine ⟨[iA CP, iA CQ, iA CU, tA (qInt CZ), tA (qGOcc C0), tA (qGOcc C1), tA (qGOcc C2), tA (qGOcc C3), tA (qGOcc C4), iA C5], Gb Dd, ?_⟩
 cbv
 replace hh := bind_some hh
 obtain ⟨⟨Fr, Fs, Ft⟩, Fh, hh⟩ := hh
 try dsimp only at hh
 have fc := pd hQ Fh
 try dsimp only at fc
 refine ac hF fc ?_
 cbv
 replace hh := bind_some hh
 obtain ⟨Fw, Fi, hh⟩ := hh
 refine ⟨Ob, ?_⟩
 refine ac hF (iF hQ Fi) ?_
 cbv
 refine ⟨[iA CP, iA CQ, iA CU, tA (qInt CZ), tA (qGOcc C0), tA (qGOcc C1), tA (qGOcc C2), tA (qGOcc C3), tA (qGOcc C4), iA C5], Gb Dd, ?_⟩
 cbv
 ·refine Fp (_, _) _ hh fun ⟨F, G⟩ e => ?_
  refine ah ?_
  cbv
  all_goals exact J2
 replace hh := ifF hh Cs
 try rw [Cs]
 cbv
 ·refine Fq _ _ hh fun F e => ?_
  refine ah ?_
  cbv
  all_goals exact J1
 replace hh := ifF hh U
 try rw [U]
 cbv
 ·refine Fl (_, _, _) _ hh fun ⟨F, G, H⟩ e => ?_
  refine ah ?_
  cbv
  all_goals exact J3

theorem qk {k : Nat} {p0 : GGraph} {p1 : GEv} {r : (List GOcc) × GGraph} (hh : bG.f k p0 p1 = some r) : ai P 62 [.obox [iA p0.Mode, oA 10 (qGNode p0.Nodes), iA p0.Seen, iA p0.Now, bA p0.Full], .agg [iA p1.Sym, iA p1.At, iA p1.Val]] [.obox [iA r.2.Mode, oA 10 (qGNode r.2.Nodes), iA r.2.Seen, iA r.2.Now, bA r.2.Full], hA] (oA 3 (qGOcc r.1)) := by
 obtain ⟨p0a, p0b, p0c, p0d, p0e⟩ := p0
 obtain ⟨p1a, p1b, p1c⟩ := p1
 unfold bG.f at hh
 refine go (ts := [(4, none)]) (rm := [.own]) (pm := [.own, .skip]) Tryz.func62 ?_
 unhygienic intros
 cbv
 replace hh := bind_some hh
 obtain ⟨o1, S, T⟩ := hh
 refine au hC eok mixed (fun n (i : Int × (List GNode) × Int × Int × Bool × (List GOcc)) => bG.l0 k (⟨p1a, p1b, p1c⟩ : GEv) n i.1 i.2.1 i.2.2.1 i.2.2.2.1 i.2.2.2.2.1 i.2.2.2.2.2)
  (fun ⟨B, t, C, D, o, u⟩ => (⟨[(0, .mptr (0, 0) 1 0 0), (3, .mptr (3, 0) 1 0 0), (5, .ref (5, 50) 1 0 (len (qGOcc u))), (1000000, .mptr (0, 0) 1 0 0)], [((0, 0), .box 1 [iA B, .ref (900, 0) 1 0 (len (qGNode t)), iA C, iA D, bA o]), ((3, 0), .box 1 [iA p1a, iA p1b, iA p1c]), ((5, 50), .arr 1 3 (qGOcc u)), ((900, 0), .arr 1 10 (qGNode t))]⟩ : St))
  (fun (⟨F, v, G, H, p, w⟩ : Int × (List GNode) × Int × Int × Bool × (List GOcc)) => (⟨[(0, .mptr (0, 0) 1 0 0), (3, .mptr (3, 0) 1 0 0), (5, .ref (5, 50) 1 0 (len (qGOcc w))), (1000000, .mptr (0, 0) 1 0 0)], [((0, 0), .box 1 [iA F, .ref (900, 0) 1 0 (len (qGNode v)), iA G, iA H, bA p]), ((3, 0), .box 1 [iA p1a, iA p1b, iA p1c]), ((5, 50), .arr 1 3 (qGOcc w)), ((900, 0), .arr 1 10 (qGNode v))]⟩ : St)) (fun x => x) (.exit 0)
  (i0 := (_, _, _, _, _, _)) S (fun _ => rfl) ?_ ?_ ?_
 ·rintro ⟨L, M, N, O, Q, R⟩ e
  refine eN hC (0, 0) 900 ?_
  cbv
  refine aw [((0, 0), (0, 0)), ((3, 0), (3, 0)), ((900, 0), (900, 0))] ?_
  cbv
  all_goals exact J6
 rintro ⟨F, v, G, H, p, w⟩ hx
 subst o1
 have hh := T
 cbv
 replace hh := az hh
 rcases hh with ⟨y, hh⟩ | ⟨y, hh⟩
 have b : p = true := Tb y
 have g := b; cbv at g; try rw [b]
 try rw [g]
 cbv
 refine ⟨3, ?_⟩
 cbv
 refine ⟨10, ?_⟩
 cbv
 exact Eb
 have b : p = false := Fb y
 have g := b; cbv at g; try rw [b]
 try rw [g]
 cbv
 replace hh := bind_some hh
 obtain ⟨⟨Cy, ⟨U, V, W, X, Y⟩, ⟨Z, dv, xI⟩⟩, Bo, hh⟩ := hh
 try dsimp only at hh
 have fc := og hQ Bo
 try dsimp only at fc
 refine ac hF fc ?_
 cbv
 replace hh := aa hh
 obtain ⟨I, hh⟩ := hh
 try dsimp only at I
 refine ⟨⟨Ab, Ab⟩, ?_⟩
 refine ⟨⟨Ob, Wb I⟩, ?_⟩
 refine bcs (fun c => ?_) (fun c => ?_)
 replace hh := ifT hh c
 try rw [c]
 cbv
 refine ⟨3, ?_⟩
 cbv
 refine ⟨10, ?_⟩
 cbv
 exact Eb
 replace hh := ifF hh c
 try rw [c]
 cbv
 exact Eb
 rintro n ⟨B, t, C, D, o, u⟩ N1 D1 hh B2 J CG
 try dsimp only at hh
 unfold bG.l0 at hh
 cbv
 replace hh := az hh
 rcases hh with ⟨z, hh⟩ | ⟨z, hh⟩
 have d : o = true := Tb z
 have g := d; cbv at g; try rw [d]
 try rw [g]
 cbv
 ·refine J (_, _, _, _, _, _) _ hh fun ⟨L, M, N, O, Q, R⟩ e => ?_
  refine ah ?_
  cbv
  all_goals exact J6
 have d : o = false := Fb z
 have g := d; cbv at g; try rw [d]
 try rw [g]
 cbv
 replace hh := bind_some hh
 obtain ⟨⟨Cz, s, ⟨B3, Ce, Cj, Ck, Cm⟩⟩, Cn, hh⟩ := hh
 try dsimp only at hh
 have fc := re hQ Cn
 try dsimp only at fc
 refine ac hF fc ?_
 cbv
 replace hh := az hh
 rcases hh with ⟨A, hh⟩ | ⟨A, hh⟩
 have j : s = true := Tb A
 have g := j; cbv at g; try rw [j]
 try rw [g]
 cbv
 replace hh := bind_some hh
 obtain ⟨⟨CB, ⟨Co, Cp, Cq, Cs, Ct⟩⟩, Cw, hh⟩ := hh
 try dsimp only at hh
 have fc := mb hQ Cw
 try dsimp only at fc
 refine ac hF fc ?_
 cbv
 replace hh := aa hh
 obtain ⟨K, hh⟩ := hh
 try dsimp only at K
 refine ⟨⟨Ab, Ab⟩, ?_⟩
 refine ⟨⟨Ob, Wb K⟩, ?_⟩
 ·refine B2 (_, _, _, _, _, _) _ hh fun ⟨L, M, N, O, Q, R⟩ e => ?_
  refine eN hC (0, 0) 900 ?_
  cbv
  refine aw [((0, 0), (0, 0)), ((3, 0), (3, 0)), ((5, 50), (26, 0)), ((900, 0), (900, 0))] ?_
  cbv
  all_goals exact J6
 have j : s = false := Fb A
 have g := j; cbv at g; try rw [j]
 try rw [g]
 cbv
 ·refine J (_, _, _, _, _, _) _ hh fun ⟨L, M, N, O, Q, R⟩ e => ?_
  refine eN hC (0, 0) 900 ?_
  cbv
  refine ah ?_
  cbv
  all_goals exact J6

theorem rg {p0 : GEng} {p1 : GRule} {p2 : GOcc} {r : Int × Bool} (hh : fQ.f p0 p1 p2 = some r) : ai P 225 [.agg [tA (qGRule p0.Rules), tA (qGGraph p0.Graphs), tA (qGEv p0.Events), tA (qInt p0.Keys), tA (qGFire p0.Fired)], .agg [sA p1.Name, iA p1.Pri, iA p1.Mode, iA p1.Ex.Kind, iA p1.Ex.Sym, iA p1.Ex.N, tA (qGEx p1.Ex.Kids), iA p1.Low, iA p1.High, iA p1.Key, iA p1.Add, iA p1.Raise], .agg [iA p2.From, iA p2.To, tA (qInt p2.Ids)]] [hA, hA, hA] (.tup [iA r.1, bA r.2]) := by
 obtain ⟨p0a, p0b, p0c, p0d, p0e⟩ := p0
 obtain ⟨p1a, p1b, p1c, ⟨p1d, p1e, p1f, p1g⟩, p1h, p1i, p1j, p1k, p1l⟩ := p1
 obtain ⟨p2a, p2b, p2c⟩ := p2
 unfold fQ.f at hh
 refine go (ts := [(6, none), (7, none)]) (rm := [.own, .own]) (pm := [.skip, .skip, .skip]) Tryz.func225 ?_
 unhygienic intros
 cbv
 replace hh := bind_some hh
 obtain ⟨t, j, hh⟩ := hh
 refine ac hF (jC hQ j) ?_
 cbv
 replace hh := aa hh
 obtain ⟨o, hh⟩ := hh
 replace hh := bind_some hh
 obtain ⟨⟨b, c, d⟩, p, hh⟩ := hh
 try dsimp only at hh
 refine ⟨[iA b, iA c, iA d], Nb o, Gb p, ?_⟩
 cbv
 replace hh := bind_some hh
 obtain ⟨u, s, hh⟩ := hh
 refine ac hF (bp hQ s) ?_
 cbv
 exact Eb
theorem kz {p0 : GEng} {p1 : GRule} {p2 : GOcc} {r : Int × Bool} (hh : fQ.f p0 p1 p2 = some r) : ai P 225 [.agg [tA (qGRule p0.Rules), oA 5 (qGGraphS p0.Graphs), oA 3 (qGEv p0.Events), oA 1 (qInt p0.Keys), oA 4 (qGFire p0.Fired)], .agg [sA p1.Name, iA p1.Pri, iA p1.Mode, iA p1.Ex.Kind, iA p1.Ex.Sym, iA p1.Ex.N, tA (qGEx p1.Ex.Kids), iA p1.Low, iA p1.High, iA p1.Key, iA p1.Add, iA p1.Raise], .agg [iA p2.From, iA p2.To, tA (qInt p2.Ids)]] [.agg [tA (qGRule p0.Rules), oA 5 (qGGraphS p0.Graphs), oA 3 (qGEv p0.Events), oA 1 (qInt p0.Keys), oA 4 (qGFire p0.Fired)], hA, hA] (.tup [iA r.1, bA r.2]) := by
  cases hQ; exact (rg .mk hh).lend (rfl) (.lend (by simp) (.same rfl (.same rfl .nil)))

theorem rW {p0 : GEng} {p1 : Int} {p2 : GOcc} {p3 : Graiser} {r : Int × GEng × Graiser} (hh : gq.f p0 p1 p2 p3 = some r) : ai P 190 [.obox [tA (qGRule p0.Rules), oA 5 (qGGraphS p0.Graphs), oA 3 (qGEv p0.Events), oA 1 (qInt p0.Keys), oA 4 (qGFire p0.Fired)], iA p1, .agg [iA p2.From, iA p2.To, tA (qInt p2.Ids)], .obox [oA 3 (qGEv p3.queue), iA p3.raised]] [.obox [tA (qGRule r.2.1.Rules), oA 5 (qGGraphS r.2.1.Graphs), oA 3 (qGEv r.2.1.Events), oA 1 (qInt r.2.1.Keys), oA 4 (qGFire r.2.1.Fired)], hA, hA, .obox [oA 3 (qGEv r.2.2.queue), iA r.2.2.raised]] (iA r.1) := by
 obtain ⟨p0a, p0b, p0c, p0d, p0e⟩ := p0
 obtain ⟨p2a, p2b, p2c⟩ := p2
 obtain ⟨p3a, p3b⟩ := p3
 unfold gq.f at hh
 refine go (ts := [(8, none)]) (rm := [.own]) (pm := [.own, .skip, .skip, .own]) Tryz.func190 ?_
 unhygienic intros
 cbv
 replace hh := aa hh
 obtain ⟨U, hh⟩ := hh
 replace hh := bind_some hh
 obtain ⟨⟨F, G, H, ⟨I, J, K, L⟩, M, N, O, Q, R⟩, V, hh⟩ := hh
 try dsimp only at hh
 refine ⟨[sA F, iA G, iA H, iA I, iA J, iA K, tA (qGEx L), iA M, iA N, iA O, iA Q, iA R], Nb U, Gb V, ?_⟩
 cbv
 replace hh := bind_some hh
 obtain ⟨⟨W, j⟩, X, hh⟩ := hh
 try dsimp only at hh
 have fc := kz hQ X
 try dsimp only at fc
 refine ac hF fc ?_
 cbv
 replace hh := az hh
 rcases hh with ⟨D, hh⟩ | ⟨D, hh⟩
 have o : j = true := Tb D
 have g := o; cbv at g; try rw [o]
 try rw [g]
 cbv
 replace hh := aa hh
 obtain ⟨S, hh⟩ := hh
 try dsimp only at S
 replace hh := aa hh
 obtain ⟨u, hh⟩ := hh
 try dsimp only at u
 refine ⟨Nb S, Mb u, ?_⟩
 replace hh := bind_some hh
 obtain ⟨p, s, hh⟩ := hh
 refine ⟨[iA p], Gb s, ?_⟩
 cbv
 replace hh := bind_some hh
 obtain ⟨v, T, hh⟩ := hh
 refine ac hF (bp hQ T) ?_
 cbv
 replace hh := az hh
 rcases hh with ⟨t, hh⟩ | ⟨t, hh⟩
 have b : v = true := Tb t
 have g := b; cbv at g; try rw [b]
 try rw [g]
 cbv
 replace hh := aa hh
 obtain ⟨w, hh⟩ := hh
 try dsimp only at w
 replace hh := aa hh
 obtain ⟨y, hh⟩ := hh
 try dsimp only at y
 refine ⟨Nb w, Mb y, ?_⟩
 refine ⟨[iA p], Gb s, ?_⟩
 cbv
 replace hh := aa hh
 obtain ⟨z, hh⟩ := hh
 try dsimp only at z
 replace hh := aa hh
 obtain ⟨A, hh⟩ := hh
 try dsimp only at A
 refine ⟨Nb z, Mb A, ?_⟩
 refine ⟨[iA p], Gb s, ?_⟩
 cbv
 replace hh := aa hh
 obtain ⟨B, hh⟩ := hh
 try dsimp only at B
 refine ⟨⟨Ob, Ab⟩, ?_⟩
 refine ⟨⟨Ob, Wb B⟩, ?_⟩
 refine bcs (fun c => ?_) (fun c => ?_)
 replace hh := ifT hh c
 try rw [c]
 cbv
 exact Eb
 replace hh := ifF hh c
 try rw [c]
 cbv
 refine bcs (fun d => ?_) (fun d => ?_)
 replace hh := ifT hh d
 try rw [d]
 cbv
 exact Eb
 replace hh := ifF hh d
 try rw [d]
 cbv
 replace hh := aa hh
 obtain ⟨C, hh⟩ := hh
 try dsimp only at C
 refine ⟨⟨Ob, Ab⟩, ?_⟩
 refine ⟨⟨Ob, Wb C⟩, ?_⟩
 exact Eb
 have b : v = false := Fb t
 have g := b; cbv at g; try rw [b]
 try rw [g]
 cbv
 exact Eb
 have o : j = false := Fb D
 have g := o; cbv at g; try rw [o]
 try rw [g]
 cbv
 exact Eb

theorem pI {k : Nat} {p0 : GEng} {p1 : GEv} {p2 : Graiser} {r : Int × GEng × Graiser} (hh : aO.f k p0 p1 p2 = some r) : ai P 143 [.obox [tA (qGRule p0.Rules), oA 5 (qGGraphS p0.Graphs), oA 3 (qGEv p0.Events), oA 1 (qInt p0.Keys), oA 4 (qGFire p0.Fired)], .agg [iA p1.Sym, iA p1.At, iA p1.Val], .obox [oA 3 (qGEv p2.queue), iA p2.raised]] [.obox [tA (qGRule r.2.1.Rules), oA 5 (qGGraphS r.2.1.Graphs), oA 3 (qGEv r.2.1.Events), oA 1 (qInt r.2.1.Keys), oA 4 (qGFire r.2.1.Fired)], hA, .obox [oA 3 (qGEv r.2.2.queue), iA r.2.2.raised]] (iA r.1) := by
 obtain ⟨p0a, p0b, p0c, p0d, p0e⟩ := p0
 obtain ⟨p1a, p1b, p1c⟩ := p1
 obtain ⟨p2a, p2b⟩ := p2
 unfold aO.f at hh
 refine go (ts := [(6, none)]) (rm := [.own]) (pm := [.own, .skip, .own]) Tryz.func143 ?_
 unhygienic intros
 cbv
 refine bcs (fun V => ?_) (fun V => ?_)
 replace hh := ifT hh V
 try rw [V]
 cbv
 exact Eb
 replace hh := ifF hh V
 try rw [V]
 cbv
 refine bcs (fun W => ?_) (fun W => ?_)
 replace hh := ifT hh W
 try rw [W]
 cbv
 exact Eb
 replace hh := ifF hh W
 try rw [W]
 cbv
 replace hh := aa hh
 obtain ⟨h5, hh⟩ := hh
 try dsimp only at h5
 refine ⟨⟨Ob, Ab⟩, ?_⟩
 refine ⟨⟨Ob, Wb h5⟩, ?_⟩
 replace hh := bind_some hh
 obtain ⟨p, h6, hh⟩ := hh
 refine ac hF (wA hQ h6) ?_
 cbv
 replace hh := bind_some hh
 obtain ⟨o1, Dd, X⟩ := hh
 refine au hC eok mixed (fun n (i : (List GRule) × (List GGraph) × (List GEv) × (List Int) × (List GFire) × (List GEv) × Int × Int) => aO.l2 k (⟨p1a, p1b, p1c⟩ : GEv) p n i.1 i.2.1 i.2.2.1 i.2.2.2.1 i.2.2.2.2.1 i.2.2.2.2.2.1 i.2.2.2.2.2.2.1 i.2.2.2.2.2.2.2)
  (fun ⟨CG, T, Y, Z, dv, xI, CH, U⟩ => (⟨[(0, .mptr (0, 0) 1 0 0), (2, .mptr (2, 0) 1 0 0), (4, .mptr (4, 0) 1 0 0), (39, .ref (39, 0) 1 0 (len (qInt p))), (40, iA (cast (len (qInt p)))), (41, iA U), (1000000, .mptr (0, 0) 1 0 0), (1000002, .mptr (2, 0) 1 0 0)], [((0, 0), .box 1 [tA (qGRule CG), .ref (900, 0) 1 0 (len (qGGraphS T)), .ref (32, 0) 1 0 (len (qGEv Y)), .ref (900, 1) 1 0 (len (qInt Z)), .ref (900, 2) 1 0 (len (qGFire dv))]), ((2, 0), .box 1 [.ref (901, 0) 1 0 (len (qGEv xI)), iA CH]), ((4, 0), .box 1 [iA p1a, iA p1b, iA p1c]), ((32, 0), .arr 1 3 (qGEv Y)), ((39, 0), .arr 1 1 (qInt p)), ((900, 0), .arr 1 5 (qGGraphS T)), ((900, 1), .arr 1 1 (qInt Z)), ((900, 2), .arr 1 4 (qGFire dv)), ((901, 0), .arr 1 3 (qGEv xI))]⟩ : St))
  (fun (⟨Bo, A, B, C, D, F, B2⟩ : (List GRule) × (List GGraph) × (List GEv) × (List Int) × (List GFire) × (List GEv) × Int) => (⟨[(1000000, .mptr (0, 0) 1 0 0), (1000002, .mptr (2, 0) 1 0 0)], [((0, 0), .box 1 [tA (qGRule Bo), .ref (900, 0) 1 0 (len (qGGraphS A)), .ref (32, 0) 1 0 (len (qGEv B)), .ref (900, 1) 1 0 (len (qInt C)), .ref (900, 2) 1 0 (len (qGFire D))]), ((2, 0), .box 1 [.ref (901, 0) 1 0 (len (qGEv F)), iA B2]), ((32, 0), .arr 1 3 (qGEv B)), ((900, 0), .arr 1 5 (qGGraphS A)), ((900, 1), .arr 1 1 (qInt C)), ((900, 2), .arr 1 4 (qGFire D)), ((901, 0), .arr 1 3 (qGEv F))]⟩ : St)) .ok (.exit 0)
  (i0 := (_, _, _, _, _, _, _, _)) Dd (fun _ => rfl) ?_ ?_ ?_
 ·rintro ⟨t0, t1, t2, t3, t4, t5, t6, t7⟩ e
  refine eN hC (0, 0) 900 ?_
  cbv
  refine eN hC (2, 0) 901 ?_
  cbv
  refine ah ?_
  cbv
  all_goals exact J8
 rintro ⟨Bo, A, B, C, D, F, B2⟩ hx
 subst o1
 have hh := X
 cbv
 exact Eb
 rintro n ⟨CG, T, Y, Z, dv, xI, CH, U⟩ N1 D1 hh De Df CI
 try dsimp only at hh
 unfold aO.l2 at hh
 cbv
 refine bcs (fun c => ?_) (fun c => ?_)
 replace hh := ifT hh c
 try rw [c]
 cbv
 replace hh := aa hh
 obtain ⟨CP, hh⟩ := hh
 replace hh := aa hh
 obtain ⟨CQ, hh⟩ := hh
 refine ⟨Nb CP, Mb CQ, ?_⟩
 replace hh := bind_some hh
 obtain ⟨y, CU, hh⟩ := hh
 refine ⟨[iA y], Gb CU, ?_⟩
 cbv
 replace hh := aa hh
 obtain ⟨CZ, hh⟩ := hh
 replace hh := aa hh
 obtain ⟨C0, hh⟩ := hh
 refine ⟨Nb CZ, Mb C0, ?_⟩
 replace hh := bind_some hh
 obtain ⟨⟨Dk, Dl, Dm, Dn, Do⟩, G, hh⟩ := hh
 try dsimp only at hh
 replace hh := bind_some hh
 obtain ⟨⟨b, ⟨s, t, u, v, w⟩⟩, C1, hh⟩ := hh
 try dsimp only at hh
 have fc := ai.rowedC hC (qk hQ C1) rfl (.row (rows := (qGGraphS T)) (k := 5) (i := (nadd 0 (toNat y))) (Gb G) rfl (.same .nil))
 try dsimp only at fc
 refine ac hF fc ?_
 cbv
 refine ⟨⟨Ob, trivial⟩, ?_⟩
 cbv
 refine ⟨[iA s, oA 10 (qGNode t), iA u, iA v, bA w], Gb2 G ((List.getElem?_eq_some_iff.1 G).1), ?_⟩
 cbv
 refine bcs (fun d => ?_) (fun d => ?_)
 replace hh := ifT hh d
 try rw [d]
 cbv
 cases hh
 have hh : some _ = some _ := X
 refine CI _ _ ?_
 cbv
 exact Eb
 replace hh := ifF hh d
 try rw [d]
 cbv
 replace hh := bind_some hh
 obtain ⟨o2, Dg, CJ⟩ := hh
 refine au hC eok mixed (fun n (i : (List GRule) × (List GGraph) × (List GEv) × (List Int) × (List GFire) × (List GEv) × Int × Int) => aO.l3 k y (⟨b, ⟨s, t, u, v, w⟩⟩ : (List GOcc) × GGraph) n i.1 i.2.1 i.2.2.1 i.2.2.2.1 i.2.2.2.2.1 i.2.2.2.2.2.1 i.2.2.2.2.2.2.1 i.2.2.2.2.2.2.2)
  (fun ⟨Cp, H, I, J, K, L, Cq, Cs⟩ => (⟨[(0, .mptr (0, 0) 1 0 0), (2, .mptr (2, 0) 1 0 0), (4, .mptr (4, 0) 1 0 0), (8, iA y), (39, .ref (39, 0) 1 0 (len (qInt p))), (40, iA (cast (len (qInt p)))), (41, iA U), (58, .ref (53, 0) 1 0 (len (qGOcc b))), (59, iA (cast (len (qGOcc b)))), (60, iA Cs), (1000000, .mptr (0, 0) 1 0 0), (1000002, .mptr (2, 0) 1 0 0)], [((0, 0), .box 1 [tA (qGRule Cp), .ref (900, 0) 1 0 (len (qGGraphS H)), .ref (32, 0) 1 0 (len (qGEv I)), .ref (900, 1) 1 0 (len (qInt J)), .ref (900, 2) 1 0 (len (qGFire K))]), ((2, 0), .box 1 [.ref (901, 0) 1 0 (len (qGEv L)), iA Cq]), ((4, 0), .box 1 [iA p1a, iA p1b, iA p1c]), ((32, 0), .arr 1 3 (qGEv I)), ((39, 0), .arr 1 1 (qInt p)), ((53, 0), .arr 1 3 (qGOcc b)), ((900, 0), .arr 1 5 (qGGraphS H)), ((900, 1), .arr 1 1 (qInt J)), ((900, 2), .arr 1 4 (qGFire K)), ((901, 0), .arr 1 3 (qGEv L))]⟩ : St))
  (fun (⟨Ct, M, N, O, Q, R, Cw⟩ : (List GRule) × (List GGraph) × (List GEv) × (List Int) × (List GFire) × (List GEv) × Int) => (⟨[(0, .mptr (0, 0) 1 0 0), (2, .mptr (2, 0) 1 0 0), (4, .mptr (4, 0) 1 0 0), (39, .ref (39, 0) 1 0 (len (qInt p))), (40, iA (cast (len (qInt p)))), (41, iA U), (1000000, .mptr (0, 0) 1 0 0), (1000002, .mptr (2, 0) 1 0 0)], [((0, 0), .box 1 [tA (qGRule Ct), .ref (900, 0) 1 0 (len (qGGraphS M)), .ref (32, 0) 1 0 (len (qGEv N)), .ref (900, 1) 1 0 (len (qInt O)), .ref (900, 2) 1 0 (len (qGFire Q))]), ((2, 0), .box 1 [.ref (901, 0) 1 0 (len (qGEv R)), iA Cw]), ((4, 0), .box 1 [iA p1a, iA p1b, iA p1c]), ((32, 0), .arr 1 3 (qGEv N)), ((39, 0), .arr 1 1 (qInt p)), ((900, 0), .arr 1 5 (qGGraphS M)), ((900, 1), .arr 1 1 (qInt O)), ((900, 2), .arr 1 4 (qGFire Q)), ((901, 0), .arr 1 3 (qGEv R))]⟩ : St)) .ok (.exit 2)
  (i0 := (_, _, _, _, _, _, _, _)) Dg (fun _ => rfl) ?_ ?_ ?_
 ·rintro ⟨t0, t1, t2, t3, t4, t5, t6, t7⟩ e
  refine ah ?_
  cbv
  all_goals exact J8
 rintro ⟨Ct, M, N, O, Q, R, Cw⟩ hx
 subst o2
 have hh := CJ
 cbv
 ·refine De (_, _, _, _, _, _, _, _) _ hh fun ⟨t0, t1, t2, t3, t4, t5, t6, t7⟩ e => ?_
  refine ah ?_
  cbv
  all_goals exact J8
 rintro n ⟨Cp, H, I, J, K, L, Cq, Cs⟩ N2 D2 hh Dh Di Dj
 try dsimp only at hh
 unfold aO.l3 at hh
 cbv
 refine bcs (fun j => ?_) (fun j => ?_)
 replace hh := ifT hh j
 try rw [j]
 cbv
 replace hh := aa hh
 obtain ⟨C2, hh⟩ := hh
 replace hh := aa hh
 obtain ⟨Cy, hh⟩ := hh
 try dsimp only at Cy
 refine ⟨Nb C2, Mb Cy, ?_⟩
 replace hh := bind_some hh
 obtain ⟨⟨Cz, CB, CE⟩, C3, hh⟩ := hh
 try dsimp only at hh
 refine ⟨[iA Cz, iA CB, tA (qInt CE)], Gb C3, ?_⟩
 cbv
 replace hh := bind_some hh
 obtain ⟨⟨z, ⟨C5, C6, C7, C8, C9⟩, ⟨Da, Db⟩⟩, C4, hh⟩ := hh
 try dsimp only at hh
 have fc := rW hQ C4
 try dsimp only at fc
 refine ac hF fc ?_
 cbv
 replace hh := az hh
 rcases hh with ⟨S, hh⟩ | ⟨S, hh⟩
 have o : (eq z 0) = true := Tb S
 have g := o; cbv at g; try rw [o]
 try rw [g]
 cbv
 ·refine Dh (_, _, _, _, _, _, _, _) _ hh fun ⟨t0, t1, t2, t3, t4, t5, t6, t7⟩ e => ?_
  refine eN hC (0, 0) 900 ?_
  cbv
  refine eN hC (2, 0) 901 ?_
  cbv
  refine aw [((0, 0), (0, 0)), ((2, 0), (2, 0)), ((4, 0), (4, 0)), ((32, 0), (900, 1)), ((39, 0), (39, 0)), ((53, 0), (53, 0)), ((900, 0), (900, 0)), ((900, 1), (900, 2)), ((900, 2), (900, 3)), ((901, 0), (901, 0))] ?_
  cbv
  all_goals exact J8
 have o : (eq z 0) = false := Fb S
 have g := o; cbv at g; try rw [o]
 try rw [g]
 cbv
 cases hh
 have hh : some _ = some _ := CJ
 cases hh
 have hh : some _ = some _ := X
 refine Dj _ _ ?_
 refine CI _ _ ?_
 cbv
 exact Eb
 replace hh := ifF hh j
 try rw [j]
 cbv
 ·refine Di (_, _, _, _, _, _, _) _ hh fun ⟨t0, t1, t2, t3, t4, t5, t6⟩ e => ?_
  refine ah ?_
  cbv
  all_goals exact J7
 replace hh := ifF hh c
 try rw [c]
 cbv
 ·refine Df (_, _, _, _, _, _, _) _ hh fun ⟨t0, t1, t2, t3, t4, t5, t6⟩ e => ?_
  refine ah ?_
  cbv
  all_goals exact J7

theorem rR {k : Nat} {p0 : GEng} {p1 : Int} {p2 : Int} {p3 : Int} {r : GEng × Int × (List GFire)} (hh : cu.f k p0 p1 p2 p3 = some r) : ai P 84 [.agg [tA (qGRule p0.Rules), tA (qGGraph p0.Graphs), tA (qGEv p0.Events), tA (qInt p0.Keys), tA (qGFire p0.Fired)], iA p1, iA p2, iA p3] [hA, hA, hA, hA] (.tup [.agg [tA (qGRule r.1.Rules), oA 5 (qGGraphS r.1.Graphs), oA 3 (qGEv r.1.Events), oA 1 (qInt r.1.Keys), oA 4 (qGFire r.1.Fired)], iA r.2.1, oA 4 (qGFire r.2.2)]) := by
 obtain ⟨p0a, p0b, p0c, p0d, p0e⟩ := p0
 unfold cu.f at hh
 refine goG (g := [9, 12]) (i := []) (o := []) (sh := []) (ts := [(8, some 53), (9, none), (10, none)]) (rm := [.own, .own, .own]) (pm := [.skip, .skip, .skip, .skip]) Tryz.func84 ?_
 unhygienic intros
 cbv
 replace hh := bind_some hh
 obtain ⟨⟨C2, C3, C4, C5, C6⟩, h1, hh⟩ := hh
 try dsimp only at hh
 have fc := gj hQ h1
 try dsimp only at fc
 refine ac hF fc ?_
 cbv
 replace hh := bind_some hh
 obtain ⟨o1, M, H⟩ := hh
 refine au hC (ck [9, 12] [] []) mixed (fun n (i : (List GRule) × (List GGraph) × (List GEv) × (List Int) × (List GFire) × (List GEv) × Int × Int) => cu.l0 k (⟨p0a, p0b, p0c, p0d, p0e⟩ : GEng) n i.1 i.2.1 i.2.2.1 i.2.2.2.1 i.2.2.2.2.1 i.2.2.2.2.2.1 i.2.2.2.2.2.2.1 i.2.2.2.2.2.2.2)
  (fun ⟨v, c, d, j, p, b, w, y⟩ => (⟨[(4, .mptr (4, 0) 1 0 0), (8, .mptr (8, 0) 1 0 0), (11, .mptr (11, 0) 1 0 0), (12, .mptr (23, 0) 1 0 0), (13, iA y)], [((4, 0), .box 1 [tA (qGRule p0a), tA (qGGraph p0b), tA (qGEv p0c), tA (qInt p0d), tA (qGFire p0e)]), ((8, 0), .box 1 [.lit (.slice none 0 0), .lit (.slice none 0 0), .lit (.slice none 0 0), .lit (.slice none 0 0), .lit (.slice none 0 0)]), ((11, 0), .box 1 [tA (qGRule v), .ref (17, 0) 1 0 (len (qGGraphS c)), .ref (17, 1) 1 0 (len (qGEv d)), .ref (17, 2) 1 0 (len (qInt j)), .ref (17, 3) 1 0 (len (qGFire p))]), ((17, 0), .arr 1 5 (qGGraphS c)), ((17, 1), .arr 1 3 (qGEv d)), ((17, 2), .arr 1 1 (qInt j)), ((17, 3), .arr 1 4 (qGFire p)), ((21, 0), .arr 1 3 (qGEv b)), ((23, 0), .box 1 [.ref (21, 0) 1 0 (len (qGEv b)), iA w])]⟩ : St))
  (fun (⟨I, z, A, B, C⟩ : (List GRule) × (List GGraph) × (List GEv) × (List Int) × (List GFire)) => (⟨[(4, .mptr (4, 0) 1 0 0), (8, .mptr (8, 0) 1 0 0), (11, .mptr (11, 0) 1 0 0)], [((4, 0), .box 1 [tA (qGRule p0a), tA (qGGraph p0b), tA (qGEv p0c), tA (qInt p0d), tA (qGFire p0e)]), ((8, 0), .box 1 [.lit (.slice none 0 0), .lit (.slice none 0 0), .lit (.slice none 0 0), .lit (.slice none 0 0), .lit (.slice none 0 0)]), ((11, 0), .box 1 [tA (qGRule I), .ref (17, 0) 1 0 (len (qGGraphS z)), .ref (17, 1) 1 0 (len (qGEv A)), .ref (17, 2) 1 0 (len (qInt B)), .ref (17, 3) 1 0 (len (qGFire C))]), ((17, 0), .arr 1 5 (qGGraphS z)), ((17, 1), .arr 1 3 (qGEv A)), ((17, 2), .arr 1 1 (qInt B)), ((17, 3), .arr 1 4 (qGFire C))]⟩ : St)) .ok (.exit 0)
  (i0 := (_, _, _, _, _, _, _, _)) M (fun _ => rfl) ?_ ?_ ?_
 ·rintro ⟨N, O, Q, R, S, t5, t6, t7⟩ e
  refine ah ?_
  cbv
  all_goals exact J8
 rintro ⟨I, z, A, B, C⟩ hx
 subst o1
 have hh := H
 cbv
 refine vK hC (ck [9, 12] [] []) mixed [(17, 0), (17, 1), (17, 2), (17, 3)] ?_
 cbv
 replace hh := bind_some hh
 obtain ⟨⟨CH, CI, CJ, CK, CP⟩, T, hh⟩ := hh
 try dsimp only at hh
 refine ⟨Ob, ?_⟩
 refine ⟨Ob, ?_⟩
 refine ⟨Ob, ?_⟩
 refine ⟨Ob, ?_⟩
 have fc := gj hQ T
 try dsimp only at fc
 refine ac hF fc ?_
 cbv
 replace hh := aa hh
 obtain ⟨J, hh⟩ := hh
 try dsimp only at J
 replace hh := aa hh
 obtain ⟨K, hh⟩ := hh
 try dsimp only at K
 replace hh := aa hh
 obtain ⟨U, hh⟩ := hh
 refine ⟨⟨Nb J, Nb K, Nb U⟩, ?_⟩
 replace hh := bind_some hh
 obtain ⟨C7, V, hh⟩ := hh
 refine ⟨Ob, ?_⟩
 refine ac hF (kY hQ V) ?_
 cbv
 exact Eb
 rintro n ⟨v, c, d, j, p, b, w, y⟩ N1 D1 hh W X Y
 try dsimp only at hh
 unfold cu.l0 at hh
 cbv
 refine bcs (fun s => ?_) (fun s => ?_)
 replace hh := ifT hh s
 try rw [s]
 cbv
 replace hh := aa hh
 obtain ⟨Z, hh⟩ := hh
 replace hh := aa hh
 obtain ⟨dv, hh⟩ := hh
 refine ⟨Nb Z, Mb dv, ?_⟩
 replace hh := bind_some hh
 obtain ⟨⟨D, L, F⟩, xI, hh⟩ := hh
 try dsimp only at hh
 refine ⟨[iA D, iA L, iA F], Gb xI, ?_⟩
 cbv
 replace hh := aa hh
 obtain ⟨Bo, hh⟩ := hh
 replace hh := aa hh
 obtain ⟨B2, hh⟩ := hh
 replace hh := aa hh
 obtain ⟨B3, hh⟩ := hh
 refine ⟨⟨Nb Bo, Nb B2, Nb B3⟩, ?_⟩
 replace hh := bind_some hh
 obtain ⟨Ce, Cj, hh⟩ := hh
 refine ac hF (vf hQ Cj) ?_
 cbv
 refine BI hC (ck [9, 12] [] []) mixed (⟨[(4, .mptr (4, 0) 1 0 0), (8, .mptr (8, 0) 1 0 0), (11, .mptr (11, 0) 1 0 0), (12, .mptr (23, 0) 1 0 0), (14, .mptr (14, 0) 1 0 0)], [((4, 0), .box 1 [tA (qGRule p0a), tA (qGGraph p0b), tA (qGEv p0c), tA (qInt p0d), tA (qGFire p0e)]), ((8, 0), .box 1 [.lit (.slice none 0 0), .lit (.slice none 0 0), .lit (.slice none 0 0), .lit (.slice none 0 0), .lit (.slice none 0 0)]), ((11, 0), .box 1 [tA (qGRule v), .ref (17, 0) 1 0 (len (qGGraphS c)), .ref (17, 1) 1 0 (len (qGEv d)), .ref (17, 2) 1 0 (len (qInt j)), .ref (17, 3) 1 0 (len (qGFire p))]), ((14, 0), .box 1 [iA D, iA (wrap .i64 (add Ce y)), iA F]), ((17, 0), .arr 1 5 (qGGraphS c)), ((17, 1), .arr 1 3 (qGEv d)), ((17, 2), .arr 1 1 (qInt j)), ((17, 3), .arr 1 4 (qGFire p)), ((21, 0), .arr 1 3 (part (qGEv b) (nadd 0 (toNat 1)) (toNat (sub (cast (len (qGEv b))) 1)))), ((23, 0), .box 1 [.ref (21, 0) 1 0 (toNat (sub (cast (len (qGEv b))) 1)), iA w])]⟩ : St) ?_ ?_
 ·cbv
  refine Bx hC (23, 0) 0 ?_
  cbv
  refine ⟨Ob, ?_⟩
  refine ah ?_
  cbv
  all_goals exact Zb
 cbv
 replace hh := bind_some hh
 obtain ⟨⟨u, ⟨Ck, Cm, Cn, Co, Cp⟩, ⟨Cq, Cs⟩⟩, Ct, hh⟩ := hh
 try dsimp only at hh
 refine ⟨Ob, ?_⟩
 have fc := pI hQ Ct
 try dsimp only at fc
 refine ac hF fc ?_
 cbv
 replace hh := az hh
 rcases hh with ⟨G, hh⟩ | ⟨G, hh⟩
 have t : (eq u 0) = true := Tb G
 have g := t; cbv at g; try rw [t]
 try rw [g]
 cbv
 ·refine W (_, _, _, _, _, _, _, _) _ hh fun ⟨N, O, Q, R, S, t5, t6, t7⟩ e => ?_
  refine eN hC (11, 0) 900 ?_
  cbv
  refine eN hC (23, 0) 901 ?_
  cbv
  refine aw [((4, 0), (4, 0)), ((8, 0), (8, 0)), ((11, 0), (11, 0)), ((17, 0), (900, 0)), ((17, 1), (900, 1)), ((17, 2), (900, 2)), ((17, 3), (900, 3)), ((21, 0), (901, 0)), ((23, 0), (23, 0))] ?_
  cbv
  all_goals exact J8
 have t : (eq u 0) = false := Fb G
 have g := t; cbv at g; try rw [t]
 try rw [g]
 cbv
 replace hh := bind_some hh
 obtain ⟨⟨CQ, CU, CZ, C0, C1⟩, Cw, hh⟩ := hh
 try dsimp only at hh
 have fc := gj hQ Cw
 try dsimp only at fc
 refine ac hF fc ?_
 cbv
 cases hh
 have hh : some _ = some _ := H
 refine Y _ _ ?_
 cbv
 refine ⟨4, ?_⟩
 cbv
 exact Eb
 replace hh := ifF hh s
 try rw [s]
 cbv
 ·refine X (_, _, _, _, _) _ hh fun ⟨N, O, Q, R, S⟩ e => ?_
  refine ah ?_
  cbv
  all_goals exact J5

theorem nf {k : Nat} {p0 : GEng} {p1 : Int} {p2 : Int} {p3 : Int} {r : GEng × Int × (List GFire)} (hh : fI.f k p0 p1 p2 p3 = some r) : ai P 35 [.agg [tA (qGRule p0.Rules), tA (qGGraph p0.Graphs), tA (qGEv p0.Events), tA (qInt p0.Keys), tA (qGFire p0.Fired)], iA p1, iA p2, iA p3] [hA, hA, hA, hA] (.tup [.agg [tA (qGRule r.1.Rules), oA 5 (qGGraphS r.1.Graphs), oA 3 (qGEv r.1.Events), oA 1 (qInt r.1.Keys), oA 4 (qGFire r.1.Fired)], iA r.2.1, oA 4 (qGFire r.2.2)]) := by
 obtain ⟨p0a, p0b, p0c, p0d, p0e⟩ := p0
 unfold fI.f at hh
 refine go (ts := [(8, some 53), (9, none), (10, none)]) (rm := [.own, .own, .own]) (pm := [.skip, .skip, .skip, .skip]) Tryz.func35 ?_
 unhygienic intros
 cbv
 replace hh := bind_some hh
 obtain ⟨o, C, hh⟩ := hh
 refine ac hF (oL hQ C) ?_
 cbv
 replace hh := az hh
 rcases hh with ⟨d, hh⟩ | ⟨d, hh⟩
 have c : o = true := Tb d
 have g := c; cbv at g; try rw [c]
 try rw [g]
 cbv
 replace hh := bind_some hh
 obtain ⟨p, D, hh⟩ := hh
 refine ac hF (vm hQ D) ?_
 cbv
 replace hh := az hh
 rcases hh with ⟨j, hh⟩ | ⟨j, hh⟩
 have b : p = true := Tb j
 have g := b; cbv at g; try rw [b]
 try rw [g]
 cbv
 replace hh := bind_some hh
 obtain ⟨⟨⟨s, t, u, v, w⟩, A, B⟩, y, hh⟩ := hh
 try dsimp only at hh
 have fc := rR hQ y
 try dsimp only at fc
 refine ac hF fc ?_
 cbv
 exact Eb
 have b : p = false := Fb j
 have g := b; cbv at g; try rw [b]
 try rw [g]
 cbv
 replace hh := bind_some hh
 obtain ⟨⟨F, G, H, I, J⟩, z, hh⟩ := hh
 try dsimp only at hh
 have fc := gj hQ z
 try dsimp only at fc
 refine ac hF fc ?_
 cbv
 refine ⟨4, ?_⟩
 cbv
 exact Eb
 have c : o = false := Fb d
 have g := c; cbv at g; try rw [c]
 try rw [g]
 cbv
 refine ⟨0, ?_⟩
 cbv
 refine ⟨5, ?_⟩
 cbv
 refine ⟨3, ?_⟩
 cbv
 refine ⟨1, ?_⟩
 cbv
 refine ⟨4, ?_⟩
 cbv
 refine ⟨4, ?_⟩
 cbv
 exact Eb

theorem qe {k : Nat} {p0 : GOcc} {p1 : GOcc} {r : Bool} (hh : eg.f k p0 p1 = some r) : ai P 69 [.agg [iA p0.From, iA p0.To, tA (qInt p0.Ids)], .agg [iA p1.From, iA p1.To, tA (qInt p1.Ids)]] [hA, hA] (bA r) := by
 obtain ⟨p0a, p0b, p0c⟩ := p0
 obtain ⟨p1a, p1b, p1c⟩ := p1
 unfold eg.f at hh
 refine go (ts := [(4, none)]) (rm := [.own]) (pm := [.skip, .skip]) Tryz.func69 ?_
 unhygienic intros
 cbv
 replace hh := bind_some hh
 obtain ⟨c, b, hh⟩ := hh
 refine ac hF (iC hQ b) ?_
 cbv
 exact Eb

theorem gM {k : Nat} {g2 : GOcc → GOcc → Option Bool} (hg2 : ∀ {y0 : GOcc} {y1 : GOcc} {r : Bool}, g2 y0 y1 = some r → ai P 69 [.agg [iA y0.From, iA y0.To, tA (qInt y0.Ids)], .agg [iA y1.From, iA y1.To, tA (qInt y1.Ids)]] [hA, hA] (bA r)) {p0 : List GOcc} {p1 : List GOcc} {r : Bool} (hh : bq.f g2 k p0 p1 = some r) : ai P 68 [tA (qGOcc p0), tA (qGOcc p1), .clo 69 []] [hA, hA, hA] (bA r) := by
 unfold bq.f at hh
 refine go (ts := [(6, none)]) (rm := [.own]) (pm := [.skip, .skip, .skip]) Tryz.func68 ?_
 unhygienic intros
 cbv
 replace hh := az hh
 rcases hh with ⟨t, hh⟩ | ⟨t, hh⟩
 have d : (eq (cast (len (qGOcc p0))) (cast (len (qGOcc p1)))) = true := Tb t
 have g := d; cbv at g; try rw [d]
 try rw [g]
 cbv
 replace hh := bind_some hh
 obtain ⟨L, B, o⟩ := hh
 refine au hC eok mixed (bq.l0 k g2 p0 p1)
  (fun p => (⟨[(1, tA (qGOcc p1)), (2, .clo 69 []), (15, tA (qGOcc p0)), (16, iA (cast (len (qGOcc p0)))), (17, iA p)], []⟩ : St))
  (fun (_ : Unit) => (⟨[], []⟩ : St)) .ok (.exit 0)
  (i0 := _) B (fun _ => rfl) ?_ ?_ ?_
 ·rintro M e
  refine ah ?_
  cbv
  all_goals exact J1
 rintro _ hx
 subst L
 have hh := o
 cbv
 exact Eb
 rintro n p N O hh C D F
 unfold bq.l0 at hh
 cbv
 refine bcs (fun b => ?_) (fun b => ?_)
 replace hh := ifT hh b
 try rw [b]
 cbv
 replace hh := aa hh
 obtain ⟨G, hh⟩ := hh
 replace hh := bind_some hh
 obtain ⟨⟨u, v, w⟩, H, hh⟩ := hh
 try dsimp only at hh
 refine ⟨[iA u, iA v, tA (qInt w)], Nb G, Gb H, ?_⟩
 cbv
 replace hh := aa hh
 obtain ⟨I, hh⟩ := hh
 replace hh := bind_some hh
 obtain ⟨⟨y, z, A⟩, J, hh⟩ := hh
 try dsimp only at hh
 refine ⟨[iA y, iA z, tA (qInt A)], Nb I, Gb J, ?_⟩
 cbv
 replace hh := bind_some hh
 obtain ⟨s, K, hh⟩ := hh
 refine ac hF (hg2 K) ?_
 cbv
 replace hh := az hh
 rcases hh with ⟨j, hh⟩ | ⟨j, hh⟩
 have c : s = true := Tb j
 have g := c; cbv at g; try rw [c]
 try rw [g]
 cbv
 ·refine C _ _ hh fun M e => ?_
  refine ah ?_
  cbv
  all_goals exact J1
 have c : s = false := Fb j
 have g := c; cbv at g; try rw [c]
 try rw [g]
 cbv
 cases hh
 have hh : some _ = some _ := o
 refine F _ _ ?_
 cbv
 exact Eb
 replace hh := ifF hh b
 try rw [b]
 cbv
 ·refine D () _ hh fun _ e => ?_
  refine ah ?_
  cbv
  all_goals exact J0
 have d : (eq (cast (len (qGOcc p0))) (cast (len (qGOcc p1)))) = false := Fb t
 have g := d; cbv at g; try rw [d]
 try rw [g]
 cbv
 exact Eb

theorem rU {k : Nat} {p0 : List GOcc} {p1 : List GOcc} {r : Bool} (hh : ei.f k p0 p1 = some r) : ai P 26 [tA (qGOcc p0), tA (qGOcc p1)] [hA, hA] (bA r) := by
 unfold ei.f at hh
 refine go (ts := [(4, none)]) (rm := [.own]) (pm := [.skip, .skip]) Tryz.func26 ?_
 unhygienic intros
 cbv
 replace hh := bind_some hh
 obtain ⟨c, b, hh⟩ := hh
 refine ac hF (gM hQ (g2 := fun y0 y1 => eg.f k y0 y1) (fun h => qe hQ h) b) ?_
 cbv
 exact Eb
theorem mT {k : Nat} {p0 : List GOcc} {p1 : List GOcc} {r : Bool} (hh : ei.f k p0 p1 = some r) : ai P 26 [oA 3 (qGOcc p0), oA 3 (qGOcc p1)] [oA 3 (qGOcc p0), oA 3 (qGOcc p1)] (bA r) := by
  cases hQ; exact (rU .mk hh).lend (rfl) (.lend (congrArg A.tree (kE _).symm) (.lend (congrArg A.tree (kE _).symm) .nil))

theorem qj {k : Nat} {p0 : List GEv} {p1 : List GEv} {r : Bool} (hh : bY.f k p0 p1 = some r) : ai P 66 [tA (qGEv p0), tA (qGEv p1)] [hA, hA] (bA r) := by
 unfold bY.f at hh
 refine go (ts := [(4, none)]) (rm := [.own]) (pm := [.skip, .skip]) Tryz.func66 ?_
 unhygienic intros
 cbv
 replace hh := az hh
 rcases hh with ⟨F, hh⟩ | ⟨F, hh⟩
 have y : (eq (cast (len (qGEv p0))) (cast (len (qGEv p1)))) = true := Tb F
 have g := y; cbv at g; try rw [y]
 try rw [g]
 cbv
 replace hh := bind_some hh
 obtain ⟨N, G, w⟩ := hh
 refine au hC eok mixed (bY.l0 k p0 p1)
  (fun D => (⟨[(0, tA (qGEv p0)), (1, tA (qGEv p1)), (12, iA (cast (len (qGEv p0)))), (13, iA D)], []⟩ : St))
  (fun (_ : Unit) => (⟨[], []⟩ : St)) .ok (.exit 0)
  (i0 := _) G (fun _ => rfl) ?_ ?_ ?_
 ·rintro O e
  refine ah ?_
  cbv
  all_goals exact J1
 rintro _ hx
 subst N
 have hh := w
 cbv
 exact Eb
 rintro n D Q R hh H I z
 unfold bY.l0 at hh
 cbv
 refine bcs (fun b => ?_) (fun b => ?_)
 replace hh := ifT hh b
 try rw [b]
 cbv
 replace hh := aa hh
 obtain ⟨J, hh⟩ := hh
 replace hh := bind_some hh
 obtain ⟨⟨o, p, s⟩, K, hh⟩ := hh
 try dsimp only at hh
 refine ⟨[iA o, iA p, iA s], Nb J, Gb K, ?_⟩
 cbv
 replace hh := aa hh
 obtain ⟨L, hh⟩ := hh
 replace hh := bind_some hh
 obtain ⟨⟨t, u, v⟩, M, hh⟩ := hh
 try dsimp only at hh
 refine ⟨[iA t, iA u, iA v], Nb L, Gb M, ?_⟩
 cbv
 replace hh := az hh
 rcases hh with ⟨A, hh⟩ | ⟨A, hh⟩
 have c : (eq o t) = true := Tb A
 have g := c; cbv at g; try rw [c]
 try rw [g]
 cbv
 replace hh := az hh
 rcases hh with ⟨B, hh⟩ | ⟨B, hh⟩
 have d : (eq p u) = true := Tb B
 have g := d; cbv at g; try rw [d]
 try rw [g]
 cbv
 replace hh := az hh
 rcases hh with ⟨C, hh⟩ | ⟨C, hh⟩
 have j : (eq s v) = true := Tb C
 have g := j; cbv at g; try rw [j]
 try rw [g]
 cbv
 ·refine H _ _ hh fun O e => ?_
  refine ah ?_
  cbv
  all_goals exact J1
 have j : (eq s v) = false := Fb C
 have g := j; cbv at g; try rw [j]
 try rw [g]
 cbv
 cases hh
 have hh : some _ = some _ := w
 refine z _ _ ?_
 cbv
 exact Eb
 have d : (eq p u) = false := Fb B
 have g := d; cbv at g; try rw [d]
 try rw [g]
 cbv
 cases hh
 have hh : some _ = some _ := w
 refine z _ _ ?_
 cbv
 exact Eb
 have c : (eq o t) = false := Fb A
 have g := c; cbv at g; try rw [c]
 try rw [g]
 cbv
 cases hh
 have hh : some _ = some _ := w
 refine z _ _ ?_
 cbv
 exact Eb
 replace hh := ifF hh b
 try rw [b]
 cbv
 ·refine I () _ hh fun _ e => ?_
  refine ah ?_
  cbv
  all_goals exact J0
 have y : (eq (cast (len (qGEv p0))) (cast (len (qGEv p1)))) = false := Fb F
 have g := y; cbv at g; try rw [y]
 try rw [g]
 cbv
 exact Eb

theorem tC {k : Nat} {p0 : List GEv} {p1 : List GEv} {r : Bool} (hh : eI.f k p0 p1 = some r) : ai P 24 [tA (qGEv p0), tA (qGEv p1)] [hA, hA] (bA r) := by
 unfold eI.f at hh
 refine go (ts := [(4, none)]) (rm := [.own]) (pm := [.skip, .skip]) Tryz.func24 ?_
 unhygienic intros
 cbv
 replace hh := bind_some hh
 obtain ⟨c, b, hh⟩ := hh
 refine ac hF (qj hQ b) ?_
 cbv
 exact Eb
theorem oI {k : Nat} {p0 : List GEv} {p1 : List GEv} {r : Bool} (hh : eI.f k p0 p1 = some r) : ai P 24 [oA 3 (qGEv p0), oA 3 (qGEv p1)] [oA 3 (qGEv p0), oA 3 (qGEv p1)] (bA r) := by
  cases hQ; exact (tC .mk hh).lend (rfl) (.lend (congrArg A.tree (oj _).symm) (.lend (congrArg A.tree (oj _).symm) .nil))

end Go.Proofs.YtlbnmldopjadoaaGreat
