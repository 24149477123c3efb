/- The functions of this program do what the plain ones do. -/
import Derived.Test.YtlbnmldopjadoaaGreatC3
namespace Go.Proofs.YtlbnmldopjadoaaGreat
open Go Go.Vm
set_option linter.unusedVariables false
set_option maxHeartbeats 4000000
set_option maxRecDepth 4000
variable {qIu8 : List Int → Vm.Rows} {qGEx : List GEx → Vm.Rows} {qGRule : List GRule → Vm.Rows} {qStr : List ByteArray → Vm.Rows} {qInt : List Int → Vm.Rows} {qGExO : List GEx → Vm.Rows} {qGOcc : List GOcc → Vm.Rows} {qGNode : List GNode → Vm.Rows} {qGGraphS : List GGraph → Vm.Rows} {qGGraph : List GGraph → Vm.Rows} {qGEv : List GEv → Vm.Rows} {qGFire : List GFire → Vm.Rows} {qLGOcc : List (List GOcc) → Vm.Rows} {qGOccO : List GOcc → Vm.Rows} {qLInt : List (List Int) → Vm.Rows} (hQ : EQ qIu8 qGEx qGRule qStr qInt qGExO qGOcc qGNode qGGraphS qGGraph qGEv qGFire qLGOcc qGOccO qLInt)
include hQ
theorem lT {k : Nat} {p0 : GGraph} {p1 : Int} {r : (List GOcc) × GGraph} (hh : aj.f k p0 p1 = some r) : ah P 130 [.obox [iA p0.Mode, oA 10 (qGNode p0.Nodes), iA p0.Seen, iA p0.Now, bA p0.Full], iA p1, .lit (.pointer none)] [.obox [iA r.2.Mode, oA 10 (qGNode r.2.Nodes), iA r.2.Seen, iA r.2.Now, bA r.2.Full], hA, hA] (tA (qGOcc r.1)) := by
 obtain ⟨p0a, p0b, p0c, p0d, p0e⟩ := p0
 unfold aj.f at hh
 refine goG (g := []) (i := [185]) (o := [216]) (sh := []) (ts := [(6, none)]) (rm := [.val]) (pm := [.own, .skip, .skip]) Tryz.func130 ?_
 intro Fn LW IN len cast toNat wrap add sub mul bin lt eq At set part app fz' rep nadd nmax ssize sext sget scat seq slt Wide Flat Ones Room r' post' hC hF hr hp
 cbv
 replace hh := bind_some hh
 obtain ⟨o1, EL, EM⟩ := hh
 refine au hC (co [] [185] [216]) mixed (fun n (i : (List GNode) × Bool × (List (List GOcc)) × Int) => aj.l1 k (⟨p0a, p0b, p0c, p0d, p0e⟩ : GGraph) p1 n i.1 i.2.1 i.2.2.1 i.2.2.2)
  (fun ⟨B, D, A, z⟩ => (⟨[(0, .mptr (0, 0) 1 0 0), (1, iA p1), (2, .lit (.pointer none)), (7, .ref (7, 50) 1 0 (len (qLGOcc A))), (15, iA (cast (len (qGNode p0b)))), (16, iA z), (1000000, .mptr (0, 0) 1 0 0)], [((0, 0), .box 1 [iA p0a, .ref (14, 0) 1 0 (len (qGNode B)), iA p0c, iA p0d, bA D]), ((7, 50), .arr 1 1 (qLGOcc A)), ((14, 0), .arr 1 10 (qGNode B))]⟩ : St))
  (fun (⟨CE, CF, CI⟩ : (List (List GOcc)) × (List GNode) × Bool) => (⟨[(7, .ref (7, 50) 1 0 (len (qLGOcc CE))), (1000000, .mptr (0, 0) 1 0 0)], [((0, 0), .box 1 [iA p0a, .ref (14, 0) 1 0 (len (qGNode CF)), iA p0c, iA p0d, bA CI]), ((7, 50), .arr 1 1 (qLGOcc CE)), ((14, 0), .arr 1 10 (qGNode CF))]⟩ : St)) (fun x => x) (.exit 0)
  (i0 := (_, _, _, _)) EL (fun _ => rfl) ?_ ?_ ?_
 ·rintro ⟨F, G, R, T⟩ e
  refine aw [((0, 0), (0, 0)), ((14, 0), (14, 0))] ?_
  cbv
  all_goals exact J4
 rintro ⟨CE, CF, CI⟩ hx
 subst o1
 have hh := EM
 cbv
 replace hh := aa hh
 obtain ⟨C2, hh⟩ := hh
 replace hh := aa hh
 obtain ⟨C3, hh⟩ := hh
 refine ⟨Nb C2, Mb C3, ?_⟩
 replace hh := bind_some hh
 obtain ⟨C4, C5, hh⟩ := hh
 refine ⟨[tA (qGOcc C4)], Gb C5, ?_⟩
 cbv
 exact Eb
 rintro n ⟨B, D, A, z⟩ N1 D1 hh C EN EZ
 try dsimp only at hh
 unfold aj.l1 at hh
 cbv
 refine bcs (fun U => ?_) (fun U => ?_)
 replace hh := ifT hh U
 try rw [U]
 cbv
 replace hh := aa hh
 obtain ⟨C6, hh⟩ := hh
 replace hh := aa hh
 obtain ⟨C7, hh⟩ := hh
 refine ⟨Nb C6, Mb C7, ?_⟩
 refine yP hC (co [] [185] [216]) mixed (ts := [(10, none)]) (⟨[(0, .mptr (1014, 0) 1 (nadd 0 (toNat z)) 0), (1, .mptr (1000, 0) 1 0 0), (2, iA p1), (3, .lit (.pointer none)), (4, .ref (1007, 50) 1 0 (len (qLGOcc A))), (2000000, .mptr (1000, 0) 1 0 0), (2000001, iA p1), (2000002, .lit (.pointer none)), (2000007, .ref (1007, 50) 1 0 (len (qLGOcc A))), (2000009, .mptr (1014, 0) 1 (nadd 0 (toNat z)) 0), (2000015, iA (cast (len (qGNode p0b)))), (2000016, iA z), (3000000, .mptr (1000, 0) 1 0 0)], [((1000, 0), .box 1 [iA p0a, .ref (1014, 0) 1 0 (len (qGNode B)), iA p0c, iA p0d, bA D]), ((1007, 50), .arr 1 1 (qLGOcc A)), ((1014, 0), .arr 1 10 (qGNode B))]⟩ : St) Tryz.func185 (by kernel_rfl) (by kernel_rfl) ?_ ?_
 ·refine aw [((1000, 0), (0, 0)), ((1007, 50), (7, 50)), ((1014, 0), (14, 0))] ?_
  cbv
  all_goals exact Zb
 cbv
 replace hh := bind_some hh
 obtain ⟨⟨b, c, d, j, ⟨u, v⟩, ⟨w, y⟩, t, p⟩, s, hh⟩ := hh
 try dsimp only at hh
 refine ⟨[iA b, iA c, iA d, tA (qInt j), tA (qGOcc u), tA (qGOcc v), tA (qGOcc w), tA (qGOcc y), tA (qGOcc t), iA p], Gb s, ?_⟩
 cbv
 refine bcs (fun V => ?_) (fun V => ?_)
 replace hh := ifT hh V
 try rw [V]
 cbv
 refine ⟨⟨(⟨[(0, .mptr (0, 0) 1 0 0), (1, iA p1), (2, .lit (.pointer none)), (7, .ref (7, 50) 1 0 (len (qLGOcc A))), (9, .mptr (14, 0) 1 (nadd 0 (toNat z)) 0), (15, iA (cast (len (qGNode p0b)))), (16, iA z), (30, .lit (.slice none 0 0)), (1000000, .mptr (0, 0) 1 0 0)], [((0, 0), .box 1 [iA p0a, .ref (14, 0) 1 0 (len (qGNode B)), iA p0c, iA p0d, bA D]), ((7, 50), .arr 1 1 (qLGOcc A)), ((14, 0), .arr 1 10 (qGNode B))]⟩ : St), ?_, ?_⟩, trivial⟩
 ·refine aw [((0, 0), (1000, 0)), ((7, 50), (1007, 50)), ((14, 0), (1014, 0))] ?_
  cbv
  all_goals exact Zb
 cbv
 refine ⟨none, ?_⟩; try cbv
 replace hh := aa hh
 obtain ⟨C8, hh⟩ := hh
 refine ⟨⟨Ob, Ab⟩, ?_⟩
 refine ⟨⟨Ob, Wb C8⟩, ?_⟩
 refine ⟨[iA b, iA c, iA d, tA (qInt j), tA (qGOcc u), tA (qGOcc v), tA (qGOcc w), tA (qGOcc y), tA (qGOcc t), iA p], Gb s, ?_⟩
 cbv
 refine ⟨[iA b, iA c, iA d, tA (qInt j), tA (qGOcc u), tA (qGOcc v), tA (qGOcc w), tA (qGOcc y), tA (qGOcc t), iA p], Gb s, ?_⟩
 cbv
 refine bcs (fun W => ?_) (fun W => ?_)
 replace hh := ifT hh W
 try rw [W]
 cbv
 ·refine C (_, _, _, _) _ hh fun ⟨F, G, R, T⟩ e => ?_
  refine aw [((0, 0), (0, 0)), ((7, 50), (34, 0)), ((14, 0), (14, 0))] ?_
  cbv
  all_goals exact J4
 replace hh := ifF hh W
 try rw [W]
 cbv
 refine ⟨[iA b, iA c, iA d, tA (qInt j), tA (qGOcc u), tA (qGOcc v), tA (qGOcc w), tA (qGOcc y), tA (qGOcc t), iA (wrap .i64 (add p 0))], Gb2 s ((List.getElem?_eq_some_iff.1 s).1), ?_⟩
 cbv
 ·refine C (_, _, _, _) _ hh fun ⟨F, G, R, T⟩ e => ?_
  refine aw [((0, 0), (0, 0)), ((7, 50), (34, 0)), ((14, 0), (14, 0))] ?_
  cbv
  all_goals exact J4
 replace hh := ifF hh V
 try rw [V]
 cbv
 refine bcs (fun X => ?_) (fun X => ?_)
 replace hh := ifT hh X
 try rw [X]
 cbv
 replace hh := aa hh
 obtain ⟨C9, hh⟩ := hh
 replace hh := bind_some hh
 obtain ⟨Da, Db, hh⟩ := hh
 replace hh := aa hh
 obtain ⟨Dc, hh⟩ := hh
 replace hh := aa hh
 obtain ⟨Dd, hh⟩ := hh
 replace hh := bind_some hh
 obtain ⟨CJ, De, hh⟩ := hh
 refine ⟨[(5, 0), (9, 0), (1007, 50), (1014, 0)], ?_⟩
 cbv
 refine ⟨tA (qGOcc CJ), ?_, ?_⟩
 ·refine c9 hC (co [] [185] [216]) mixed (ts := [(4, none)]) Tryz.func216 (by kernel_rfl) (by kernel_rfl) ?_
  intro S N
  cbv
  refine ⟨[iA b, iA c, iA d, tA (qInt j), tA (qGOcc u), tA (qGOcc v), tA (qGOcc w), tA (qGOcc y), tA (qGOcc t), iA p], Gb s, ?_⟩
  cbv
  refine ⟨[iA Da], Nb C9, Gb Db, ?_⟩
  cbv
  refine ⟨Nb Dc, Mb Dd, ?_⟩
  refine ⟨[tA (qGOcc CJ)], Gb De, ?_⟩
  cbv
  exact Rb
 cbv
 replace hh := aa hh
 obtain ⟨Df, hh⟩ := hh
 replace hh := bind_some hh
 obtain ⟨Dg, Dh, hh⟩ := hh
 replace hh := aa hh
 obtain ⟨Di, hh⟩ := hh
 replace hh := aa hh
 obtain ⟨Dj, hh⟩ := hh
 replace hh := bind_some hh
 obtain ⟨CK, Dk, hh⟩ := hh
 refine ⟨[(5, 0), (9, 0), (1007, 50), (1014, 0)], ?_⟩
 cbv
 refine ⟨tA (qGOcc CK), ?_, ?_⟩
 ·refine c9 hC (co [] [185] [216]) mixed (ts := [(4, none)]) Tryz.func216 (by kernel_rfl) (by kernel_rfl) ?_
  intro S N
  cbv
  refine ⟨[iA b, iA c, iA d, tA (qInt j), tA (qGOcc u), tA (qGOcc v), tA (qGOcc w), tA (qGOcc y), tA (qGOcc t), iA p], Gb s, ?_⟩
  cbv
  refine ⟨[iA Dg], Nb Df, Gb Dh, ?_⟩
  cbv
  refine ⟨Nb Di, Mb Dj, ?_⟩
  refine ⟨[tA (qGOcc CK)], Gb Dk, ?_⟩
  cbv
  exact Rb
 cbv
 replace hh := bind_some hh
 obtain ⟨CL, Dl, hh⟩ := hh
 refine ac hF (ce hQ Dl) ?_
 cbv
 refine ⟨⟨(⟨[(0, .mptr (0, 0) 1 0 0), (1, iA p1), (2, .lit (.pointer none)), (7, .ref (7, 50) 1 0 (len (qLGOcc A))), (9, .mptr (14, 0) 1 (nadd 0 (toNat z)) 0), (15, iA (cast (len (qGNode p0b)))), (16, iA z), (30, tA (qGOcc CL)), (1000000, .mptr (0, 0) 1 0 0)], [((0, 0), .box 1 [iA p0a, .ref (14, 0) 1 0 (len (qGNode B)), iA p0c, iA p0d, bA D]), ((7, 50), .arr 1 1 (qLGOcc A)), ((14, 0), .arr 1 10 (qGNode B))]⟩ : St), ?_, ?_⟩, trivial⟩
 ·refine aw [((0, 0), (1000, 0)), ((7, 50), (1007, 50)), ((14, 0), (1014, 0))] ?_
  cbv
  all_goals exact Zb
 cbv
 replace hh := aa hh
 obtain ⟨Dm, hh⟩ := hh
 refine ⟨⟨Ob, Ab⟩, ?_⟩
 refine ⟨⟨Ob, Wb Dm⟩, ?_⟩
 refine ⟨[iA b, iA c, iA d, tA (qInt j), tA (qGOcc u), tA (qGOcc v), tA (qGOcc w), tA (qGOcc y), tA (qGOcc t), iA p], Gb s, ?_⟩
 cbv
 refine ⟨[iA b, iA c, iA d, tA (qInt j), tA (qGOcc u), tA (qGOcc v), tA (qGOcc w), tA (qGOcc y), tA (qGOcc t), iA p], Gb s, ?_⟩
 cbv
 refine bcs (fun Y => ?_) (fun Y => ?_)
 replace hh := ifT hh Y
 try rw [Y]
 cbv
 ·refine C (_, _, _, _) _ hh fun ⟨F, G, R, T⟩ e => ?_
  refine aw [((0, 0), (0, 0)), ((7, 50), (34, 0)), ((14, 0), (14, 0))] ?_
  cbv
  all_goals exact J4
 replace hh := ifF hh Y
 try rw [Y]
 cbv
 refine ⟨[iA b, iA c, iA d, tA (qInt j), tA (qGOcc u), tA (qGOcc v), tA (qGOcc w), tA (qGOcc y), tA (qGOcc t), iA (wrap .i64 (add p (cast (len (qGOcc CL)))))], Gb2 s ((List.getElem?_eq_some_iff.1 s).1), ?_⟩
 cbv
 ·refine C (_, _, _, _) _ hh fun ⟨F, G, R, T⟩ e => ?_
  refine aw [((0, 0), (0, 0)), ((7, 50), (34, 0)), ((14, 0), (14, 0))] ?_
  cbv
  all_goals exact J4
 replace hh := ifF hh X
 try rw [X]
 cbv
 refine bcs (fun Z => ?_) (fun Z => ?_)
 replace hh := ifT hh Z
 try rw [Z]
 cbv
 refine ⟨[iA b, iA c, iA d, tA (qInt j), tA (qGOcc u), tA (qGOcc v), tA (qGOcc w), tA (qGOcc y), tA (qGOcc t), iA p], Gb s, ?_⟩
 cbv
 replace hh := aa hh
 obtain ⟨Dn, hh⟩ := hh
 replace hh := bind_some hh
 obtain ⟨Do, Dp, hh⟩ := hh
 replace hh := aa hh
 obtain ⟨Dq, hh⟩ := hh
 replace hh := aa hh
 obtain ⟨Dr, hh⟩ := hh
 replace hh := bind_some hh
 obtain ⟨CM, Ds, hh⟩ := hh
 refine ⟨[(5, 0), (9, 0), (1007, 50), (1014, 0)], ?_⟩
 cbv
 refine ⟨tA (qGOcc CM), ?_, ?_⟩
 ·refine c9 hC (co [] [185] [216]) mixed (ts := [(4, none)]) Tryz.func216 (by kernel_rfl) (by kernel_rfl) ?_
  intro S N
  cbv
  refine ⟨[iA b, iA c, iA d, tA (qInt j), tA (qGOcc u), tA (qGOcc v), tA (qGOcc w), tA (qGOcc y), tA (qGOcc t), iA p], Gb s, ?_⟩
  cbv
  refine ⟨[iA Do], Nb Dn, Gb Dp, ?_⟩
  cbv
  refine ⟨Nb Dq, Mb Dr, ?_⟩
  refine ⟨[tA (qGOcc CM)], Gb Ds, ?_⟩
  cbv
  exact Rb
 cbv
 replace hh := aa hh
 obtain ⟨Dt, hh⟩ := hh
 replace hh := bind_some hh
 obtain ⟨Du, Dv, hh⟩ := hh
 replace hh := aa hh
 obtain ⟨Dw, hh⟩ := hh
 replace hh := aa hh
 obtain ⟨Dx, hh⟩ := hh
 replace hh := bind_some hh
 obtain ⟨CN, Dy, hh⟩ := hh
 refine ⟨[(5, 0), (9, 0), (1007, 50), (1014, 0)], ?_⟩
 cbv
 refine ⟨tA (qGOcc CN), ?_, ?_⟩
 ·refine c9 hC (co [] [185] [216]) mixed (ts := [(4, none)]) Tryz.func216 (by kernel_rfl) (by kernel_rfl) ?_
  intro S N
  cbv
  refine ⟨[iA b, iA c, iA d, tA (qInt j), tA (qGOcc u), tA (qGOcc v), tA (qGOcc w), tA (qGOcc y), tA (qGOcc t), iA p], Gb s, ?_⟩
  cbv
  refine ⟨[iA Du], Nb Dt, Gb Dv, ?_⟩
  cbv
  refine ⟨Nb Dw, Mb Dx, ?_⟩
  refine ⟨[tA (qGOcc CN)], Gb Dy, ?_⟩
  cbv
  exact Rb
 cbv
 replace hh := bind_some hh
 obtain ⟨⟨⟨H, I⟩, CA⟩, Dz, hh⟩ := hh
 try dsimp only at hh
 have fc := l9 hQ Dz
 try dsimp only at fc
 refine ac hF fc ?_
 cbv
 refine ⟨[iA b, iA c, iA d, tA (qInt j), tA (qGOcc u), tA (qGOcc v), tA (qGOcc w), tA (qGOcc y), tA (qGOcc t), iA p], Gb s, ?_⟩
 cbv
 refine ⟨⟨(⟨[(0, .mptr (0, 0) 1 0 0), (1, iA p1), (2, .lit (.pointer none)), (7, .ref (7, 50) 1 0 (len (qLGOcc A))), (9, .mptr (14, 0) 1 (nadd 0 (toNat z)) 0), (15, iA (cast (len (qGNode p0b)))), (16, iA z), (30, tA (qGOcc CA)), (1000000, .mptr (0, 0) 1 0 0)], [((0, 0), .box 1 [iA p0a, .ref (14, 0) 1 0 (len (qGNode B)), iA p0c, iA p0d, bA D]), ((7, 50), .arr 1 1 (qLGOcc A)), ((14, 0), .arr 1 10 (set (qGNode B) (nadd 0 (toNat z)) [iA b, iA c, iA d, tA (qInt j), tA (qGOcc H), tA (qGOcc I), tA (qGOcc w), tA (qGOcc y), tA (qGOcc t), iA p]))]⟩ : St), ?_, ?_⟩, trivial⟩
 ·refine aw [((0, 0), (1000, 0)), ((7, 50), (1007, 50)), ((14, 0), (1014, 0))] ?_
  cbv
  all_goals exact Zb
 cbv
 replace hh := aa hh
 obtain ⟨DA, hh⟩ := hh
 refine ⟨⟨Ob, Ab⟩, ?_⟩
 refine ⟨⟨Ob, Wb DA⟩, ?_⟩
 refine ⟨[iA b, iA c, iA d, tA (qInt j), tA (qGOcc H), tA (qGOcc I), tA (qGOcc w), tA (qGOcc y), tA (qGOcc t), iA p], Gb2 s ((List.getElem?_eq_some_iff.1 s).1), ?_⟩
 cbv
 refine ⟨[iA b, iA c, iA d, tA (qInt j), tA (qGOcc H), tA (qGOcc I), tA (qGOcc w), tA (qGOcc y), tA (qGOcc t), iA p], Gb2 s ((List.getElem?_eq_some_iff.1 s).1), ?_⟩
 cbv
 refine bcs (fun dj => ?_) (fun dj => ?_)
 replace hh := ifT hh dj
 try rw [dj]
 cbv
 ·refine C (_, _, _, _) _ hh fun ⟨F, G, R, T⟩ e => ?_
  refine aw [((0, 0), (0, 0)), ((7, 50), (34, 0)), ((14, 0), (14, 0))] ?_
  cbv
  all_goals exact J4
 replace hh := ifF hh dj
 try rw [dj]
 cbv
 refine ⟨[iA b, iA c, iA d, tA (qInt j), tA (qGOcc H), tA (qGOcc I), tA (qGOcc w), tA (qGOcc y), tA (qGOcc t), iA (wrap .i64 (add p (cast (len (qGOcc CA)))))], Gb2 s ((List.getElem?_eq_some_iff.1 s).1), ?_⟩
 cbv
 ·refine C (_, _, _, _) _ hh fun ⟨F, G, R, T⟩ e => ?_
  refine aw [((0, 0), (0, 0)), ((7, 50), (34, 0)), ((14, 0), (14, 0))] ?_
  cbv
  all_goals exact J4
 replace hh := ifF hh Z
 try rw [Z]
 cbv
 refine bcs (fun xm => ?_) (fun xm => ?_)
 replace hh := ifT hh xm
 try rw [xm]
 cbv
 refine ⟨[iA b, iA c, iA d, tA (qInt j), tA (qGOcc u), tA (qGOcc v), tA (qGOcc w), tA (qGOcc y), tA (qGOcc t), iA p], Gb s, ?_⟩
 cbv
 replace hh := aa hh
 obtain ⟨DB, hh⟩ := hh
 replace hh := bind_some hh
 obtain ⟨DC, DD, hh⟩ := hh
 replace hh := aa hh
 obtain ⟨DE, hh⟩ := hh
 replace hh := aa hh
 obtain ⟨DF, hh⟩ := hh
 replace hh := bind_some hh
 obtain ⟨CO, DG, hh⟩ := hh
 refine ⟨[(5, 0), (9, 0), (1007, 50), (1014, 0)], ?_⟩
 cbv
 refine ⟨tA (qGOcc CO), ?_, ?_⟩
 ·refine c9 hC (co [] [185] [216]) mixed (ts := [(4, none)]) Tryz.func216 (by kernel_rfl) (by kernel_rfl) ?_
  intro S N
  cbv
  refine ⟨[iA b, iA c, iA d, tA (qInt j), tA (qGOcc u), tA (qGOcc v), tA (qGOcc w), tA (qGOcc y), tA (qGOcc t), iA p], Gb s, ?_⟩
  cbv
  refine ⟨[iA DC], Nb DB, Gb DD, ?_⟩
  cbv
  refine ⟨Nb DE, Mb DF, ?_⟩
  refine ⟨[tA (qGOcc CO)], Gb DG, ?_⟩
  cbv
  exact Rb
 cbv
 replace hh := aa hh
 obtain ⟨DH, hh⟩ := hh
 replace hh := bind_some hh
 obtain ⟨DI, DJ, hh⟩ := hh
 replace hh := aa hh
 obtain ⟨DK, hh⟩ := hh
 replace hh := aa hh
 obtain ⟨DL, hh⟩ := hh
 replace hh := bind_some hh
 obtain ⟨CP, DM, hh⟩ := hh
 refine ⟨[(5, 0), (9, 0), (1007, 50), (1014, 0)], ?_⟩
 cbv
 refine ⟨tA (qGOcc CP), ?_, ?_⟩
 ·refine c9 hC (co [] [185] [216]) mixed (ts := [(4, none)]) Tryz.func216 (by kernel_rfl) (by kernel_rfl) ?_
  intro S N
  cbv
  refine ⟨[iA b, iA c, iA d, tA (qInt j), tA (qGOcc u), tA (qGOcc v), tA (qGOcc w), tA (qGOcc y), tA (qGOcc t), iA p], Gb s, ?_⟩
  cbv
  refine ⟨[iA DI], Nb DH, Gb DJ, ?_⟩
  cbv
  refine ⟨Nb DK, Mb DL, ?_⟩
  refine ⟨[tA (qGOcc CP)], Gb DM, ?_⟩
  cbv
  exact Rb
 cbv
 replace hh := bind_some hh
 obtain ⟨⟨⟨J, K⟩, CB⟩, DN, hh⟩ := hh
 try dsimp only at hh
 have fc := mg hQ DN
 try dsimp only at fc
 refine ac hF fc ?_
 cbv
 refine ⟨[iA b, iA c, iA d, tA (qInt j), tA (qGOcc u), tA (qGOcc v), tA (qGOcc w), tA (qGOcc y), tA (qGOcc t), iA p], Gb s, ?_⟩
 cbv
 refine ⟨⟨(⟨[(0, .mptr (0, 0) 1 0 0), (1, iA p1), (2, .lit (.pointer none)), (7, .ref (7, 50) 1 0 (len (qLGOcc A))), (9, .mptr (14, 0) 1 (nadd 0 (toNat z)) 0), (15, iA (cast (len (qGNode p0b)))), (16, iA z), (30, tA (qGOcc CB)), (1000000, .mptr (0, 0) 1 0 0)], [((0, 0), .box 1 [iA p0a, .ref (14, 0) 1 0 (len (qGNode B)), iA p0c, iA p0d, bA D]), ((7, 50), .arr 1 1 (qLGOcc A)), ((14, 0), .arr 1 10 (set (qGNode B) (nadd 0 (toNat z)) [iA b, iA c, iA d, tA (qInt j), tA (qGOcc J), tA (qGOcc K), tA (qGOcc w), tA (qGOcc y), tA (qGOcc t), iA p]))]⟩ : St), ?_, ?_⟩, trivial⟩
 ·refine aw [((0, 0), (1000, 0)), ((7, 50), (1007, 50)), ((14, 0), (1014, 0))] ?_
  cbv
  all_goals exact Zb
 cbv
 replace hh := aa hh
 obtain ⟨DO, hh⟩ := hh
 refine ⟨⟨Ob, Ab⟩, ?_⟩
 refine ⟨⟨Ob, Wb DO⟩, ?_⟩
 refine ⟨[iA b, iA c, iA d, tA (qInt j), tA (qGOcc J), tA (qGOcc K), tA (qGOcc w), tA (qGOcc y), tA (qGOcc t), iA p], Gb2 s ((List.getElem?_eq_some_iff.1 s).1), ?_⟩
 cbv
 refine ⟨[iA b, iA c, iA d, tA (qInt j), tA (qGOcc J), tA (qGOcc K), tA (qGOcc w), tA (qGOcc y), tA (qGOcc t), iA p], Gb2 s ((List.getElem?_eq_some_iff.1 s).1), ?_⟩
 cbv
 refine bcs (fun AU => ?_) (fun AU => ?_)
 replace hh := ifT hh AU
 try rw [AU]
 cbv
 ·refine C (_, _, _, _) _ hh fun ⟨F, G, R, T⟩ e => ?_
  refine aw [((0, 0), (0, 0)), ((7, 50), (34, 0)), ((14, 0), (14, 0))] ?_
  cbv
  all_goals exact J4
 replace hh := ifF hh AU
 try rw [AU]
 cbv
 refine ⟨[iA b, iA c, iA d, tA (qInt j), tA (qGOcc J), tA (qGOcc K), tA (qGOcc w), tA (qGOcc y), tA (qGOcc t), iA (wrap .i64 (add p (cast (len (qGOcc CB)))))], Gb2 s ((List.getElem?_eq_some_iff.1 s).1), ?_⟩
 cbv
 ·refine C (_, _, _, _) _ hh fun ⟨F, G, R, T⟩ e => ?_
  refine aw [((0, 0), (0, 0)), ((7, 50), (34, 0)), ((14, 0), (14, 0))] ?_
  cbv
  all_goals exact J4
 replace hh := ifF hh xm
 try rw [xm]
 cbv
 refine bcs (fun Bz => ?_) (fun Bz => ?_)
 replace hh := ifT hh Bz
 try rw [Bz]
 cbv
 refine ⟨[iA b, iA c, iA d, tA (qInt j), tA (qGOcc u), tA (qGOcc v), tA (qGOcc w), tA (qGOcc y), tA (qGOcc t), iA p], Gb s, ?_⟩
 cbv
 replace hh := aa hh
 obtain ⟨DP, hh⟩ := hh
 replace hh := bind_some hh
 obtain ⟨DQ, DR, hh⟩ := hh
 replace hh := aa hh
 obtain ⟨DS, hh⟩ := hh
 replace hh := aa hh
 obtain ⟨DT, hh⟩ := hh
 replace hh := bind_some hh
 obtain ⟨CQ, DU, hh⟩ := hh
 refine ⟨[(5, 0), (9, 0), (1007, 50), (1014, 0)], ?_⟩
 cbv
 refine ⟨tA (qGOcc CQ), ?_, ?_⟩
 ·refine c9 hC (co [] [185] [216]) mixed (ts := [(4, none)]) Tryz.func216 (by kernel_rfl) (by kernel_rfl) ?_
  intro S N
  cbv
  refine ⟨[iA b, iA c, iA d, tA (qInt j), tA (qGOcc u), tA (qGOcc v), tA (qGOcc w), tA (qGOcc y), tA (qGOcc t), iA p], Gb s, ?_⟩
  cbv
  refine ⟨[iA DQ], Nb DP, Gb DR, ?_⟩
  cbv
  refine ⟨Nb DS, Mb DT, ?_⟩
  refine ⟨[tA (qGOcc CQ)], Gb DU, ?_⟩
  cbv
  exact Rb
 cbv
 replace hh := aa hh
 obtain ⟨DV, hh⟩ := hh
 replace hh := bind_some hh
 obtain ⟨DW, DX, hh⟩ := hh
 replace hh := aa hh
 obtain ⟨DY, hh⟩ := hh
 replace hh := aa hh
 obtain ⟨DZ, hh⟩ := hh
 replace hh := bind_some hh
 obtain ⟨CS, D0, hh⟩ := hh
 refine ⟨[(5, 0), (9, 0), (1007, 50), (1014, 0)], ?_⟩
 cbv
 refine ⟨tA (qGOcc CS), ?_, ?_⟩
 ·refine c9 hC (co [] [185] [216]) mixed (ts := [(4, none)]) Tryz.func216 (by kernel_rfl) (by kernel_rfl) ?_
  intro S N
  cbv
  refine ⟨[iA b, iA c, iA d, tA (qInt j), tA (qGOcc u), tA (qGOcc v), tA (qGOcc w), tA (qGOcc y), tA (qGOcc t), iA p], Gb s, ?_⟩
  cbv
  refine ⟨[iA DW], Nb DV, Gb DX, ?_⟩
  cbv
  refine ⟨Nb DY, Mb DZ, ?_⟩
  refine ⟨[tA (qGOcc CS)], Gb D0, ?_⟩
  cbv
  exact Rb
 cbv
 replace hh := aa hh
 obtain ⟨D3, hh⟩ := hh
 replace hh := bind_some hh
 obtain ⟨D4, D5, hh⟩ := hh
 replace hh := aa hh
 obtain ⟨D6, hh⟩ := hh
 replace hh := aa hh
 obtain ⟨D7, hh⟩ := hh
 replace hh := bind_some hh
 obtain ⟨CT, D8, hh⟩ := hh
 refine ⟨[(5, 0), (9, 0), (1007, 50), (1014, 0)], ?_⟩
 cbv
 refine ⟨tA (qGOcc CT), ?_, ?_⟩
 ·refine c9 hC (co [] [185] [216]) mixed (ts := [(4, none)]) Tryz.func216 (by kernel_rfl) (by kernel_rfl) ?_
  intro S N
  cbv
  refine ⟨[iA b, iA c, iA d, tA (qInt j), tA (qGOcc u), tA (qGOcc v), tA (qGOcc w), tA (qGOcc y), tA (qGOcc t), iA p], Gb s, ?_⟩
  cbv
  refine ⟨[iA D4], Nb D3, Gb D5, ?_⟩
  cbv
  refine ⟨Nb D6, Mb D7, ?_⟩
  refine ⟨[tA (qGOcc CT)], Gb D8, ?_⟩
  cbv
  exact Rb
 cbv
 replace hh := bind_some hh
 obtain ⟨⟨⟨L, M⟩, CC⟩, D9, hh⟩ := hh
 try dsimp only at hh
 have fc := mh hQ D9
 try dsimp only at fc
 refine ac hF fc ?_
 cbv
 refine ⟨[iA b, iA c, iA d, tA (qInt j), tA (qGOcc u), tA (qGOcc v), tA (qGOcc w), tA (qGOcc y), tA (qGOcc t), iA p], Gb s, ?_⟩
 cbv
 refine ⟨⟨(⟨[(0, .mptr (0, 0) 1 0 0), (1, iA p1), (2, .lit (.pointer none)), (7, .ref (7, 50) 1 0 (len (qLGOcc A))), (9, .mptr (14, 0) 1 (nadd 0 (toNat z)) 0), (15, iA (cast (len (qGNode p0b)))), (16, iA z), (30, tA (qGOcc CC)), (1000000, .mptr (0, 0) 1 0 0)], [((0, 0), .box 1 [iA p0a, .ref (14, 0) 1 0 (len (qGNode B)), iA p0c, iA p0d, bA D]), ((7, 50), .arr 1 1 (qLGOcc A)), ((14, 0), .arr 1 10 (set (qGNode B) (nadd 0 (toNat z)) [iA b, iA c, iA d, tA (qInt j), tA (qGOcc u), tA (qGOcc v), tA (qGOcc L), tA (qGOcc M), tA (qGOcc t), iA p]))]⟩ : St), ?_, ?_⟩, trivial⟩
 ·refine aw [((0, 0), (1000, 0)), ((7, 50), (1007, 50)), ((14, 0), (1014, 0))] ?_
  cbv
  all_goals exact Zb
 cbv
 replace hh := aa hh
 obtain ⟨Ea, hh⟩ := hh
 refine ⟨⟨Ob, Ab⟩, ?_⟩
 refine ⟨⟨Ob, Wb Ea⟩, ?_⟩
 refine ⟨[iA b, iA c, iA d, tA (qInt j), tA (qGOcc u), tA (qGOcc v), tA (qGOcc L), tA (qGOcc M), tA (qGOcc t), iA p], Gb2 s ((List.getElem?_eq_some_iff.1 s).1), ?_⟩
 cbv
 refine ⟨[iA b, iA c, iA d, tA (qInt j), tA (qGOcc u), tA (qGOcc v), tA (qGOcc L), tA (qGOcc M), tA (qGOcc t), iA p], Gb2 s ((List.getElem?_eq_some_iff.1 s).1), ?_⟩
 cbv
 refine bcs (fun BB => ?_) (fun BB => ?_)
 replace hh := ifT hh BB
 try rw [BB]
 cbv
 ·refine C (_, _, _, _) _ hh fun ⟨F, G, R, T⟩ e => ?_
  refine aw [((0, 0), (0, 0)), ((7, 50), (34, 0)), ((14, 0), (14, 0))] ?_
  cbv
  all_goals exact J4
 replace hh := ifF hh BB
 try rw [BB]
 cbv
 refine ⟨[iA b, iA c, iA d, tA (qInt j), tA (qGOcc u), tA (qGOcc v), tA (qGOcc L), tA (qGOcc M), tA (qGOcc t), iA (wrap .i64 (add p (cast (len (qGOcc CC)))))], Gb2 s ((List.getElem?_eq_some_iff.1 s).1), ?_⟩
 cbv
 ·refine C (_, _, _, _) _ hh fun ⟨F, G, R, T⟩ e => ?_
  refine aw [((0, 0), (0, 0)), ((7, 50), (34, 0)), ((14, 0), (14, 0))] ?_
  cbv
  all_goals exact J4
 replace hh := ifF hh Bz
 try rw [Bz]
 cbv
 refine bcs (fun BL => ?_) (fun BL => ?_)
 replace hh := ifT hh BL
 try rw [BL]
 cbv
 refine ⟨[iA b, iA c, iA d, tA (qInt j), tA (qGOcc u), tA (qGOcc v), tA (qGOcc w), tA (qGOcc y), tA (qGOcc t), iA p], Gb s, ?_⟩
 cbv
 replace hh := aa hh
 obtain ⟨Ec, hh⟩ := hh
 replace hh := bind_some hh
 obtain ⟨Ed, Ee, hh⟩ := hh
 replace hh := aa hh
 obtain ⟨Ef, hh⟩ := hh
 replace hh := aa hh
 obtain ⟨Eh, hh⟩ := hh
 replace hh := bind_some hh
 obtain ⟨CU, Ei, hh⟩ := hh
 refine ⟨[(5, 0), (9, 0), (1007, 50), (1014, 0)], ?_⟩
 cbv
 refine ⟨tA (qGOcc CU), ?_, ?_⟩
 ·refine c9 hC (co [] [185] [216]) mixed (ts := [(4, none)]) Tryz.func216 (by kernel_rfl) (by kernel_rfl) ?_
  intro S N
  cbv
  refine ⟨[iA b, iA c, iA d, tA (qInt j), tA (qGOcc u), tA (qGOcc v), tA (qGOcc w), tA (qGOcc y), tA (qGOcc t), iA p], Gb s, ?_⟩
  cbv
  refine ⟨[iA Ed], Nb Ec, Gb Ee, ?_⟩
  cbv
  refine ⟨Nb Ef, Mb Eh, ?_⟩
  refine ⟨[tA (qGOcc CU)], Gb Ei, ?_⟩
  cbv
  exact Rb
 cbv
 replace hh := aa hh
 obtain ⟨Ej, hh⟩ := hh
 replace hh := bind_some hh
 obtain ⟨Ek, El, hh⟩ := hh
 replace hh := aa hh
 obtain ⟨Em, hh⟩ := hh
 replace hh := aa hh
 obtain ⟨En, hh⟩ := hh
 replace hh := bind_some hh
 obtain ⟨CV, Eo, hh⟩ := hh
 refine ⟨[(5, 0), (9, 0), (1007, 50), (1014, 0)], ?_⟩
 cbv
 refine ⟨tA (qGOcc CV), ?_, ?_⟩
 ·refine c9 hC (co [] [185] [216]) mixed (ts := [(4, none)]) Tryz.func216 (by kernel_rfl) (by kernel_rfl) ?_
  intro S N
  cbv
  refine ⟨[iA b, iA c, iA d, tA (qInt j), tA (qGOcc u), tA (qGOcc v), tA (qGOcc w), tA (qGOcc y), tA (qGOcc t), iA p], Gb s, ?_⟩
  cbv
  refine ⟨[iA Ek], Nb Ej, Gb El, ?_⟩
  cbv
  refine ⟨Nb Em, Mb En, ?_⟩
  refine ⟨[tA (qGOcc CV)], Gb Eo, ?_⟩
  cbv
  exact Rb
 cbv
 replace hh := aa hh
 obtain ⟨Ep, hh⟩ := hh
 replace hh := bind_some hh
 obtain ⟨Eq, Er, hh⟩ := hh
 replace hh := aa hh
 obtain ⟨Es, hh⟩ := hh
 replace hh := aa hh
 obtain ⟨Et, hh⟩ := hh
 replace hh := bind_some hh
 obtain ⟨CW, Eu, hh⟩ := hh
 refine ⟨[(5, 0), (9, 0), (1007, 50), (1014, 0)], ?_⟩
 cbv
 refine ⟨tA (qGOcc CW), ?_, ?_⟩
 ·refine c9 hC (co [] [185] [216]) mixed (ts := [(4, none)]) Tryz.func216 (by kernel_rfl) (by kernel_rfl) ?_
  intro S N
  cbv
  refine ⟨[iA b, iA c, iA d, tA (qInt j), tA (qGOcc u), tA (qGOcc v), tA (qGOcc w), tA (qGOcc y), tA (qGOcc t), iA p], Gb s, ?_⟩
  cbv
  refine ⟨[iA Eq], Nb Ep, Gb Er, ?_⟩
  cbv
  refine ⟨Nb Es, Mb Et, ?_⟩
  refine ⟨[tA (qGOcc CW)], Gb Eu, ?_⟩
  cbv
  exact Rb
 cbv
 replace hh := bind_some hh
 obtain ⟨⟨⟨O, Q⟩, CD⟩, Ev, hh⟩ := hh
 try dsimp only at hh
 have fc := ly hQ Ev
 try dsimp only at fc
 refine ac hF fc ?_
 cbv
 refine ⟨[iA b, iA c, iA d, tA (qInt j), tA (qGOcc u), tA (qGOcc v), tA (qGOcc w), tA (qGOcc y), tA (qGOcc t), iA p], Gb s, ?_⟩
 cbv
 refine ⟨⟨(⟨[(0, .mptr (0, 0) 1 0 0), (1, iA p1), (2, .lit (.pointer none)), (7, .ref (7, 50) 1 0 (len (qLGOcc A))), (9, .mptr (14, 0) 1 (nadd 0 (toNat z)) 0), (15, iA (cast (len (qGNode p0b)))), (16, iA z), (30, tA (qGOcc CD)), (1000000, .mptr (0, 0) 1 0 0)], [((0, 0), .box 1 [iA p0a, .ref (14, 0) 1 0 (len (qGNode B)), iA p0c, iA p0d, bA D]), ((7, 50), .arr 1 1 (qLGOcc A)), ((14, 0), .arr 1 10 (set (qGNode B) (nadd 0 (toNat z)) [iA b, iA c, iA d, tA (qInt j), tA (qGOcc u), tA (qGOcc v), tA (qGOcc O), tA (qGOcc Q), tA (qGOcc t), iA p]))]⟩ : St), ?_, ?_⟩, trivial⟩
 ·refine aw [((0, 0), (1000, 0)), ((7, 50), (1007, 50)), ((14, 0), (1014, 0))] ?_
  cbv
  all_goals exact Zb
 cbv
 replace hh := aa hh
 obtain ⟨Ew, hh⟩ := hh
 refine ⟨⟨Ob, Ab⟩, ?_⟩
 refine ⟨⟨Ob, Wb Ew⟩, ?_⟩
 refine ⟨[iA b, iA c, iA d, tA (qInt j), tA (qGOcc u), tA (qGOcc v), tA (qGOcc O), tA (qGOcc Q), tA (qGOcc t), iA p], Gb2 s ((List.getElem?_eq_some_iff.1 s).1), ?_⟩
 cbv
 refine ⟨[iA b, iA c, iA d, tA (qInt j), tA (qGOcc u), tA (qGOcc v), tA (qGOcc O), tA (qGOcc Q), tA (qGOcc t), iA p], Gb2 s ((List.getElem?_eq_some_iff.1 s).1), ?_⟩
 cbv
 refine bcs (fun BR => ?_) (fun BR => ?_)
 replace hh := ifT hh BR
 try rw [BR]
 cbv
 ·refine C (_, _, _, _) _ hh fun ⟨F, G, R, T⟩ e => ?_
  refine aw [((0, 0), (0, 0)), ((7, 50), (34, 0)), ((14, 0), (14, 0))] ?_
  cbv
  all_goals exact J4
 replace hh := ifF hh BR
 try rw [BR]
 cbv
 refine ⟨[iA b, iA c, iA d, tA (qInt j), tA (qGOcc u), tA (qGOcc v), tA (qGOcc O), tA (qGOcc Q), tA (qGOcc t), iA (wrap .i64 (add p (cast (len (qGOcc CD)))))], Gb2 s ((List.getElem?_eq_some_iff.1 s).1), ?_⟩
 cbv
 ·refine C (_, _, _, _) _ hh fun ⟨F, G, R, T⟩ e => ?_
  refine aw [((0, 0), (0, 0)), ((7, 50), (34, 0)), ((14, 0), (14, 0))] ?_
  cbv
  all_goals exact J4
 replace hh := ifF hh BL
 try rw [BL]
 cbv
 refine ⟨[iA b, iA c, iA d, tA (qInt j), tA (qGOcc u), tA (qGOcc v), tA (qGOcc w), tA (qGOcc y), tA (qGOcc t), iA p], Gb s, ?_⟩
 cbv
 replace hh := bind_some hh
 obtain ⟨BS, Ey, hh⟩ := hh
 refine ac hF (ah.frz (r' := tA (qGOcc BS)) (uv hQ Ey) (by cases hQ; simp)) ?_
 cbv
 refine ⟨[iA b, iA c, iA d, tA (qInt j), tA (qGOcc u), tA (qGOcc v), tA (qGOcc w), tA (qGOcc y), tA (qGOcc t), iA p], Gb s, ?_⟩
 cbv
 replace hh := bind_some hh
 obtain ⟨CX, Ez, hh⟩ := hh
 refine ac hF (ah.frz (r' := tA (qGOcc CX)) (fk hQ (g1 := fun y0 => cT.f y0 p1) (fun h => ky hQ h) Ez) (by cases hQ; simp)) ?_
 cbv
 refine ⟨[iA b, iA c, iA d, tA (qInt j), tA (qGOcc u), tA (qGOcc v), tA (qGOcc w), tA (qGOcc y), tA (qGOcc t), iA p], Gb s, ?_⟩
 cbv
 replace hh := aa hh
 obtain ⟨EA, hh⟩ := hh
 replace hh := bind_some hh
 obtain ⟨EB, EC, hh⟩ := hh
 replace hh := aa hh
 obtain ⟨ED, hh⟩ := hh
 replace hh := aa hh
 obtain ⟨EE, hh⟩ := hh
 replace hh := bind_some hh
 obtain ⟨BU, EF, hh⟩ := hh
 refine ⟨[(5, 0), (9, 0), (1007, 50), (1014, 0)], ?_⟩
 cbv
 refine ⟨tA (qGOcc BU), ?_, ?_⟩
 ·refine c9 hC (co [] [185] [216]) mixed (ts := [(4, none)]) Tryz.func216 (by kernel_rfl) (by kernel_rfl) ?_
  intro S N
  cbv
  refine ⟨[iA b, iA c, iA d, tA (qInt j), tA (qGOcc u), tA (qGOcc v), tA (qGOcc w), tA (qGOcc y), tA (qGOcc CX), iA p], Gb2 s ((List.getElem?_eq_some_iff.1 s).1), ?_⟩
  cbv
  refine ⟨[iA EB], Nb EA, Gb EC, ?_⟩
  cbv
  refine ⟨Nb ED, Mb EE, ?_⟩
  refine ⟨[tA (qGOcc BU)], Gb EF, ?_⟩
  cbv
  exact Rb
 cbv
 replace hh := bind_some hh
 obtain ⟨o2, EO, EP⟩ := hh
 refine au hC (co [] [185] [216]) mixed (fun n (i : (List GNode) × Int) => aj.l2 k BU z n i.1 i.2)
  (fun ⟨CG, CY⟩ => (⟨[(5, .mptr (5, 0) 1 0 0), (12, tA (qGOcc BS)), (36, tA (qGOcc BU)), (37, iA (cast (len (qGOcc BU)))), (38, iA CY), (2000000, .mptr (1000, 0) 1 0 0), (2000001, iA p1), (2000002, .lit (.pointer none)), (2000007, .ref (1007, 50) 1 0 (len (qLGOcc A))), (2000009, .mptr (1014, 0) 1 (nadd 0 (toNat z)) 0), (2000015, iA (cast (len (qGNode p0b)))), (2000016, iA z), (3000000, .mptr (1000, 0) 1 0 0)], [((5, 0), .box 1 [.mptr (1014, 0) 1 (nadd 0 (toNat z)) 0]), ((1000, 0), .box 1 [iA p0a, .ref (1014, 0) 1 0 (len (qGNode CG)), iA p0c, iA p0d, bA D]), ((1007, 50), .arr 1 1 (qLGOcc A)), ((1014, 0), .arr 1 10 (qGNode CG))]⟩ : St))
  (fun (BV : List GNode) => (⟨[(12, tA (qGOcc BS)), (2000000, .mptr (1000, 0) 1 0 0), (2000001, iA p1), (2000002, .lit (.pointer none)), (2000007, .ref (1007, 50) 1 0 (len (qLGOcc A))), (2000009, .mptr (1014, 0) 1 (nadd 0 (toNat z)) 0), (2000015, iA (cast (len (qGNode p0b)))), (2000016, iA z), (3000000, .mptr (1000, 0) 1 0 0)], [((1000, 0), .box 1 [iA p0a, .ref (1014, 0) 1 0 (len (qGNode BV)), iA p0c, iA p0d, bA D]), ((1007, 50), .arr 1 1 (qLGOcc A)), ((1014, 0), .arr 1 10 (qGNode BV))]⟩ : St)) (fun x => x) (.exit 1)
  (i0 := (_, _)) EO (fun _ => rfl) ?_ ?_ ?_
 ·rintro ⟨F, G⟩ e
  refine ai ?_
  cbv
  all_goals exact J2
 rintro BV hx
 subst o2
 have hh := EP
 cbv
 refine ⟨⟨(⟨[(0, .mptr (0, 0) 1 0 0), (1, iA p1), (2, .lit (.pointer none)), (7, .ref (7, 50) 1 0 (len (qLGOcc A))), (9, .mptr (14, 0) 1 (nadd 0 (toNat z)) 0), (15, iA (cast (len (qGNode p0b)))), (16, iA z), (30, tA (qGOcc BS)), (1000000, .mptr (0, 0) 1 0 0)], [((0, 0), .box 1 [iA p0a, .ref (14, 0) 1 0 (len (qGNode BV)), iA p0c, iA p0d, bA D]), ((7, 50), .arr 1 1 (qLGOcc A)), ((14, 0), .arr 1 10 (qGNode BV))]⟩ : St), ?_, ?_⟩, trivial⟩
 ·refine aw [((0, 0), (1000, 0)), ((7, 50), (1007, 50)), ((14, 0), (1014, 0))] ?_
  cbv
  all_goals exact Zb
 cbv
 replace hh := aa hh
 obtain ⟨EG, hh⟩ := hh
 refine ⟨⟨Ob, Ab⟩, ?_⟩
 refine ⟨⟨Ob, Wb EG⟩, ?_⟩
 replace hh := bind_some hh
 obtain ⟨⟨BY, B0, B1, B4, ⟨B6, B7⟩, ⟨B9, Cc⟩, Cd, Ce⟩, Cf, hh⟩ := hh
 try dsimp only at hh
 refine ⟨[iA BY, iA B0, iA B1, tA (qInt B4), tA (qGOcc B6), tA (qGOcc B7), tA (qGOcc B9), tA (qGOcc Cc), tA (qGOcc Cd), iA Ce], Gb Cf, ?_⟩
 cbv
 refine ⟨[iA BY, iA B0, iA B1, tA (qInt B4), tA (qGOcc B6), tA (qGOcc B7), tA (qGOcc B9), tA (qGOcc Cc), tA (qGOcc Cd), iA Ce], Gb Cf, ?_⟩
 cbv
 refine bcs (fun BW => ?_) (fun BW => ?_)
 replace hh := ifT hh BW
 try rw [BW]
 cbv
 ·refine C (_, _, _, _) _ hh fun ⟨F, G, R, T⟩ e => ?_
  refine aw [((0, 0), (0, 0)), ((7, 50), (34, 0)), ((14, 0), (14, 0))] ?_
  cbv
  all_goals exact J4
 replace hh := ifF hh BW
 try rw [BW]
 cbv
 refine ⟨[iA BY, iA B0, iA B1, tA (qInt B4), tA (qGOcc B6), tA (qGOcc B7), tA (qGOcc B9), tA (qGOcc Cc), tA (qGOcc Cd), iA (wrap .i64 (add Ce (cast (len (qGOcc BS)))))], Gb2 Cf ((List.getElem?_eq_some_iff.1 Cf).1), ?_⟩
 cbv
 ·refine C (_, _, _, _) _ hh fun ⟨F, G, R, T⟩ e => ?_
  refine aw [((0, 0), (0, 0)), ((7, 50), (34, 0)), ((14, 0), (14, 0))] ?_
  cbv
  all_goals exact J4
 rintro n ⟨CG, CY⟩ N2 D2 hh ER ES E0
 try dsimp only at hh
 unfold aj.l2 at hh
 cbv
 refine bcs (fun BX => ?_) (fun BX => ?_)
 replace hh := ifT hh BX
 try rw [BX]
 cbv
 replace hh := aa hh
 obtain ⟨EH, hh⟩ := hh
 replace hh := bind_some hh
 obtain ⟨⟨CZ, C0, C1⟩, EI, hh⟩ := hh
 try dsimp only at hh
 refine ⟨[iA CZ, iA C0, tA (qInt C1)], Nb EH, Gb EI, ?_⟩
 cbv
 replace hh := bind_some hh
 obtain ⟨⟨Cg, Ch, Cm, Cn, ⟨Cq, Cv⟩, ⟨Cw, Cx⟩, Cy, Cz⟩, CH, hh⟩ := hh
 try dsimp only at hh
 refine ⟨[iA Cg, iA Ch, iA Cm, tA (qInt Cn), tA (qGOcc Cq), tA (qGOcc Cv), tA (qGOcc Cw), tA (qGOcc Cx), tA (qGOcc Cy), iA Cz], Gb CH, ?_⟩
 cbv
 refine ⟨[iA Cg, iA Ch, iA Cm, tA (qInt Cn), tA (qGOcc Cq), tA (qGOcc Cv), tA (qGOcc Cw), tA (qGOcc Cx), tA (qGOcc Cy), iA Cz], Gb CH, ?_⟩
 cbv
 replace hh := bind_some hh
 obtain ⟨⟨ET, EU, EV⟩, EJ, hh⟩ := hh
 try dsimp only at hh
 have fc := oY hQ EJ
 try dsimp only at fc
 refine ac hF fc ?_
 cbv
 replace hh := bind_some hh
 obtain ⟨EY, EK, hh⟩ := hh
 refine ⟨Ob, ?_⟩
 refine ac hF (iv hQ EK) ?_
 cbv
 refine ⟨[iA Cg, iA Ch, iA Cm, tA (qInt Cn), tA (qGOcc Cq), tA (qGOcc Cv), tA (qGOcc Cw), tA (qGOcc Cx), tA (qGOcc Cy), iA Cz], Gb CH, ?_⟩
 cbv
 ·refine ER (_, _) _ hh fun ⟨F, G⟩ e => ?_
  refine ai ?_
  cbv
  all_goals exact J2
 replace hh := ifF hh BX
 try rw [BX]
 cbv
 ·refine ES _ _ hh fun F e => ?_
  refine ai ?_
  cbv
  all_goals exact J1
 replace hh := ifF hh U
 try rw [U]
 cbv
 ·refine EN (_, _, _) _ hh fun ⟨F, G, R⟩ e => ?_
  refine ai ?_
  cbv
  all_goals exact J3

theorem od {k : Nat} {p0 : GGraph} {p1 : Int} {p2 : GEv} {r : (List GOcc) × GGraph × GEv} (hh : ak.f k p0 p1 p2 = some r) : ah P 130 [.obox [iA p0.Mode, oA 10 (qGNode p0.Nodes), iA p0.Seen, iA p0.Now, bA p0.Full], iA p1, .obox [iA p2.Sym, iA p2.At, iA p2.Val]] [.obox [iA r.2.1.Mode, oA 10 (qGNode r.2.1.Nodes), iA r.2.1.Seen, iA r.2.1.Now, bA r.2.1.Full], hA, .obox [iA r.2.2.Sym, iA r.2.2.At, iA r.2.2.Val]] (tA (qGOcc r.1)) := by
 obtain ⟨p0a, p0b, p0c, p0d, p0e⟩ := p0
 obtain ⟨p2a, p2b, p2c⟩ := p2
 unfold ak.f at hh
 refine goG (g := []) (i := [185]) (o := [216]) (sh := []) (ts := [(6, none)]) (rm := [.val]) (pm := [.own, .skip, .own]) Tryz.func130 ?_
 intro Fn LW IN len cast toNat wrap add sub mul bin lt eq At set part app fz' rep nadd nmax ssize sext sget scat seq slt Wide Flat Ones Room r' post' hC hF hr hp
 cbv
 replace hh := bind_some hh
 obtain ⟨o1, EO, EP⟩ := hh
 refine au hC (co [] [185] [216]) mixed (fun n (i : (List GNode) × Bool × (List (List GOcc)) × Int) => ak.l1 k (⟨p0a, p0b, p0c, p0d, p0e⟩ : GGraph) p1 (⟨p2a, p2b, p2c⟩ : GEv) n i.1 i.2.1 i.2.2.1 i.2.2.2)
  (fun ⟨B, D, A, z⟩ => (⟨[(0, .mptr (0, 0) 1 0 0), (1, iA p1), (2, .mptr (2, 0) 1 0 0), (7, .ref (7, 50) 1 0 (len (qLGOcc A))), (15, iA (cast (len (qGNode p0b)))), (16, iA z), (1000000, .mptr (0, 0) 1 0 0), (1000002, .mptr (2, 0) 1 0 0)], [((0, 0), .box 1 [iA p0a, .ref (14, 0) 1 0 (len (qGNode B)), iA p0c, iA p0d, bA D]), ((2, 0), .box 1 [iA p2a, iA p2b, iA p2c]), ((7, 50), .arr 1 1 (qLGOcc A)), ((14, 0), .arr 1 10 (qGNode B))]⟩ : St))
  (fun (⟨CG, CH, CK⟩ : (List (List GOcc)) × (List GNode) × Bool) => (⟨[(7, .ref (7, 50) 1 0 (len (qLGOcc CG))), (1000000, .mptr (0, 0) 1 0 0), (1000002, .mptr (2, 0) 1 0 0)], [((0, 0), .box 1 [iA p0a, .ref (14, 0) 1 0 (len (qGNode CH)), iA p0c, iA p0d, bA CK]), ((2, 0), .box 1 [iA p2a, iA p2b, iA p2c]), ((7, 50), .arr 1 1 (qLGOcc CG)), ((14, 0), .arr 1 10 (qGNode CH))]⟩ : St)) (fun x => x) (.exit 0)
  (i0 := (_, _, _, _)) EO (fun _ => rfl) ?_ ?_ ?_
 ·rintro ⟨F, G, H, T⟩ e
  refine aw [((0, 0), (0, 0)), ((2, 0), (2, 0)), ((14, 0), (14, 0))] ?_
  cbv
  all_goals exact J4
 rintro ⟨CG, CH, CK⟩ hx
 subst o1
 have hh := EP
 cbv
 replace hh := aa hh
 obtain ⟨C4, hh⟩ := hh
 replace hh := aa hh
 obtain ⟨C5, hh⟩ := hh
 refine ⟨Nb C4, Mb C5, ?_⟩
 replace hh := bind_some hh
 obtain ⟨C6, C7, hh⟩ := hh
 refine ⟨[tA (qGOcc C6)], Gb C7, ?_⟩
 cbv
 exact Eb
 rintro n ⟨B, D, A, z⟩ N1 D1 hh C ER E2
 try dsimp only at hh
 unfold ak.l1 at hh
 cbv
 refine bcs (fun U => ?_) (fun U => ?_)
 replace hh := ifT hh U
 try rw [U]
 cbv
 replace hh := aa hh
 obtain ⟨C8, hh⟩ := hh
 replace hh := aa hh
 obtain ⟨C9, hh⟩ := hh
 refine ⟨Nb C8, Mb C9, ?_⟩
 refine yP hC (co [] [185] [216]) mixed (ts := [(10, none)]) (⟨[(0, .mptr (1014, 0) 1 (nadd 0 (toNat z)) 0), (1, .mptr (1000, 0) 1 0 0), (2, iA p1), (3, .mptr (1002, 0) 1 0 0), (4, .ref (1007, 50) 1 0 (len (qLGOcc A))), (2000000, .mptr (1000, 0) 1 0 0), (2000001, iA p1), (2000002, .mptr (1002, 0) 1 0 0), (2000007, .ref (1007, 50) 1 0 (len (qLGOcc A))), (2000009, .mptr (1014, 0) 1 (nadd 0 (toNat z)) 0), (2000015, iA (cast (len (qGNode p0b)))), (2000016, iA z), (3000000, .mptr (1000, 0) 1 0 0), (3000002, .mptr (1002, 0) 1 0 0)], [((1000, 0), .box 1 [iA p0a, .ref (1014, 0) 1 0 (len (qGNode B)), iA p0c, iA p0d, bA D]), ((1002, 0), .box 1 [iA p2a, iA p2b, iA p2c]), ((1007, 50), .arr 1 1 (qLGOcc A)), ((1014, 0), .arr 1 10 (qGNode B))]⟩ : St) Tryz.func185 (by kernel_rfl) (by kernel_rfl) ?_ ?_
 ·refine aw [((1000, 0), (0, 0)), ((1002, 0), (2, 0)), ((1007, 50), (7, 50)), ((1014, 0), (14, 0))] ?_
  cbv
  all_goals exact Zb
 cbv
 replace hh := bind_some hh
 obtain ⟨⟨b, c, d, j, ⟨u, v⟩, ⟨w, y⟩, t, p⟩, s, hh⟩ := hh
 try dsimp only at hh
 refine ⟨[iA b, iA c, iA d, tA (qInt j), tA (qGOcc u), tA (qGOcc v), tA (qGOcc w), tA (qGOcc y), tA (qGOcc t), iA p], Gb s, ?_⟩
 cbv
 refine bcs (fun V => ?_) (fun V => ?_)
 replace hh := ifT hh V
 try rw [V]
 cbv
 refine ⟨[iA b, iA c, iA d, tA (qInt j), tA (qGOcc u), tA (qGOcc v), tA (qGOcc w), tA (qGOcc y), tA (qGOcc t), iA p], Gb s, ?_⟩
 cbv
 refine bcs (fun W => ?_) (fun W => ?_)
 replace hh := ifT hh W
 try rw [W]
 cbv
 refine ⟨Ob, ?_⟩
 refine ⟨⟨(⟨[(0, .mptr (0, 0) 1 0 0), (1, iA p1), (2, .mptr (2, 0) 1 0 0), (7, .ref (7, 50) 1 0 (len (qLGOcc A))), (9, .mptr (14, 0) 1 (nadd 0 (toNat z)) 0), (15, iA (cast (len (qGNode p0b)))), (16, iA z), (30, .ref (2080, 0) 1 0 1), (1000000, .mptr (0, 0) 1 0 0), (1000002, .mptr (2, 0) 1 0 0)], [((0, 0), .box 1 [iA p0a, .ref (14, 0) 1 0 (len (qGNode B)), iA p0c, iA p0d, bA D]), ((2, 0), .box 1 [iA p2a, iA p2b, iA p2c]), ((7, 50), .arr 1 1 (qLGOcc A)), ((14, 0), .arr 1 10 (qGNode B)), ((2080, 0), .farr 1 3 (qGOcc [((⟨p1, p1, [p0c]⟩ : GOcc))]))]⟩ : St), ?_, ?_⟩, trivial⟩
 ·refine aw [((0, 0), (1000, 0)), ((2, 0), (1002, 0)), ((7, 50), (1007, 50)), ((14, 0), (1014, 0)), ((2080, 0), (80, 0))] ?_
  cbv
  all_goals exact Zb
 cbv
 refine ⟨Ob, ?_⟩
 replace hh := aa hh
 obtain ⟨Da, hh⟩ := hh
 refine ⟨⟨Ob, Ab⟩, ?_⟩
 refine ⟨⟨Ob, Wb Da⟩, ?_⟩
 refine ⟨[iA b, iA c, iA d, tA (qInt j), tA (qGOcc u), tA (qGOcc v), tA (qGOcc w), tA (qGOcc y), tA (qGOcc t), iA p], Gb s, ?_⟩
 cbv
 refine ⟨[iA b, iA c, iA d, tA (qInt j), tA (qGOcc u), tA (qGOcc v), tA (qGOcc w), tA (qGOcc y), tA (qGOcc t), iA p], Gb s, ?_⟩
 cbv
 refine bcs (fun X => ?_) (fun X => ?_)
 replace hh := ifT hh X
 try rw [X]
 cbv
 ·refine C (_, _, _, _) _ hh fun ⟨F, G, H, T⟩ e => ?_
  refine aw [((0, 0), (0, 0)), ((2, 0), (2, 0)), ((7, 50), (34, 0)), ((14, 0), (14, 0))] ?_
  cbv
  all_goals exact J4
 replace hh := ifF hh X
 try rw [X]
 cbv
 refine ⟨[iA b, iA c, iA d, tA (qInt j), tA (qGOcc u), tA (qGOcc v), tA (qGOcc w), tA (qGOcc y), tA (qGOcc t), iA (wrap .i64 (add p (cast 1)))], Gb2 s ((List.getElem?_eq_some_iff.1 s).1), ?_⟩
 cbv
 ·refine C (_, _, _, _) _ hh fun ⟨F, G, H, T⟩ e => ?_
  refine aw [((0, 0), (0, 0)), ((2, 0), (2, 0)), ((7, 50), (34, 0)), ((14, 0), (14, 0))] ?_
  cbv
  all_goals exact J4
 replace hh := ifF hh W
 try rw [W]
 cbv
 refine ⟨⟨(⟨[(0, .mptr (0, 0) 1 0 0), (1, iA p1), (2, .mptr (2, 0) 1 0 0), (7, .ref (7, 50) 1 0 (len (qLGOcc A))), (9, .mptr (14, 0) 1 (nadd 0 (toNat z)) 0), (15, iA (cast (len (qGNode p0b)))), (16, iA z), (30, .lit (.slice none 0 0)), (1000000, .mptr (0, 0) 1 0 0), (1000002, .mptr (2, 0) 1 0 0)], [((0, 0), .box 1 [iA p0a, .ref (14, 0) 1 0 (len (qGNode B)), iA p0c, iA p0d, bA D]), ((2, 0), .box 1 [iA p2a, iA p2b, iA p2c]), ((7, 50), .arr 1 1 (qLGOcc A)), ((14, 0), .arr 1 10 (qGNode B))]⟩ : St), ?_, ?_⟩, trivial⟩
 ·refine aw [((0, 0), (1000, 0)), ((2, 0), (1002, 0)), ((7, 50), (1007, 50)), ((14, 0), (1014, 0))] ?_
  cbv
  all_goals exact Zb
 cbv
 refine ⟨none, ?_⟩; try cbv
 replace hh := aa hh
 obtain ⟨Db, hh⟩ := hh
 refine ⟨⟨Ob, Ab⟩, ?_⟩
 refine ⟨⟨Ob, Wb Db⟩, ?_⟩
 refine ⟨[iA b, iA c, iA d, tA (qInt j), tA (qGOcc u), tA (qGOcc v), tA (qGOcc w), tA (qGOcc y), tA (qGOcc t), iA p], Gb s, ?_⟩
 cbv
 refine ⟨[iA b, iA c, iA d, tA (qInt j), tA (qGOcc u), tA (qGOcc v), tA (qGOcc w), tA (qGOcc y), tA (qGOcc t), iA p], Gb s, ?_⟩
 cbv
 refine bcs (fun Y => ?_) (fun Y => ?_)
 replace hh := ifT hh Y
 try rw [Y]
 cbv
 ·refine C (_, _, _, _) _ hh fun ⟨F, G, H, T⟩ e => ?_
  refine aw [((0, 0), (0, 0)), ((2, 0), (2, 0)), ((7, 50), (34, 0)), ((14, 0), (14, 0))] ?_
  cbv
  all_goals exact J4
 replace hh := ifF hh Y
 try rw [Y]
 cbv
 refine ⟨[iA b, iA c, iA d, tA (qInt j), tA (qGOcc u), tA (qGOcc v), tA (qGOcc w), tA (qGOcc y), tA (qGOcc t), iA (wrap .i64 (add p 0))], Gb2 s ((List.getElem?_eq_some_iff.1 s).1), ?_⟩
 cbv
 ·refine C (_, _, _, _) _ hh fun ⟨F, G, H, T⟩ e => ?_
  refine aw [((0, 0), (0, 0)), ((2, 0), (2, 0)), ((7, 50), (34, 0)), ((14, 0), (14, 0))] ?_
  cbv
  all_goals exact J4
 replace hh := ifF hh V
 try rw [V]
 cbv
 refine bcs (fun Z => ?_) (fun Z => ?_)
 replace hh := ifT hh Z
 try rw [Z]
 cbv
 replace hh := aa hh
 obtain ⟨Dc, hh⟩ := hh
 replace hh := bind_some hh
 obtain ⟨Dd, De, hh⟩ := hh
 replace hh := aa hh
 obtain ⟨Df, hh⟩ := hh
 replace hh := aa hh
 obtain ⟨Dg, hh⟩ := hh
 replace hh := bind_some hh
 obtain ⟨CL, Dh, hh⟩ := hh
 refine ⟨[(5, 0), (9, 0), (1007, 50), (1014, 0)], ?_⟩
 cbv
 refine ⟨tA (qGOcc CL), ?_, ?_⟩
 ·refine c9 hC (co [] [185] [216]) mixed (ts := [(4, none)]) Tryz.func216 (by kernel_rfl) (by kernel_rfl) ?_
  intro S N
  cbv
  refine ⟨[iA b, iA c, iA d, tA (qInt j), tA (qGOcc u), tA (qGOcc v), tA (qGOcc w), tA (qGOcc y), tA (qGOcc t), iA p], Gb s, ?_⟩
  cbv
  refine ⟨[iA Dd], Nb Dc, Gb De, ?_⟩
  cbv
  refine ⟨Nb Df, Mb Dg, ?_⟩
  refine ⟨[tA (qGOcc CL)], Gb Dh, ?_⟩
  cbv
  exact Rb
 cbv
 replace hh := aa hh
 obtain ⟨Di, hh⟩ := hh
 replace hh := bind_some hh
 obtain ⟨Dj, Dk, hh⟩ := hh
 replace hh := aa hh
 obtain ⟨Dl, hh⟩ := hh
 replace hh := aa hh
 obtain ⟨Dm, hh⟩ := hh
 replace hh := bind_some hh
 obtain ⟨CM, Dn, hh⟩ := hh
 refine ⟨[(5, 0), (9, 0), (1007, 50), (1014, 0)], ?_⟩
 cbv
 refine ⟨tA (qGOcc CM), ?_, ?_⟩
 ·refine c9 hC (co [] [185] [216]) mixed (ts := [(4, none)]) Tryz.func216 (by kernel_rfl) (by kernel_rfl) ?_
  intro S N
  cbv
  refine ⟨[iA b, iA c, iA d, tA (qInt j), tA (qGOcc u), tA (qGOcc v), tA (qGOcc w), tA (qGOcc y), tA (qGOcc t), iA p], Gb s, ?_⟩
  cbv
  refine ⟨[iA Dj], Nb Di, Gb Dk, ?_⟩
  cbv
  refine ⟨Nb Dl, Mb Dm, ?_⟩
  refine ⟨[tA (qGOcc CM)], Gb Dn, ?_⟩
  cbv
  exact Rb
 cbv
 replace hh := bind_some hh
 obtain ⟨CN, Do, hh⟩ := hh
 refine ac hF (ce hQ Do) ?_
 cbv
 refine ⟨⟨(⟨[(0, .mptr (0, 0) 1 0 0), (1, iA p1), (2, .mptr (2, 0) 1 0 0), (7, .ref (7, 50) 1 0 (len (qLGOcc A))), (9, .mptr (14, 0) 1 (nadd 0 (toNat z)) 0), (15, iA (cast (len (qGNode p0b)))), (16, iA z), (30, tA (qGOcc CN)), (1000000, .mptr (0, 0) 1 0 0), (1000002, .mptr (2, 0) 1 0 0)], [((0, 0), .box 1 [iA p0a, .ref (14, 0) 1 0 (len (qGNode B)), iA p0c, iA p0d, bA D]), ((2, 0), .box 1 [iA p2a, iA p2b, iA p2c]), ((7, 50), .arr 1 1 (qLGOcc A)), ((14, 0), .arr 1 10 (qGNode B))]⟩ : St), ?_, ?_⟩, trivial⟩
 ·refine aw [((0, 0), (1000, 0)), ((2, 0), (1002, 0)), ((7, 50), (1007, 50)), ((14, 0), (1014, 0))] ?_
  cbv
  all_goals exact Zb
 cbv
 replace hh := aa hh
 obtain ⟨Dp, hh⟩ := hh
 refine ⟨⟨Ob, Ab⟩, ?_⟩
 refine ⟨⟨Ob, Wb Dp⟩, ?_⟩
 refine ⟨[iA b, iA c, iA d, tA (qInt j), tA (qGOcc u), tA (qGOcc v), tA (qGOcc w), tA (qGOcc y), tA (qGOcc t), iA p], Gb s, ?_⟩
 cbv
 refine ⟨[iA b, iA c, iA d, tA (qInt j), tA (qGOcc u), tA (qGOcc v), tA (qGOcc w), tA (qGOcc y), tA (qGOcc t), iA p], Gb s, ?_⟩
 cbv
 refine bcs (fun dj => ?_) (fun dj => ?_)
 replace hh := ifT hh dj
 try rw [dj]
 cbv
 ·refine C (_, _, _, _) _ hh fun ⟨F, G, H, T⟩ e => ?_
  refine aw [((0, 0), (0, 0)), ((2, 0), (2, 0)), ((7, 50), (34, 0)), ((14, 0), (14, 0))] ?_
  cbv
  all_goals exact J4
 replace hh := ifF hh dj
 try rw [dj]
 cbv
 refine ⟨[iA b, iA c, iA d, tA (qInt j), tA (qGOcc u), tA (qGOcc v), tA (qGOcc w), tA (qGOcc y), tA (qGOcc t), iA (wrap .i64 (add p (cast (len (qGOcc CN)))))], Gb2 s ((List.getElem?_eq_some_iff.1 s).1), ?_⟩
 cbv
 ·refine C (_, _, _, _) _ hh fun ⟨F, G, H, T⟩ e => ?_
  refine aw [((0, 0), (0, 0)), ((2, 0), (2, 0)), ((7, 50), (34, 0)), ((14, 0), (14, 0))] ?_
  cbv
  all_goals exact J4
 replace hh := ifF hh Z
 try rw [Z]
 cbv
 refine bcs (fun xm => ?_) (fun xm => ?_)
 replace hh := ifT hh xm
 try rw [xm]
 cbv
 refine ⟨[iA b, iA c, iA d, tA (qInt j), tA (qGOcc u), tA (qGOcc v), tA (qGOcc w), tA (qGOcc y), tA (qGOcc t), iA p], Gb s, ?_⟩
 cbv
 replace hh := aa hh
 obtain ⟨Dq, hh⟩ := hh
 replace hh := bind_some hh
 obtain ⟨Dr, Ds, hh⟩ := hh
 replace hh := aa hh
 obtain ⟨Dt, hh⟩ := hh
 replace hh := aa hh
 obtain ⟨Du, hh⟩ := hh
 replace hh := bind_some hh
 obtain ⟨CO, Dv, hh⟩ := hh
 refine ⟨[(5, 0), (9, 0), (1007, 50), (1014, 0)], ?_⟩
 cbv
 refine ⟨tA (qGOcc CO), ?_, ?_⟩
 ·refine c9 hC (co [] [185] [216]) mixed (ts := [(4, none)]) Tryz.func216 (by kernel_rfl) (by kernel_rfl) ?_
  intro S N
  cbv
  refine ⟨[iA b, iA c, iA d, tA (qInt j), tA (qGOcc u), tA (qGOcc v), tA (qGOcc w), tA (qGOcc y), tA (qGOcc t), iA p], Gb s, ?_⟩
  cbv
  refine ⟨[iA Dr], Nb Dq, Gb Ds, ?_⟩
  cbv
  refine ⟨Nb Dt, Mb Du, ?_⟩
  refine ⟨[tA (qGOcc CO)], Gb Dv, ?_⟩
  cbv
  exact Rb
 cbv
 replace hh := aa hh
 obtain ⟨Dw, hh⟩ := hh
 replace hh := bind_some hh
 obtain ⟨Dx, Dy, hh⟩ := hh
 replace hh := aa hh
 obtain ⟨Dz, hh⟩ := hh
 replace hh := aa hh
 obtain ⟨DA, hh⟩ := hh
 replace hh := bind_some hh
 obtain ⟨CP, DB, hh⟩ := hh
 refine ⟨[(5, 0), (9, 0), (1007, 50), (1014, 0)], ?_⟩
 cbv
 refine ⟨tA (qGOcc CP), ?_, ?_⟩
 ·refine c9 hC (co [] [185] [216]) mixed (ts := [(4, none)]) Tryz.func216 (by kernel_rfl) (by kernel_rfl) ?_
  intro S N
  cbv
  refine ⟨[iA b, iA c, iA d, tA (qInt j), tA (qGOcc u), tA (qGOcc v), tA (qGOcc w), tA (qGOcc y), tA (qGOcc t), iA p], Gb s, ?_⟩
  cbv
  refine ⟨[iA Dx], Nb Dw, Gb Dy, ?_⟩
  cbv
  refine ⟨Nb Dz, Mb DA, ?_⟩
  refine ⟨[tA (qGOcc CP)], Gb DB, ?_⟩
  cbv
  exact Rb
 cbv
 replace hh := bind_some hh
 obtain ⟨⟨⟨I, J⟩, CC⟩, DC, hh⟩ := hh
 try dsimp only at hh
 have fc := l9 hQ DC
 try dsimp only at fc
 refine ac hF fc ?_
 cbv
 refine ⟨[iA b, iA c, iA d, tA (qInt j), tA (qGOcc u), tA (qGOcc v), tA (qGOcc w), tA (qGOcc y), tA (qGOcc t), iA p], Gb s, ?_⟩
 cbv
 refine ⟨⟨(⟨[(0, .mptr (0, 0) 1 0 0), (1, iA p1), (2, .mptr (2, 0) 1 0 0), (7, .ref (7, 50) 1 0 (len (qLGOcc A))), (9, .mptr (14, 0) 1 (nadd 0 (toNat z)) 0), (15, iA (cast (len (qGNode p0b)))), (16, iA z), (30, tA (qGOcc CC)), (1000000, .mptr (0, 0) 1 0 0), (1000002, .mptr (2, 0) 1 0 0)], [((0, 0), .box 1 [iA p0a, .ref (14, 0) 1 0 (len (qGNode B)), iA p0c, iA p0d, bA D]), ((2, 0), .box 1 [iA p2a, iA p2b, iA p2c]), ((7, 50), .arr 1 1 (qLGOcc A)), ((14, 0), .arr 1 10 (set (qGNode B) (nadd 0 (toNat z)) [iA b, iA c, iA d, tA (qInt j), tA (qGOcc I), tA (qGOcc J), tA (qGOcc w), tA (qGOcc y), tA (qGOcc t), iA p]))]⟩ : St), ?_, ?_⟩, trivial⟩
 ·refine aw [((0, 0), (1000, 0)), ((2, 0), (1002, 0)), ((7, 50), (1007, 50)), ((14, 0), (1014, 0))] ?_
  cbv
  all_goals exact Zb
 cbv
 replace hh := aa hh
 obtain ⟨DD, hh⟩ := hh
 refine ⟨⟨Ob, Ab⟩, ?_⟩
 refine ⟨⟨Ob, Wb DD⟩, ?_⟩
 refine ⟨[iA b, iA c, iA d, tA (qInt j), tA (qGOcc I), tA (qGOcc J), tA (qGOcc w), tA (qGOcc y), tA (qGOcc t), iA p], Gb2 s ((List.getElem?_eq_some_iff.1 s).1), ?_⟩
 cbv
 refine ⟨[iA b, iA c, iA d, tA (qInt j), tA (qGOcc I), tA (qGOcc J), tA (qGOcc w), tA (qGOcc y), tA (qGOcc t), iA p], Gb2 s ((List.getElem?_eq_some_iff.1 s).1), ?_⟩
 cbv
 refine bcs (fun AU => ?_) (fun AU => ?_)
 replace hh := ifT hh AU
 try rw [AU]
 cbv
 ·refine C (_, _, _, _) _ hh fun ⟨F, G, H, T⟩ e => ?_
  refine aw [((0, 0), (0, 0)), ((2, 0), (2, 0)), ((7, 50), (34, 0)), ((14, 0), (14, 0))] ?_
  cbv
  all_goals exact J4
 replace hh := ifF hh AU
 try rw [AU]
 cbv
 refine ⟨[iA b, iA c, iA d, tA (qInt j), tA (qGOcc I), tA (qGOcc J), tA (qGOcc w), tA (qGOcc y), tA (qGOcc t), iA (wrap .i64 (add p (cast (len (qGOcc CC)))))], Gb2 s ((List.getElem?_eq_some_iff.1 s).1), ?_⟩
 cbv
 ·refine C (_, _, _, _) _ hh fun ⟨F, G, H, T⟩ e => ?_
  refine aw [((0, 0), (0, 0)), ((2, 0), (2, 0)), ((7, 50), (34, 0)), ((14, 0), (14, 0))] ?_
  cbv
  all_goals exact J4
 replace hh := ifF hh xm
 try rw [xm]
 cbv
 refine bcs (fun Bz => ?_) (fun Bz => ?_)
 replace hh := ifT hh Bz
 try rw [Bz]
 cbv
 refine ⟨[iA b, iA c, iA d, tA (qInt j), tA (qGOcc u), tA (qGOcc v), tA (qGOcc w), tA (qGOcc y), tA (qGOcc t), iA p], Gb s, ?_⟩
 cbv
 replace hh := aa hh
 obtain ⟨DE, hh⟩ := hh
 replace hh := bind_some hh
 obtain ⟨DF, DG, hh⟩ := hh
 replace hh := aa hh
 obtain ⟨DH, hh⟩ := hh
 replace hh := aa hh
 obtain ⟨DI, hh⟩ := hh
 replace hh := bind_some hh
 obtain ⟨CQ, DJ, hh⟩ := hh
 refine ⟨[(5, 0), (9, 0), (1007, 50), (1014, 0)], ?_⟩
 cbv
 refine ⟨tA (qGOcc CQ), ?_, ?_⟩
 ·refine c9 hC (co [] [185] [216]) mixed (ts := [(4, none)]) Tryz.func216 (by kernel_rfl) (by kernel_rfl) ?_
  intro S N
  cbv
  refine ⟨[iA b, iA c, iA d, tA (qInt j), tA (qGOcc u), tA (qGOcc v), tA (qGOcc w), tA (qGOcc y), tA (qGOcc t), iA p], Gb s, ?_⟩
  cbv
  refine ⟨[iA DF], Nb DE, Gb DG, ?_⟩
  cbv
  refine ⟨Nb DH, Mb DI, ?_⟩
  refine ⟨[tA (qGOcc CQ)], Gb DJ, ?_⟩
  cbv
  exact Rb
 cbv
 replace hh := aa hh
 obtain ⟨DK, hh⟩ := hh
 replace hh := bind_some hh
 obtain ⟨DL, DM, hh⟩ := hh
 replace hh := aa hh
 obtain ⟨DN, hh⟩ := hh
 replace hh := aa hh
 obtain ⟨DO, hh⟩ := hh
 replace hh := bind_some hh
 obtain ⟨CS, DP, hh⟩ := hh
 refine ⟨[(5, 0), (9, 0), (1007, 50), (1014, 0)], ?_⟩
 cbv
 refine ⟨tA (qGOcc CS), ?_, ?_⟩
 ·refine c9 hC (co [] [185] [216]) mixed (ts := [(4, none)]) Tryz.func216 (by kernel_rfl) (by kernel_rfl) ?_
  intro S N
  cbv
  refine ⟨[iA b, iA c, iA d, tA (qInt j), tA (qGOcc u), tA (qGOcc v), tA (qGOcc w), tA (qGOcc y), tA (qGOcc t), iA p], Gb s, ?_⟩
  cbv
  refine ⟨[iA DL], Nb DK, Gb DM, ?_⟩
  cbv
  refine ⟨Nb DN, Mb DO, ?_⟩
  refine ⟨[tA (qGOcc CS)], Gb DP, ?_⟩
  cbv
  exact Rb
 cbv
 replace hh := bind_some hh
 obtain ⟨⟨⟨K, L⟩, CD⟩, DQ, hh⟩ := hh
 try dsimp only at hh
 have fc := mg hQ DQ
 try dsimp only at fc
 refine ac hF fc ?_
 cbv
 refine ⟨[iA b, iA c, iA d, tA (qInt j), tA (qGOcc u), tA (qGOcc v), tA (qGOcc w), tA (qGOcc y), tA (qGOcc t), iA p], Gb s, ?_⟩
 cbv
 refine ⟨⟨(⟨[(0, .mptr (0, 0) 1 0 0), (1, iA p1), (2, .mptr (2, 0) 1 0 0), (7, .ref (7, 50) 1 0 (len (qLGOcc A))), (9, .mptr (14, 0) 1 (nadd 0 (toNat z)) 0), (15, iA (cast (len (qGNode p0b)))), (16, iA z), (30, tA (qGOcc CD)), (1000000, .mptr (0, 0) 1 0 0), (1000002, .mptr (2, 0) 1 0 0)], [((0, 0), .box 1 [iA p0a, .ref (14, 0) 1 0 (len (qGNode B)), iA p0c, iA p0d, bA D]), ((2, 0), .box 1 [iA p2a, iA p2b, iA p2c]), ((7, 50), .arr 1 1 (qLGOcc A)), ((14, 0), .arr 1 10 (set (qGNode B) (nadd 0 (toNat z)) [iA b, iA c, iA d, tA (qInt j), tA (qGOcc K), tA (qGOcc L), tA (qGOcc w), tA (qGOcc y), tA (qGOcc t), iA p]))]⟩ : St), ?_, ?_⟩, trivial⟩
 ·refine aw [((0, 0), (1000, 0)), ((2, 0), (1002, 0)), ((7, 50), (1007, 50)), ((14, 0), (1014, 0))] ?_
  cbv
  all_goals exact Zb
 cbv
 replace hh := aa hh
 obtain ⟨DR, hh⟩ := hh
 refine ⟨⟨Ob, Ab⟩, ?_⟩
 refine ⟨⟨Ob, Wb DR⟩, ?_⟩
 refine ⟨[iA b, iA c, iA d, tA (qInt j), tA (qGOcc K), tA (qGOcc L), tA (qGOcc w), tA (qGOcc y), tA (qGOcc t), iA p], Gb2 s ((List.getElem?_eq_some_iff.1 s).1), ?_⟩
 cbv
 refine ⟨[iA b, iA c, iA d, tA (qInt j), tA (qGOcc K), tA (qGOcc L), tA (qGOcc w), tA (qGOcc y), tA (qGOcc t), iA p], Gb2 s ((List.getElem?_eq_some_iff.1 s).1), ?_⟩
 cbv
 refine bcs (fun BB => ?_) (fun BB => ?_)
 replace hh := ifT hh BB
 try rw [BB]
 cbv
 ·refine C (_, _, _, _) _ hh fun ⟨F, G, H, T⟩ e => ?_
  refine aw [((0, 0), (0, 0)), ((2, 0), (2, 0)), ((7, 50), (34, 0)), ((14, 0), (14, 0))] ?_
  cbv
  all_goals exact J4
 replace hh := ifF hh BB
 try rw [BB]
 cbv
 refine ⟨[iA b, iA c, iA d, tA (qInt j), tA (qGOcc K), tA (qGOcc L), tA (qGOcc w), tA (qGOcc y), tA (qGOcc t), iA (wrap .i64 (add p (cast (len (qGOcc CD)))))], Gb2 s ((List.getElem?_eq_some_iff.1 s).1), ?_⟩
 cbv
 ·refine C (_, _, _, _) _ hh fun ⟨F, G, H, T⟩ e => ?_
  refine aw [((0, 0), (0, 0)), ((2, 0), (2, 0)), ((7, 50), (34, 0)), ((14, 0), (14, 0))] ?_
  cbv
  all_goals exact J4
 replace hh := ifF hh Bz
 try rw [Bz]
 cbv
 refine bcs (fun BL => ?_) (fun BL => ?_)
 replace hh := ifT hh BL
 try rw [BL]
 cbv
 refine ⟨[iA b, iA c, iA d, tA (qInt j), tA (qGOcc u), tA (qGOcc v), tA (qGOcc w), tA (qGOcc y), tA (qGOcc t), iA p], Gb s, ?_⟩
 cbv
 replace hh := aa hh
 obtain ⟨DS, hh⟩ := hh
 replace hh := bind_some hh
 obtain ⟨DT, DU, hh⟩ := hh
 replace hh := aa hh
 obtain ⟨DV, hh⟩ := hh
 replace hh := aa hh
 obtain ⟨DW, hh⟩ := hh
 replace hh := bind_some hh
 obtain ⟨CT, DX, hh⟩ := hh
 refine ⟨[(5, 0), (9, 0), (1007, 50), (1014, 0)], ?_⟩
 cbv
 refine ⟨tA (qGOcc CT), ?_, ?_⟩
 ·refine c9 hC (co [] [185] [216]) mixed (ts := [(4, none)]) Tryz.func216 (by kernel_rfl) (by kernel_rfl) ?_
  intro S N
  cbv
  refine ⟨[iA b, iA c, iA d, tA (qInt j), tA (qGOcc u), tA (qGOcc v), tA (qGOcc w), tA (qGOcc y), tA (qGOcc t), iA p], Gb s, ?_⟩
  cbv
  refine ⟨[iA DT], Nb DS, Gb DU, ?_⟩
  cbv
  refine ⟨Nb DV, Mb DW, ?_⟩
  refine ⟨[tA (qGOcc CT)], Gb DX, ?_⟩
  cbv
  exact Rb
 cbv
 replace hh := aa hh
 obtain ⟨DY, hh⟩ := hh
 replace hh := bind_some hh
 obtain ⟨DZ, D0, hh⟩ := hh
 replace hh := aa hh
 obtain ⟨D3, hh⟩ := hh
 replace hh := aa hh
 obtain ⟨D4, hh⟩ := hh
 replace hh := bind_some hh
 obtain ⟨CU, D5, hh⟩ := hh
 refine ⟨[(5, 0), (9, 0), (1007, 50), (1014, 0)], ?_⟩
 cbv
 refine ⟨tA (qGOcc CU), ?_, ?_⟩
 ·refine c9 hC (co [] [185] [216]) mixed (ts := [(4, none)]) Tryz.func216 (by kernel_rfl) (by kernel_rfl) ?_
  intro S N
  cbv
  refine ⟨[iA b, iA c, iA d, tA (qInt j), tA (qGOcc u), tA (qGOcc v), tA (qGOcc w), tA (qGOcc y), tA (qGOcc t), iA p], Gb s, ?_⟩
  cbv
  refine ⟨[iA DZ], Nb DY, Gb D0, ?_⟩
  cbv
  refine ⟨Nb D3, Mb D4, ?_⟩
  refine ⟨[tA (qGOcc CU)], Gb D5, ?_⟩
  cbv
  exact Rb
 cbv
 replace hh := aa hh
 obtain ⟨D6, hh⟩ := hh
 replace hh := bind_some hh
 obtain ⟨D7, D8, hh⟩ := hh
 replace hh := aa hh
 obtain ⟨D9, hh⟩ := hh
 replace hh := aa hh
 obtain ⟨Ea, hh⟩ := hh
 replace hh := bind_some hh
 obtain ⟨CV, Ec, hh⟩ := hh
 refine ⟨[(5, 0), (9, 0), (1007, 50), (1014, 0)], ?_⟩
 cbv
 refine ⟨tA (qGOcc CV), ?_, ?_⟩
 ·refine c9 hC (co [] [185] [216]) mixed (ts := [(4, none)]) Tryz.func216 (by kernel_rfl) (by kernel_rfl) ?_
  intro S N
  cbv
  refine ⟨[iA b, iA c, iA d, tA (qInt j), tA (qGOcc u), tA (qGOcc v), tA (qGOcc w), tA (qGOcc y), tA (qGOcc t), iA p], Gb s, ?_⟩
  cbv
  refine ⟨[iA D7], Nb D6, Gb D8, ?_⟩
  cbv
  refine ⟨Nb D9, Mb Ea, ?_⟩
  refine ⟨[tA (qGOcc CV)], Gb Ec, ?_⟩
  cbv
  exact Rb
 cbv
 replace hh := bind_some hh
 obtain ⟨⟨⟨M, O⟩, CE⟩, Ed, hh⟩ := hh
 try dsimp only at hh
 have fc := mh hQ Ed
 try dsimp only at fc
 refine ac hF fc ?_
 cbv
 refine ⟨[iA b, iA c, iA d, tA (qInt j), tA (qGOcc u), tA (qGOcc v), tA (qGOcc w), tA (qGOcc y), tA (qGOcc t), iA p], Gb s, ?_⟩
 cbv
 refine ⟨⟨(⟨[(0, .mptr (0, 0) 1 0 0), (1, iA p1), (2, .mptr (2, 0) 1 0 0), (7, .ref (7, 50) 1 0 (len (qLGOcc A))), (9, .mptr (14, 0) 1 (nadd 0 (toNat z)) 0), (15, iA (cast (len (qGNode p0b)))), (16, iA z), (30, tA (qGOcc CE)), (1000000, .mptr (0, 0) 1 0 0), (1000002, .mptr (2, 0) 1 0 0)], [((0, 0), .box 1 [iA p0a, .ref (14, 0) 1 0 (len (qGNode B)), iA p0c, iA p0d, bA D]), ((2, 0), .box 1 [iA p2a, iA p2b, iA p2c]), ((7, 50), .arr 1 1 (qLGOcc A)), ((14, 0), .arr 1 10 (set (qGNode B) (nadd 0 (toNat z)) [iA b, iA c, iA d, tA (qInt j), tA (qGOcc u), tA (qGOcc v), tA (qGOcc M), tA (qGOcc O), tA (qGOcc t), iA p]))]⟩ : St), ?_, ?_⟩, trivial⟩
 ·refine aw [((0, 0), (1000, 0)), ((2, 0), (1002, 0)), ((7, 50), (1007, 50)), ((14, 0), (1014, 0))] ?_
  cbv
  all_goals exact Zb
 cbv
 replace hh := aa hh
 obtain ⟨Ee, hh⟩ := hh
 refine ⟨⟨Ob, Ab⟩, ?_⟩
 refine ⟨⟨Ob, Wb Ee⟩, ?_⟩
 refine ⟨[iA b, iA c, iA d, tA (qInt j), tA (qGOcc u), tA (qGOcc v), tA (qGOcc M), tA (qGOcc O), tA (qGOcc t), iA p], Gb2 s ((List.getElem?_eq_some_iff.1 s).1), ?_⟩
 cbv
 refine ⟨[iA b, iA c, iA d, tA (qInt j), tA (qGOcc u), tA (qGOcc v), tA (qGOcc M), tA (qGOcc O), tA (qGOcc t), iA p], Gb2 s ((List.getElem?_eq_some_iff.1 s).1), ?_⟩
 cbv
 refine bcs (fun BR => ?_) (fun BR => ?_)
 replace hh := ifT hh BR
 try rw [BR]
 cbv
 ·refine C (_, _, _, _) _ hh fun ⟨F, G, H, T⟩ e => ?_
  refine aw [((0, 0), (0, 0)), ((2, 0), (2, 0)), ((7, 50), (34, 0)), ((14, 0), (14, 0))] ?_
  cbv
  all_goals exact J4
 replace hh := ifF hh BR
 try rw [BR]
 cbv
 refine ⟨[iA b, iA c, iA d, tA (qInt j), tA (qGOcc u), tA (qGOcc v), tA (qGOcc M), tA (qGOcc O), tA (qGOcc t), iA (wrap .i64 (add p (cast (len (qGOcc CE)))))], Gb2 s ((List.getElem?_eq_some_iff.1 s).1), ?_⟩
 cbv
 ·refine C (_, _, _, _) _ hh fun ⟨F, G, H, T⟩ e => ?_
  refine aw [((0, 0), (0, 0)), ((2, 0), (2, 0)), ((7, 50), (34, 0)), ((14, 0), (14, 0))] ?_
  cbv
  all_goals exact J4
 replace hh := ifF hh BL
 try rw [BL]
 cbv
 refine bcs (fun BS => ?_) (fun BS => ?_)
 replace hh := ifT hh BS
 try rw [BS]
 cbv
 refine ⟨[iA b, iA c, iA d, tA (qInt j), tA (qGOcc u), tA (qGOcc v), tA (qGOcc w), tA (qGOcc y), tA (qGOcc t), iA p], Gb s, ?_⟩
 cbv
 replace hh := aa hh
 obtain ⟨Ef, hh⟩ := hh
 replace hh := bind_some hh
 obtain ⟨Eh, Ei, hh⟩ := hh
 replace hh := aa hh
 obtain ⟨Ej, hh⟩ := hh
 replace hh := aa hh
 obtain ⟨Ek, hh⟩ := hh
 replace hh := bind_some hh
 obtain ⟨CW, El, hh⟩ := hh
 refine ⟨[(5, 0), (9, 0), (1007, 50), (1014, 0)], ?_⟩
 cbv
 refine ⟨tA (qGOcc CW), ?_, ?_⟩
 ·refine c9 hC (co [] [185] [216]) mixed (ts := [(4, none)]) Tryz.func216 (by kernel_rfl) (by kernel_rfl) ?_
  intro S N
  cbv
  refine ⟨[iA b, iA c, iA d, tA (qInt j), tA (qGOcc u), tA (qGOcc v), tA (qGOcc w), tA (qGOcc y), tA (qGOcc t), iA p], Gb s, ?_⟩
  cbv
  refine ⟨[iA Eh], Nb Ef, Gb Ei, ?_⟩
  cbv
  refine ⟨Nb Ej, Mb Ek, ?_⟩
  refine ⟨[tA (qGOcc CW)], Gb El, ?_⟩
  cbv
  exact Rb
 cbv
 replace hh := aa hh
 obtain ⟨Em, hh⟩ := hh
 replace hh := bind_some hh
 obtain ⟨En, Eo, hh⟩ := hh
 replace hh := aa hh
 obtain ⟨Ep, hh⟩ := hh
 replace hh := aa hh
 obtain ⟨Eq, hh⟩ := hh
 replace hh := bind_some hh
 obtain ⟨CX, Er, hh⟩ := hh
 refine ⟨[(5, 0), (9, 0), (1007, 50), (1014, 0)], ?_⟩
 cbv
 refine ⟨tA (qGOcc CX), ?_, ?_⟩
 ·refine c9 hC (co [] [185] [216]) mixed (ts := [(4, none)]) Tryz.func216 (by kernel_rfl) (by kernel_rfl) ?_
  intro S N
  cbv
  refine ⟨[iA b, iA c, iA d, tA (qInt j), tA (qGOcc u), tA (qGOcc v), tA (qGOcc w), tA (qGOcc y), tA (qGOcc t), iA p], Gb s, ?_⟩
  cbv
  refine ⟨[iA En], Nb Em, Gb Eo, ?_⟩
  cbv
  refine ⟨Nb Ep, Mb Eq, ?_⟩
  refine ⟨[tA (qGOcc CX)], Gb Er, ?_⟩
  cbv
  exact Rb
 cbv
 replace hh := aa hh
 obtain ⟨Es, hh⟩ := hh
 replace hh := bind_some hh
 obtain ⟨Et, Eu, hh⟩ := hh
 replace hh := aa hh
 obtain ⟨Ev, hh⟩ := hh
 replace hh := aa hh
 obtain ⟨Ew, hh⟩ := hh
 replace hh := bind_some hh
 obtain ⟨CY, Ey, hh⟩ := hh
 refine ⟨[(5, 0), (9, 0), (1007, 50), (1014, 0)], ?_⟩
 cbv
 refine ⟨tA (qGOcc CY), ?_, ?_⟩
 ·refine c9 hC (co [] [185] [216]) mixed (ts := [(4, none)]) Tryz.func216 (by kernel_rfl) (by kernel_rfl) ?_
  intro S N
  cbv
  refine ⟨[iA b, iA c, iA d, tA (qInt j), tA (qGOcc u), tA (qGOcc v), tA (qGOcc w), tA (qGOcc y), tA (qGOcc t), iA p], Gb s, ?_⟩
  cbv
  refine ⟨[iA Et], Nb Es, Gb Eu, ?_⟩
  cbv
  refine ⟨Nb Ev, Mb Ew, ?_⟩
  refine ⟨[tA (qGOcc CY)], Gb Ey, ?_⟩
  cbv
  exact Rb
 cbv
 replace hh := bind_some hh
 obtain ⟨⟨⟨Q, R⟩, CF⟩, Ez, hh⟩ := hh
 try dsimp only at hh
 have fc := ly hQ Ez
 try dsimp only at fc
 refine ac hF fc ?_
 cbv
 refine ⟨[iA b, iA c, iA d, tA (qInt j), tA (qGOcc u), tA (qGOcc v), tA (qGOcc w), tA (qGOcc y), tA (qGOcc t), iA p], Gb s, ?_⟩
 cbv
 refine ⟨⟨(⟨[(0, .mptr (0, 0) 1 0 0), (1, iA p1), (2, .mptr (2, 0) 1 0 0), (7, .ref (7, 50) 1 0 (len (qLGOcc A))), (9, .mptr (14, 0) 1 (nadd 0 (toNat z)) 0), (15, iA (cast (len (qGNode p0b)))), (16, iA z), (30, tA (qGOcc CF)), (1000000, .mptr (0, 0) 1 0 0), (1000002, .mptr (2, 0) 1 0 0)], [((0, 0), .box 1 [iA p0a, .ref (14, 0) 1 0 (len (qGNode B)), iA p0c, iA p0d, bA D]), ((2, 0), .box 1 [iA p2a, iA p2b, iA p2c]), ((7, 50), .arr 1 1 (qLGOcc A)), ((14, 0), .arr 1 10 (set (qGNode B) (nadd 0 (toNat z)) [iA b, iA c, iA d, tA (qInt j), tA (qGOcc u), tA (qGOcc v), tA (qGOcc Q), tA (qGOcc R), tA (qGOcc t), iA p]))]⟩ : St), ?_, ?_⟩, trivial⟩
 ·refine aw [((0, 0), (1000, 0)), ((2, 0), (1002, 0)), ((7, 50), (1007, 50)), ((14, 0), (1014, 0))] ?_
  cbv
  all_goals exact Zb
 cbv
 replace hh := aa hh
 obtain ⟨EA, hh⟩ := hh
 refine ⟨⟨Ob, Ab⟩, ?_⟩
 refine ⟨⟨Ob, Wb EA⟩, ?_⟩
 refine ⟨[iA b, iA c, iA d, tA (qInt j), tA (qGOcc u), tA (qGOcc v), tA (qGOcc Q), tA (qGOcc R), tA (qGOcc t), iA p], Gb2 s ((List.getElem?_eq_some_iff.1 s).1), ?_⟩
 cbv
 refine ⟨[iA b, iA c, iA d, tA (qInt j), tA (qGOcc u), tA (qGOcc v), tA (qGOcc Q), tA (qGOcc R), tA (qGOcc t), iA p], Gb2 s ((List.getElem?_eq_some_iff.1 s).1), ?_⟩
 cbv
 refine bcs (fun BU => ?_) (fun BU => ?_)
 replace hh := ifT hh BU
 try rw [BU]
 cbv
 ·refine C (_, _, _, _) _ hh fun ⟨F, G, H, T⟩ e => ?_
  refine aw [((0, 0), (0, 0)), ((2, 0), (2, 0)), ((7, 50), (34, 0)), ((14, 0), (14, 0))] ?_
  cbv
  all_goals exact J4
 replace hh := ifF hh BU
 try rw [BU]
 cbv
 refine ⟨[iA b, iA c, iA d, tA (qInt j), tA (qGOcc u), tA (qGOcc v), tA (qGOcc Q), tA (qGOcc R), tA (qGOcc t), iA (wrap .i64 (add p (cast (len (qGOcc CF)))))], Gb2 s ((List.getElem?_eq_some_iff.1 s).1), ?_⟩
 cbv
 ·refine C (_, _, _, _) _ hh fun ⟨F, G, H, T⟩ e => ?_
  refine aw [((0, 0), (0, 0)), ((2, 0), (2, 0)), ((7, 50), (34, 0)), ((14, 0), (14, 0))] ?_
  cbv
  all_goals exact J4
 replace hh := ifF hh BS
 try rw [BS]
 cbv
 refine ⟨[iA b, iA c, iA d, tA (qInt j), tA (qGOcc u), tA (qGOcc v), tA (qGOcc w), tA (qGOcc y), tA (qGOcc t), iA p], Gb s, ?_⟩
 cbv
 replace hh := bind_some hh
 obtain ⟨BV, EB, hh⟩ := hh
 refine ac hF (ah.frz (r' := tA (qGOcc BV)) (uv hQ EB) (by cases hQ; simp)) ?_
 cbv
 refine ⟨[iA b, iA c, iA d, tA (qInt j), tA (qGOcc u), tA (qGOcc v), tA (qGOcc w), tA (qGOcc y), tA (qGOcc t), iA p], Gb s, ?_⟩
 cbv
 replace hh := bind_some hh
 obtain ⟨CZ, EC, hh⟩ := hh
 refine ac hF (ah.frz (r' := tA (qGOcc CZ)) (fk hQ (g1 := fun y0 => cT.f y0 p1) (fun h => ky hQ h) EC) (by cases hQ; simp)) ?_
 cbv
 refine ⟨[iA b, iA c, iA d, tA (qInt j), tA (qGOcc u), tA (qGOcc v), tA (qGOcc w), tA (qGOcc y), tA (qGOcc t), iA p], Gb s, ?_⟩
 cbv
 replace hh := aa hh
 obtain ⟨ED, hh⟩ := hh
 replace hh := bind_some hh
 obtain ⟨EE, EF, hh⟩ := hh
 replace hh := aa hh
 obtain ⟨EG, hh⟩ := hh
 replace hh := aa hh
 obtain ⟨EH, hh⟩ := hh
 replace hh := bind_some hh
 obtain ⟨BW, EI, hh⟩ := hh
 refine ⟨[(5, 0), (9, 0), (1007, 50), (1014, 0)], ?_⟩
 cbv
 refine ⟨tA (qGOcc BW), ?_, ?_⟩
 ·refine c9 hC (co [] [185] [216]) mixed (ts := [(4, none)]) Tryz.func216 (by kernel_rfl) (by kernel_rfl) ?_
  intro S N
  cbv
  refine ⟨[iA b, iA c, iA d, tA (qInt j), tA (qGOcc u), tA (qGOcc v), tA (qGOcc w), tA (qGOcc y), tA (qGOcc CZ), iA p], Gb2 s ((List.getElem?_eq_some_iff.1 s).1), ?_⟩
  cbv
  refine ⟨[iA EE], Nb ED, Gb EF, ?_⟩
  cbv
  refine ⟨Nb EG, Mb EH, ?_⟩
  refine ⟨[tA (qGOcc BW)], Gb EI, ?_⟩
  cbv
  exact Rb
 cbv
 replace hh := bind_some hh
 obtain ⟨o2, ES, ET⟩ := hh
 refine au hC (co [] [185] [216]) mixed (fun n (i : (List GNode) × Int) => ak.l2 k BW z n i.1 i.2)
  (fun ⟨CI, C0⟩ => (⟨[(5, .mptr (5, 0) 1 0 0), (12, tA (qGOcc BV)), (36, tA (qGOcc BW)), (37, iA (cast (len (qGOcc BW)))), (38, iA C0), (2000000, .mptr (1000, 0) 1 0 0), (2000001, iA p1), (2000002, .mptr (1002, 0) 1 0 0), (2000007, .ref (1007, 50) 1 0 (len (qLGOcc A))), (2000009, .mptr (1014, 0) 1 (nadd 0 (toNat z)) 0), (2000015, iA (cast (len (qGNode p0b)))), (2000016, iA z), (3000000, .mptr (1000, 0) 1 0 0), (3000002, .mptr (1002, 0) 1 0 0)], [((5, 0), .box 1 [.mptr (1014, 0) 1 (nadd 0 (toNat z)) 0]), ((1000, 0), .box 1 [iA p0a, .ref (1014, 0) 1 0 (len (qGNode CI)), iA p0c, iA p0d, bA D]), ((1002, 0), .box 1 [iA p2a, iA p2b, iA p2c]), ((1007, 50), .arr 1 1 (qLGOcc A)), ((1014, 0), .arr 1 10 (qGNode CI))]⟩ : St))
  (fun (BX : List GNode) => (⟨[(12, tA (qGOcc BV)), (2000000, .mptr (1000, 0) 1 0 0), (2000001, iA p1), (2000002, .mptr (1002, 0) 1 0 0), (2000007, .ref (1007, 50) 1 0 (len (qLGOcc A))), (2000009, .mptr (1014, 0) 1 (nadd 0 (toNat z)) 0), (2000015, iA (cast (len (qGNode p0b)))), (2000016, iA z), (3000000, .mptr (1000, 0) 1 0 0), (3000002, .mptr (1002, 0) 1 0 0)], [((1000, 0), .box 1 [iA p0a, .ref (1014, 0) 1 0 (len (qGNode BX)), iA p0c, iA p0d, bA D]), ((1002, 0), .box 1 [iA p2a, iA p2b, iA p2c]), ((1007, 50), .arr 1 1 (qLGOcc A)), ((1014, 0), .arr 1 10 (qGNode BX))]⟩ : St)) (fun x => x) (.exit 1)
  (i0 := (_, _)) ES (fun _ => rfl) ?_ ?_ ?_
 ·rintro ⟨F, G⟩ e
  refine ai ?_
  cbv
  all_goals exact J2
 rintro BX hx
 subst o2
 have hh := ET
 cbv
 refine ⟨⟨(⟨[(0, .mptr (0, 0) 1 0 0), (1, iA p1), (2, .mptr (2, 0) 1 0 0), (7, .ref (7, 50) 1 0 (len (qLGOcc A))), (9, .mptr (14, 0) 1 (nadd 0 (toNat z)) 0), (15, iA (cast (len (qGNode p0b)))), (16, iA z), (30, tA (qGOcc BV)), (1000000, .mptr (0, 0) 1 0 0), (1000002, .mptr (2, 0) 1 0 0)], [((0, 0), .box 1 [iA p0a, .ref (14, 0) 1 0 (len (qGNode BX)), iA p0c, iA p0d, bA D]), ((2, 0), .box 1 [iA p2a, iA p2b, iA p2c]), ((7, 50), .arr 1 1 (qLGOcc A)), ((14, 0), .arr 1 10 (qGNode BX))]⟩ : St), ?_, ?_⟩, trivial⟩
 ·refine aw [((0, 0), (1000, 0)), ((2, 0), (1002, 0)), ((7, 50), (1007, 50)), ((14, 0), (1014, 0))] ?_
  cbv
  all_goals exact Zb
 cbv
 replace hh := aa hh
 obtain ⟨EJ, hh⟩ := hh
 refine ⟨⟨Ob, Ab⟩, ?_⟩
 refine ⟨⟨Ob, Wb EJ⟩, ?_⟩
 replace hh := bind_some hh
 obtain ⟨⟨B1, B4, B6, B7, ⟨B9, Cc⟩, ⟨Cd, Ce⟩, Cf, Cg⟩, Ch, hh⟩ := hh
 try dsimp only at hh
 refine ⟨[iA B1, iA B4, iA B6, tA (qInt B7), tA (qGOcc B9), tA (qGOcc Cc), tA (qGOcc Cd), tA (qGOcc Ce), tA (qGOcc Cf), iA Cg], Gb Ch, ?_⟩
 cbv
 refine ⟨[iA B1, iA B4, iA B6, tA (qInt B7), tA (qGOcc B9), tA (qGOcc Cc), tA (qGOcc Cd), tA (qGOcc Ce), tA (qGOcc Cf), iA Cg], Gb Ch, ?_⟩
 cbv
 refine bcs (fun BY => ?_) (fun BY => ?_)
 replace hh := ifT hh BY
 try rw [BY]
 cbv
 ·refine C (_, _, _, _) _ hh fun ⟨F, G, H, T⟩ e => ?_
  refine aw [((0, 0), (0, 0)), ((2, 0), (2, 0)), ((7, 50), (34, 0)), ((14, 0), (14, 0))] ?_
  cbv
  all_goals exact J4
 replace hh := ifF hh BY
 try rw [BY]
 cbv
 refine ⟨[iA B1, iA B4, iA B6, tA (qInt B7), tA (qGOcc B9), tA (qGOcc Cc), tA (qGOcc Cd), tA (qGOcc Ce), tA (qGOcc Cf), iA (wrap .i64 (add Cg (cast (len (qGOcc BV)))))], Gb2 Ch ((List.getElem?_eq_some_iff.1 Ch).1), ?_⟩
 cbv
 ·refine C (_, _, _, _) _ hh fun ⟨F, G, H, T⟩ e => ?_
  refine aw [((0, 0), (0, 0)), ((2, 0), (2, 0)), ((7, 50), (34, 0)), ((14, 0), (14, 0))] ?_
  cbv
  all_goals exact J4
 rintro n ⟨CI, C0⟩ N2 D2 hh EU EV E3
 try dsimp only at hh
 unfold ak.l2 at hh
 cbv
 refine bcs (fun B0 => ?_) (fun B0 => ?_)
 replace hh := ifT hh B0
 try rw [B0]
 cbv
 replace hh := aa hh
 obtain ⟨EK, hh⟩ := hh
 replace hh := bind_some hh
 obtain ⟨⟨C1, C2, C3⟩, EL, hh⟩ := hh
 try dsimp only at hh
 refine ⟨[iA C1, iA C2, tA (qInt C3)], Nb EK, Gb EL, ?_⟩
 cbv
 replace hh := bind_some hh
 obtain ⟨⟨Cm, Cn, Cq, Cv, ⟨Cw, Cx⟩, ⟨Cy, Cz⟩, CA, CB⟩, CJ, hh⟩ := hh
 try dsimp only at hh
 refine ⟨[iA Cm, iA Cn, iA Cq, tA (qInt Cv), tA (qGOcc Cw), tA (qGOcc Cx), tA (qGOcc Cy), tA (qGOcc Cz), tA (qGOcc CA), iA CB], Gb CJ, ?_⟩
 cbv
 refine ⟨[iA Cm, iA Cn, iA Cq, tA (qInt Cv), tA (qGOcc Cw), tA (qGOcc Cx), tA (qGOcc Cy), tA (qGOcc Cz), tA (qGOcc CA), iA CB], Gb CJ, ?_⟩
 cbv
 replace hh := bind_some hh
 obtain ⟨⟨EW, EX, EY⟩, EM, hh⟩ := hh
 try dsimp only at hh
 have fc := oY hQ EM
 try dsimp only at fc
 refine ac hF fc ?_
 cbv
 replace hh := bind_some hh
 obtain ⟨E1, EN, hh⟩ := hh
 refine ⟨Ob, ?_⟩
 refine ac hF (iv hQ EN) ?_
 cbv
 refine ⟨[iA Cm, iA Cn, iA Cq, tA (qInt Cv), tA (qGOcc Cw), tA (qGOcc Cx), tA (qGOcc Cy), tA (qGOcc Cz), tA (qGOcc CA), iA CB], Gb CJ, ?_⟩
 cbv
 ·refine EU (_, _) _ hh fun ⟨F, G⟩ e => ?_
  refine ai ?_
  cbv
  all_goals exact J2
 replace hh := ifF hh B0
 try rw [B0]
 cbv
 ·refine EV _ _ hh fun F e => ?_
  refine ai ?_
  cbv
  all_goals exact J1
 replace hh := ifF hh U
 try rw [U]
 cbv
 ·refine ER (_, _, _) _ hh fun ⟨F, G, H⟩ e => ?_
  refine ai ?_
  cbv
  all_goals exact J3

end Go.Proofs.YtlbnmldopjadoaaGreat
