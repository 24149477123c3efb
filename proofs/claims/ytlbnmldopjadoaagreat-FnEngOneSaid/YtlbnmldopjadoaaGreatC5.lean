/- The functions of this program do what the plain ones do. -/
import Derived.Test.YtlbnmldopjadoaaGreatC4
namespace Go.Proofs.YtlbnmldopjadoaaGreat
open Go Go.Vm
set_option linter.unusedVariables false
set_option maxHeartbeats 4000000
set_option maxRecDepth 4000
variable {qIu8 : List Int → Vm.Rows} {qGEx : List GEx → Vm.Rows} {qGRule : List GRule → Vm.Rows} {qStr : List ByteArray → Vm.Rows} {qInt : List Int → Vm.Rows} {qGExO : List GEx → Vm.Rows} {qGOcc : List GOcc → Vm.Rows} {qGNode : List GNode → Vm.Rows} {qGGraphS : List GGraph → Vm.Rows} {qGGraph : List GGraph → Vm.Rows} {qGEv : List GEv → Vm.Rows} {qGFire : List GFire → Vm.Rows} {qLGOcc : List (List GOcc) → Vm.Rows} {qGOccO : List GOcc → Vm.Rows} {qLInt : List (List Int) → Vm.Rows} (hQ : EQ qIu8 qGEx qGRule qStr qInt qGExO qGOcc qGNode qGGraphS qGGraph qGEv qGFire qLGOcc qGOccO qLInt)
include hQ
theorem kQ {k : Nat} {p0 : GGraph} {p1 : GEv} {r : (List GOcc) × GGraph} (hh : bz.f k p0 p1 = some r) : ah P 62 [.obox [iA p0.Mode, oA 10 (qGNode p0.Nodes), iA p0.Seen, iA p0.Now, bA p0.Full], .agg [iA p1.Sym, iA p1.At, iA p1.Val]] [.obox [iA r.2.Mode, oA 10 (qGNode r.2.Nodes), iA r.2.Seen, iA r.2.Now, bA r.2.Full], hA] (oA 3 (qGOcc r.1)) := by
 obtain ⟨p0a, p0b, p0c, p0d, p0e⟩ := p0
 obtain ⟨p1a, p1b, p1c⟩ := p1
 unfold bz.f at hh
 refine go (ts := [(4, none)]) (rm := [.own]) (pm := [.own, .skip]) Tryz.func62 ?_
 intro Fn LW IN len cast toNat wrap add sub mul bin lt eq At set part app fz' rep nadd nmax ssize sext sget scat seq slt Wide Flat Ones Room r' post' hC hF hr hp
 cbv
 replace hh := bind_some hh
 obtain ⟨o1, S, T⟩ := hh
 refine au hC eok mixed (fun n (i : Int × (List GNode) × Int × Int × Bool × (List GOcc)) => bz.l0 k (⟨p1a, p1b, p1c⟩ : GEv) n i.1 i.2.1 i.2.2.1 i.2.2.2.1 i.2.2.2.2.1 i.2.2.2.2.2)
  (fun ⟨B, t, C, D, o, u⟩ => (⟨[(0, .mptr (0, 0) 1 0 0), (3, .mptr (3, 0) 1 0 0), (5, .ref (5, 50) 1 0 (len (qGOcc u))), (1000000, .mptr (0, 0) 1 0 0)], [((0, 0), .box 1 [iA B, .ref (900, 0) 1 0 (len (qGNode t)), iA C, iA D, bA o]), ((3, 0), .box 1 [iA p1a, iA p1b, iA p1c]), ((5, 50), .arr 1 3 (qGOcc u)), ((900, 0), .arr 1 10 (qGNode t))]⟩ : St))
  (fun (⟨F, v, G, H, p, w⟩ : Int × (List GNode) × Int × Int × Bool × (List GOcc)) => (⟨[(0, .mptr (0, 0) 1 0 0), (3, .mptr (3, 0) 1 0 0), (5, .ref (5, 50) 1 0 (len (qGOcc w))), (1000000, .mptr (0, 0) 1 0 0)], [((0, 0), .box 1 [iA F, .ref (900, 0) 1 0 (len (qGNode v)), iA G, iA H, bA p]), ((3, 0), .box 1 [iA p1a, iA p1b, iA p1c]), ((5, 50), .arr 1 3 (qGOcc w)), ((900, 0), .arr 1 10 (qGNode v))]⟩ : St)) (fun x => x) (.exit 0)
  (i0 := (_, _, _, _, _, _)) S (fun _ => rfl) ?_ ?_ ?_
 ·rintro ⟨L, M, N, O, Q, R⟩ e
  refine ee hC (0, 0) 900 ?_
  cbv
  refine aw [((0, 0), (0, 0)), ((3, 0), (3, 0)), ((900, 0), (900, 0))] ?_
  cbv
  all_goals exact J6
 rintro ⟨F, v, G, H, p, w⟩ hx
 subst o1
 have hh := T
 cbv
 replace hh := aD hh
 rcases hh with ⟨y, hh⟩ | ⟨y, hh⟩
 have b : p = true := Tb y
 have g := b; cbv at g; try rw [b]
 try rw [g]
 cbv
 refine ⟨3, ?_⟩
 cbv
 refine ⟨10, ?_⟩
 cbv
 exact Eb
 have b : p = false := Fb y
 have g := b; cbv at g; try rw [b]
 try rw [g]
 cbv
 replace hh := bind_some hh
 obtain ⟨⟨B6, ⟨U, V, W, X, Y⟩, ⟨Z, dj, xm⟩⟩, AU, hh⟩ := hh
 try dsimp only at hh
 have fc := od hQ AU
 try dsimp only at fc
 refine ac hF fc ?_
 cbv
 replace hh := aa hh
 obtain ⟨I, hh⟩ := hh
 try dsimp only at I
 refine ⟨⟨Ab, Ab⟩, ?_⟩
 refine ⟨⟨Ob, Wb I⟩, ?_⟩
 refine bcs (fun c => ?_) (fun c => ?_)
 replace hh := ifT hh c
 try rw [c]
 cbv
 refine ⟨3, ?_⟩
 cbv
 refine ⟨10, ?_⟩
 cbv
 exact Eb
 replace hh := ifF hh c
 try rw [c]
 cbv
 exact Eb
 rintro n ⟨B, t, C, D, o, u⟩ N1 D1 hh Bz J Cd
 try dsimp only at hh
 unfold bz.l0 at hh
 cbv
 replace hh := aD hh
 rcases hh with ⟨z, hh⟩ | ⟨z, hh⟩
 have d : o = true := Tb z
 have g := d; cbv at g; try rw [d]
 try rw [g]
 cbv
 ·refine J (_, _, _, _, _, _) _ hh fun ⟨L, M, N, O, Q, R⟩ e => ?_
  refine ai ?_
  cbv
  all_goals exact J6
 have d : o = false := Fb z
 have g := d; cbv at g; try rw [d]
 try rw [g]
 cbv
 replace hh := bind_some hh
 obtain ⟨⟨B7, s, ⟨BB, BL, BR, BS, BU⟩⟩, BV, hh⟩ := hh
 try dsimp only at hh
 have fc := qQ hQ BV
 try dsimp only at fc
 refine ac hF fc ?_
 cbv
 replace hh := aD hh
 rcases hh with ⟨A, hh⟩ | ⟨A, hh⟩
 have j : s = true := Tb A
 have g := j; cbv at g; try rw [j]
 try rw [g]
 cbv
 replace hh := bind_some hh
 obtain ⟨⟨B9, ⟨BW, BX, BY, B0, B1⟩⟩, B4, hh⟩ := hh
 try dsimp only at hh
 have fc := lT hQ B4
 try dsimp only at fc
 refine ac hF fc ?_
 cbv
 replace hh := aa hh
 obtain ⟨K, hh⟩ := hh
 try dsimp only at K
 refine ⟨⟨Ab, Ab⟩, ?_⟩
 refine ⟨⟨Ob, Wb K⟩, ?_⟩
 ·refine Bz (_, _, _, _, _, _) _ hh fun ⟨L, M, N, O, Q, R⟩ e => ?_
  refine ee hC (0, 0) 900 ?_
  cbv
  refine aw [((0, 0), (0, 0)), ((3, 0), (3, 0)), ((5, 50), (26, 0)), ((900, 0), (900, 0))] ?_
  cbv
  all_goals exact J6
 have j : s = false := Fb A
 have g := j; cbv at g; try rw [j]
 try rw [g]
 cbv
 ·refine J (_, _, _, _, _, _) _ hh fun ⟨L, M, N, O, Q, R⟩ e => ?_
  refine ee hC (0, 0) 900 ?_
  cbv
  refine ai ?_
  cbv
  all_goals exact J6

theorem qR {p0 : GEng} {p1 : GRule} {p2 : GOcc} {r : Int × Bool} (hh : fF.f p0 p1 p2 = some r) : ah P 225 [.agg [tA (qGRule p0.Rules), tA (qGGraph p0.Graphs), tA (qGEv p0.Events), tA (qInt p0.Keys), tA (qGFire p0.Fired)], .agg [sA p1.Name, iA p1.Pri, iA p1.Mode, iA p1.Ex.Kind, iA p1.Ex.Sym, iA p1.Ex.N, tA (qGEx p1.Ex.Kids), iA p1.Low, iA p1.High, iA p1.Key, iA p1.Add, iA p1.Raise], .agg [iA p2.From, iA p2.To, tA (qInt p2.Ids)]] [hA, hA, hA] (.tup [iA r.1, bA r.2]) := by
 obtain ⟨p0a, p0b, p0c, p0d, p0e⟩ := p0
 obtain ⟨p1a, p1b, p1c, ⟨p1d, p1e, p1f, p1g⟩, p1h, p1i, p1j, p1k, p1l⟩ := p1
 obtain ⟨p2a, p2b, p2c⟩ := p2
 unfold fF.f at hh
 refine go (ts := [(6, none), (7, none)]) (rm := [.own, .own]) (pm := [.skip, .skip, .skip]) Tryz.func225 ?_
 intro Fn LW IN len cast toNat wrap add sub mul bin lt eq At set part app fz' rep nadd nmax ssize sext sget scat seq slt Wide Flat Ones Room r' post' hC hF hr hp
 cbv
 replace hh := bind_some hh
 obtain ⟨t, j, hh⟩ := hh
 refine ac hF (jp hQ j) ?_
 cbv
 replace hh := aa hh
 obtain ⟨o, hh⟩ := hh
 replace hh := bind_some hh
 obtain ⟨⟨b, c, d⟩, p, hh⟩ := hh
 try dsimp only at hh
 refine ⟨[iA b, iA c, iA d], Nb o, Gb p, ?_⟩
 cbv
 replace hh := bind_some hh
 obtain ⟨u, s, hh⟩ := hh
 refine ac hF (bo hQ s) ?_
 cbv
 exact Eb
theorem kr {p0 : GEng} {p1 : GRule} {p2 : GOcc} {r : Int × Bool} (hh : fF.f p0 p1 p2 = some r) : ah P 225 [.agg [tA (qGRule p0.Rules), oA 5 (qGGraphS p0.Graphs), oA 3 (qGEv p0.Events), oA 1 (qInt p0.Keys), oA 4 (qGFire p0.Fired)], .agg [sA p1.Name, iA p1.Pri, iA p1.Mode, iA p1.Ex.Kind, iA p1.Ex.Sym, iA p1.Ex.N, tA (qGEx p1.Ex.Kids), iA p1.Low, iA p1.High, iA p1.Key, iA p1.Add, iA p1.Raise], .agg [iA p2.From, iA p2.To, tA (qInt p2.Ids)]] [.agg [tA (qGRule p0.Rules), oA 5 (qGGraphS p0.Graphs), oA 3 (qGEv p0.Events), oA 1 (qInt p0.Keys), oA 4 (qGFire p0.Fired)], hA, hA] (.tup [iA r.1, bA r.2]) := by
  cases hQ; exact (qR .mk hh).lend (rfl) (.lend (by simp) (.same rfl (.same rfl .nil)))

theorem rH {p0 : GEng} {p1 : Int} {p2 : GOcc} {p3 : Graiser} {r : Int × GEng × Graiser} (hh : gh.f p0 p1 p2 p3 = some r) : ah P 190 [.obox [tA (qGRule p0.Rules), oA 5 (qGGraphS p0.Graphs), oA 3 (qGEv p0.Events), oA 1 (qInt p0.Keys), oA 4 (qGFire p0.Fired)], iA p1, .agg [iA p2.From, iA p2.To, tA (qInt p2.Ids)], .obox [oA 3 (qGEv p3.queue), iA p3.raised]] [.obox [tA (qGRule r.2.1.Rules), oA 5 (qGGraphS r.2.1.Graphs), oA 3 (qGEv r.2.1.Events), oA 1 (qInt r.2.1.Keys), oA 4 (qGFire r.2.1.Fired)], hA, hA, .obox [oA 3 (qGEv r.2.2.queue), iA r.2.2.raised]] (iA r.1) := by
 obtain ⟨p0a, p0b, p0c, p0d, p0e⟩ := p0
 obtain ⟨p2a, p2b, p2c⟩ := p2
 obtain ⟨p3a, p3b⟩ := p3
 unfold gh.f at hh
 refine go (ts := [(8, none)]) (rm := [.own]) (pm := [.own, .skip, .skip, .own]) Tryz.func190 ?_
 intro Fn LW IN len cast toNat wrap add sub mul bin lt eq At set part app fz' rep nadd nmax ssize sext sget scat seq slt Wide Flat Ones Room r' post' hC hF hr hp
 cbv
 replace hh := aa hh
 obtain ⟨U, hh⟩ := hh
 replace hh := bind_some hh
 obtain ⟨⟨F, G, H, ⟨I, J, K, L⟩, M, N, O, Q, R⟩, V, hh⟩ := hh
 try dsimp only at hh
 refine ⟨[sA F, iA G, iA H, iA I, iA J, iA K, tA (qGEx L), iA M, iA N, iA O, iA Q, iA R], Nb U, Gb V, ?_⟩
 cbv
 replace hh := bind_some hh
 obtain ⟨⟨W, j⟩, X, hh⟩ := hh
 try dsimp only at hh
 have fc := kr hQ X
 try dsimp only at fc
 refine ac hF fc ?_
 cbv
 replace hh := aD hh
 rcases hh with ⟨D, hh⟩ | ⟨D, hh⟩
 have o : j = true := Tb D
 have g := o; cbv at g; try rw [o]
 try rw [g]
 cbv
 replace hh := aa hh
 obtain ⟨S, hh⟩ := hh
 try dsimp only at S
 replace hh := aa hh
 obtain ⟨u, hh⟩ := hh
 try dsimp only at u
 refine ⟨Nb S, Mb u, ?_⟩
 replace hh := bind_some hh
 obtain ⟨p, s, hh⟩ := hh
 refine ⟨[iA p], Gb s, ?_⟩
 cbv
 replace hh := bind_some hh
 obtain ⟨v, T, hh⟩ := hh
 refine ac hF (bo hQ T) ?_
 cbv
 replace hh := aD hh
 rcases hh with ⟨t, hh⟩ | ⟨t, hh⟩
 have b : v = true := Tb t
 have g := b; cbv at g; try rw [b]
 try rw [g]
 cbv
 replace hh := aa hh
 obtain ⟨w, hh⟩ := hh
 try dsimp only at w
 replace hh := aa hh
 obtain ⟨y, hh⟩ := hh
 try dsimp only at y
 refine ⟨Nb w, Mb y, ?_⟩
 refine ⟨[iA p], Gb s, ?_⟩
 cbv
 replace hh := aa hh
 obtain ⟨z, hh⟩ := hh
 try dsimp only at z
 replace hh := aa hh
 obtain ⟨A, hh⟩ := hh
 try dsimp only at A
 refine ⟨Nb z, Mb A, ?_⟩
 refine ⟨[iA p], Gb s, ?_⟩
 cbv
 replace hh := aa hh
 obtain ⟨B, hh⟩ := hh
 try dsimp only at B
 refine ⟨⟨Ob, Ab⟩, ?_⟩
 refine ⟨⟨Ob, Wb B⟩, ?_⟩
 refine bcs (fun c => ?_) (fun c => ?_)
 replace hh := ifT hh c
 try rw [c]
 cbv
 exact Eb
 replace hh := ifF hh c
 try rw [c]
 cbv
 refine bcs (fun d => ?_) (fun d => ?_)
 replace hh := ifT hh d
 try rw [d]
 cbv
 exact Eb
 replace hh := ifF hh d
 try rw [d]
 cbv
 replace hh := aa hh
 obtain ⟨C, hh⟩ := hh
 try dsimp only at C
 refine ⟨⟨Ob, Ab⟩, ?_⟩
 refine ⟨⟨Ob, Wb C⟩, ?_⟩
 exact Eb
 have b : v = false := Fb t
 have g := b; cbv at g; try rw [b]
 try rw [g]
 cbv
 exact Eb
 have o : j = false := Fb D
 have g := o; cbv at g; try rw [o]
 try rw [g]
 cbv
 exact Eb

theorem pB {k : Nat} {p0 : GEng} {p1 : GEv} {p2 : Graiser} {r : Int × GEng × Graiser} (hh : aP.f k p0 p1 p2 = some r) : ah P 143 [.obox [tA (qGRule p0.Rules), oA 5 (qGGraphS p0.Graphs), oA 3 (qGEv p0.Events), oA 1 (qInt p0.Keys), oA 4 (qGFire p0.Fired)], .agg [iA p1.Sym, iA p1.At, iA p1.Val], .obox [oA 3 (qGEv p2.queue), iA p2.raised]] [.obox [tA (qGRule r.2.1.Rules), oA 5 (qGGraphS r.2.1.Graphs), oA 3 (qGEv r.2.1.Events), oA 1 (qInt r.2.1.Keys), oA 4 (qGFire r.2.1.Fired)], hA, .obox [oA 3 (qGEv r.2.2.queue), iA r.2.2.raised]] (iA r.1) := by
 obtain ⟨p0a, p0b, p0c, p0d, p0e⟩ := p0
 obtain ⟨p1a, p1b, p1c⟩ := p1
 obtain ⟨p2a, p2b⟩ := p2
 unfold aP.f at hh
 refine go (ts := [(6, none)]) (rm := [.own]) (pm := [.own, .skip, .own]) Tryz.func143 ?_
 intro Fn LW IN len cast toNat wrap add sub mul bin lt eq At set part app fz' rep nadd nmax ssize sext sget scat seq slt Wide Flat Ones Room r' post' hC hF hr hp
 cbv
 refine bcs (fun V => ?_) (fun V => ?_)
 replace hh := ifT hh V
 try rw [V]
 cbv
 exact Eb
 replace hh := ifF hh V
 try rw [V]
 cbv
 refine bcs (fun W => ?_) (fun W => ?_)
 replace hh := ifT hh W
 try rw [W]
 cbv
 exact Eb
 replace hh := ifF hh W
 try rw [W]
 cbv
 replace hh := aa hh
 obtain ⟨h5, hh⟩ := hh
 try dsimp only at h5
 refine ⟨⟨Ob, Ab⟩, ?_⟩
 refine ⟨⟨Ob, Wb h5⟩, ?_⟩
 replace hh := bind_some hh
 obtain ⟨p, h6, hh⟩ := hh
 refine ac hF (wj hQ h6) ?_
 cbv
 replace hh := bind_some hh
 obtain ⟨o1, CJ, X⟩ := hh
 refine au hC eok mixed (fun n (i : (List GRule) × (List GGraph) × (List GEv) × (List Int) × (List GFire) × (List GEv) × Int × Int) => aP.l2 k (⟨p1a, p1b, p1c⟩ : GEv) p n i.1 i.2.1 i.2.2.1 i.2.2.2.1 i.2.2.2.2.1 i.2.2.2.2.2.1 i.2.2.2.2.2.2.1 i.2.2.2.2.2.2.2)
  (fun ⟨Cd, T, Y, Z, dj, xm, Ce, U⟩ => (⟨[(0, .mptr (0, 0) 1 0 0), (2, .mptr (2, 0) 1 0 0), (4, .mptr (4, 0) 1 0 0), (39, .ref (39, 0) 1 0 (len (qInt p))), (40, iA (cast (len (qInt p)))), (41, iA U), (1000000, .mptr (0, 0) 1 0 0), (1000002, .mptr (2, 0) 1 0 0)], [((0, 0), .box 1 [tA (qGRule Cd), .ref (900, 0) 1 0 (len (qGGraphS T)), .ref (32, 0) 1 0 (len (qGEv Y)), .ref (900, 1) 1 0 (len (qInt Z)), .ref (900, 2) 1 0 (len (qGFire dj))]), ((2, 0), .box 1 [.ref (901, 0) 1 0 (len (qGEv xm)), iA Ce]), ((4, 0), .box 1 [iA p1a, iA p1b, iA p1c]), ((32, 0), .arr 1 3 (qGEv Y)), ((39, 0), .arr 1 1 (qInt p)), ((900, 0), .arr 1 5 (qGGraphS T)), ((900, 1), .arr 1 1 (qInt Z)), ((900, 2), .arr 1 4 (qGFire dj)), ((901, 0), .arr 1 3 (qGEv xm))]⟩ : St))
  (fun (⟨AU, A, B, C, D, F, Bz⟩ : (List GRule) × (List GGraph) × (List GEv) × (List Int) × (List GFire) × (List GEv) × Int) => (⟨[(1000000, .mptr (0, 0) 1 0 0), (1000002, .mptr (2, 0) 1 0 0)], [((0, 0), .box 1 [tA (qGRule AU), .ref (900, 0) 1 0 (len (qGGraphS A)), .ref (32, 0) 1 0 (len (qGEv B)), .ref (900, 1) 1 0 (len (qInt C)), .ref (900, 2) 1 0 (len (qGFire D))]), ((2, 0), .box 1 [.ref (901, 0) 1 0 (len (qGEv F)), iA Bz]), ((32, 0), .arr 1 3 (qGEv B)), ((900, 0), .arr 1 5 (qGGraphS A)), ((900, 1), .arr 1 1 (qInt C)), ((900, 2), .arr 1 4 (qGFire D)), ((901, 0), .arr 1 3 (qGEv F))]⟩ : St)) .ok (.exit 0)
  (i0 := (_, _, _, _, _, _, _, _)) CJ (fun _ => rfl) ?_ ?_ ?_
 ·rintro ⟨t0, t1, t2, t3, t4, t5, t6, t7⟩ e
  refine ee hC (0, 0) 900 ?_
  cbv
  refine ee hC (2, 0) 901 ?_
  cbv
  refine ai ?_
  cbv
  all_goals exact J8
 rintro ⟨AU, A, B, C, D, F, Bz⟩ hx
 subst o1
 have hh := X
 cbv
 exact Eb
 rintro n ⟨Cd, T, Y, Z, dj, xm, Ce, U⟩ N1 D1 hh CK CL Cf
 try dsimp only at hh
 unfold aP.l2 at hh
 cbv
 refine bcs (fun c => ?_) (fun c => ?_)
 replace hh := ifT hh c
 try rw [c]
 cbv
 replace hh := aa hh
 obtain ⟨Cm, hh⟩ := hh
 replace hh := aa hh
 obtain ⟨Cn, hh⟩ := hh
 refine ⟨Nb Cm, Mb Cn, ?_⟩
 replace hh := bind_some hh
 obtain ⟨y, Cq, hh⟩ := hh
 refine ⟨[iA y], Gb Cq, ?_⟩
 cbv
 replace hh := aa hh
 obtain ⟨Cv, hh⟩ := hh
 replace hh := aa hh
 obtain ⟨Cw, hh⟩ := hh
 refine ⟨Nb Cv, Mb Cw, ?_⟩
 replace hh := bind_some hh
 obtain ⟨⟨CQ, CS, CT, CU, CV⟩, G, hh⟩ := hh
 try dsimp only at hh
 replace hh := bind_some hh
 obtain ⟨⟨b, ⟨s, t, u, v, w⟩⟩, Cx, hh⟩ := hh
 try dsimp only at hh
 have fc := ah.rowedC hC (kQ hQ Cx) rfl (.row (rows := (qGGraphS T)) (k := 5) (i := (nadd 0 (toNat y))) (Gb G) rfl (.same .nil))
 try dsimp only at fc
 refine ac hF fc ?_
 cbv
 refine ⟨⟨Ob, trivial⟩, ?_⟩
 cbv
 refine ⟨[iA s, oA 10 (qGNode t), iA u, iA v, bA w], Gb2 G ((List.getElem?_eq_some_iff.1 G).1), ?_⟩
 cbv
 refine bcs (fun d => ?_) (fun d => ?_)
 replace hh := ifT hh d
 try rw [d]
 cbv
 cases hh
 have hh : some _ = some _ := X
 refine Cf _ _ ?_
 cbv
 exact Eb
 replace hh := ifF hh d
 try rw [d]
 cbv
 replace hh := bind_some hh
 obtain ⟨o2, CM, Cg⟩ := hh
 refine au hC eok mixed (fun n (i : (List GRule) × (List GGraph) × (List GEv) × (List Int) × (List GFire) × (List GEv) × Int × Int) => aP.l3 k y (⟨b, ⟨s, t, u, v, w⟩⟩ : (List GOcc) × GGraph) n i.1 i.2.1 i.2.2.1 i.2.2.2.1 i.2.2.2.2.1 i.2.2.2.2.2.1 i.2.2.2.2.2.2.1 i.2.2.2.2.2.2.2)
  (fun ⟨BX, H, I, J, K, L, BY, B0⟩ => (⟨[(0, .mptr (0, 0) 1 0 0), (2, .mptr (2, 0) 1 0 0), (4, .mptr (4, 0) 1 0 0), (8, iA y), (39, .ref (39, 0) 1 0 (len (qInt p))), (40, iA (cast (len (qInt p)))), (41, iA U), (58, .ref (53, 0) 1 0 (len (qGOcc b))), (59, iA (cast (len (qGOcc b)))), (60, iA B0), (1000000, .mptr (0, 0) 1 0 0), (1000002, .mptr (2, 0) 1 0 0)], [((0, 0), .box 1 [tA (qGRule BX), .ref (900, 0) 1 0 (len (qGGraphS H)), .ref (32, 0) 1 0 (len (qGEv I)), .ref (900, 1) 1 0 (len (qInt J)), .ref (900, 2) 1 0 (len (qGFire K))]), ((2, 0), .box 1 [.ref (901, 0) 1 0 (len (qGEv L)), iA BY]), ((4, 0), .box 1 [iA p1a, iA p1b, iA p1c]), ((32, 0), .arr 1 3 (qGEv I)), ((39, 0), .arr 1 1 (qInt p)), ((53, 0), .arr 1 3 (qGOcc b)), ((900, 0), .arr 1 5 (qGGraphS H)), ((900, 1), .arr 1 1 (qInt J)), ((900, 2), .arr 1 4 (qGFire K)), ((901, 0), .arr 1 3 (qGEv L))]⟩ : St))
  (fun (⟨B1, M, N, O, Q, R, B4⟩ : (List GRule) × (List GGraph) × (List GEv) × (List Int) × (List GFire) × (List GEv) × Int) => (⟨[(0, .mptr (0, 0) 1 0 0), (2, .mptr (2, 0) 1 0 0), (4, .mptr (4, 0) 1 0 0), (39, .ref (39, 0) 1 0 (len (qInt p))), (40, iA (cast (len (qInt p)))), (41, iA U), (1000000, .mptr (0, 0) 1 0 0), (1000002, .mptr (2, 0) 1 0 0)], [((0, 0), .box 1 [tA (qGRule B1), .ref (900, 0) 1 0 (len (qGGraphS M)), .ref (32, 0) 1 0 (len (qGEv N)), .ref (900, 1) 1 0 (len (qInt O)), .ref (900, 2) 1 0 (len (qGFire Q))]), ((2, 0), .box 1 [.ref (901, 0) 1 0 (len (qGEv R)), iA B4]), ((4, 0), .box 1 [iA p1a, iA p1b, iA p1c]), ((32, 0), .arr 1 3 (qGEv N)), ((39, 0), .arr 1 1 (qInt p)), ((900, 0), .arr 1 5 (qGGraphS M)), ((900, 1), .arr 1 1 (qInt O)), ((900, 2), .arr 1 4 (qGFire Q)), ((901, 0), .arr 1 3 (qGEv R))]⟩ : St)) .ok (.exit 2)
  (i0 := (_, _, _, _, _, _, _, _)) CM (fun _ => rfl) ?_ ?_ ?_
 ·rintro ⟨t0, t1, t2, t3, t4, t5, t6, t7⟩ e
  refine ai ?_
  cbv
  all_goals exact J8
 rintro ⟨B1, M, N, O, Q, R, B4⟩ hx
 subst o2
 have hh := Cg
 cbv
 ·refine CK (_, _, _, _, _, _, _, _) _ hh fun ⟨t0, t1, t2, t3, t4, t5, t6, t7⟩ e => ?_
  refine ai ?_
  cbv
  all_goals exact J8
 rintro n ⟨BX, H, I, J, K, L, BY, B0⟩ N2 D2 hh CN CO CP
 try dsimp only at hh
 unfold aP.l3 at hh
 cbv
 refine bcs (fun j => ?_) (fun j => ?_)
 replace hh := ifT hh j
 try rw [j]
 cbv
 replace hh := aa hh
 obtain ⟨Cy, hh⟩ := hh
 replace hh := aa hh
 obtain ⟨B6, hh⟩ := hh
 try dsimp only at B6
 refine ⟨Nb Cy, Mb B6, ?_⟩
 replace hh := bind_some hh
 obtain ⟨⟨B7, B9, Cc⟩, Cz, hh⟩ := hh
 try dsimp only at hh
 refine ⟨[iA B7, iA B9, tA (qInt Cc)], Gb Cz, ?_⟩
 cbv
 replace hh := bind_some hh
 obtain ⟨⟨z, ⟨CB, CC, CD, CE, CF⟩, ⟨CG, CH⟩⟩, CA, hh⟩ := hh
 try dsimp only at hh
 have fc := rH hQ CA
 try dsimp only at fc
 refine ac hF fc ?_
 cbv
 replace hh := aD hh
 rcases hh with ⟨S, hh⟩ | ⟨S, hh⟩
 have o : (eq z 0) = true := Tb S
 have g := o; cbv at g; try rw [o]
 try rw [g]
 cbv
 ·refine CN (_, _, _, _, _, _, _, _) _ hh fun ⟨t0, t1, t2, t3, t4, t5, t6, t7⟩ e => ?_
  refine ee hC (0, 0) 900 ?_
  cbv
  refine ee hC (2, 0) 901 ?_
  cbv
  refine aw [((0, 0), (0, 0)), ((2, 0), (2, 0)), ((4, 0), (4, 0)), ((32, 0), (900, 1)), ((39, 0), (39, 0)), ((53, 0), (53, 0)), ((900, 0), (900, 0)), ((900, 1), (900, 2)), ((900, 2), (900, 3)), ((901, 0), (901, 0))] ?_
  cbv
  all_goals exact J8
 have o : (eq z 0) = false := Fb S
 have g := o; cbv at g; try rw [o]
 try rw [g]
 cbv
 cases hh
 have hh : some _ = some _ := Cg
 cases hh
 have hh : some _ = some _ := X
 refine CP _ _ ?_
 refine Cf _ _ ?_
 cbv
 exact Eb
 replace hh := ifF hh j
 try rw [j]
 cbv
 ·refine CO (_, _, _, _, _, _, _) _ hh fun ⟨t0, t1, t2, t3, t4, t5, t6⟩ e => ?_
  refine ai ?_
  cbv
  all_goals exact J7
 replace hh := ifF hh c
 try rw [c]
 cbv
 ·refine CL (_, _, _, _, _, _, _) _ hh fun ⟨t0, t1, t2, t3, t4, t5, t6⟩ e => ?_
  refine ai ?_
  cbv
  all_goals exact J7

theorem rB {k : Nat} {p0 : GEng} {p1 : Int} {p2 : Int} {p3 : Int} {r : GEng × Int × (List GFire)} (hh : ct.f k p0 p1 p2 p3 = some r) : ah P 84 [.agg [tA (qGRule p0.Rules), tA (qGGraph p0.Graphs), tA (qGEv p0.Events), tA (qInt p0.Keys), tA (qGFire p0.Fired)], iA p1, iA p2, iA p3] [hA, hA, hA, hA] (.tup [.agg [tA (qGRule r.1.Rules), oA 5 (qGGraphS r.1.Graphs), oA 3 (qGEv r.1.Events), oA 1 (qInt r.1.Keys), oA 4 (qGFire r.1.Fired)], iA r.2.1, oA 4 (qGFire r.2.2)]) := by
 obtain ⟨p0a, p0b, p0c, p0d, p0e⟩ := p0
 unfold ct.f at hh
 refine goG (g := [9, 12]) (i := []) (o := []) (sh := []) (ts := [(8, some 53), (9, none), (10, none)]) (rm := [.own, .own, .own]) (pm := [.skip, .skip, .skip, .skip]) Tryz.func84 ?_
 intro Fn LW IN len cast toNat wrap add sub mul bin lt eq At set part app fz' rep nadd nmax ssize sext sget scat seq slt Wide Flat Ones Room r' post' hC hF hr hp
 cbv
 replace hh := bind_some hh
 obtain ⟨⟨Cy, Cz, CA, CB, CC⟩, h1, hh⟩ := hh
 try dsimp only at hh
 have fc := fX hQ h1
 try dsimp only at fc
 refine ac hF fc ?_
 cbv
 replace hh := bind_some hh
 obtain ⟨o1, M, H⟩ := hh
 refine au hC (co [9, 12] [] []) mixed (fun n (i : (List GRule) × (List GGraph) × (List GEv) × (List Int) × (List GFire) × (List GEv) × Int × Int) => ct.l0 k (⟨p0a, p0b, p0c, p0d, p0e⟩ : GEng) n i.1 i.2.1 i.2.2.1 i.2.2.2.1 i.2.2.2.2.1 i.2.2.2.2.2.1 i.2.2.2.2.2.2.1 i.2.2.2.2.2.2.2)
  (fun ⟨v, c, d, j, p, b, w, y⟩ => (⟨[(4, .mptr (4, 0) 1 0 0), (8, .mptr (8, 0) 1 0 0), (11, .mptr (11, 0) 1 0 0), (12, .mptr (23, 0) 1 0 0), (13, iA y)], [((4, 0), .box 1 [tA (qGRule p0a), tA (qGGraph p0b), tA (qGEv p0c), tA (qInt p0d), tA (qGFire p0e)]), ((8, 0), .box 1 [.lit (.slice none 0 0), .lit (.slice none 0 0), .lit (.slice none 0 0), .lit (.slice none 0 0), .lit (.slice none 0 0)]), ((11, 0), .box 1 [tA (qGRule v), .ref (17, 0) 1 0 (len (qGGraphS c)), .ref (17, 1) 1 0 (len (qGEv d)), .ref (17, 2) 1 0 (len (qInt j)), .ref (17, 3) 1 0 (len (qGFire p))]), ((17, 0), .arr 1 5 (qGGraphS c)), ((17, 1), .arr 1 3 (qGEv d)), ((17, 2), .arr 1 1 (qInt j)), ((17, 3), .arr 1 4 (qGFire p)), ((21, 0), .arr 1 3 (qGEv b)), ((23, 0), .box 1 [.ref (21, 0) 1 0 (len (qGEv b)), iA w])]⟩ : St))
  (fun (⟨I, z, A, B, C⟩ : (List GRule) × (List GGraph) × (List GEv) × (List Int) × (List GFire)) => (⟨[(4, .mptr (4, 0) 1 0 0), (8, .mptr (8, 0) 1 0 0), (11, .mptr (11, 0) 1 0 0)], [((4, 0), .box 1 [tA (qGRule p0a), tA (qGGraph p0b), tA (qGEv p0c), tA (qInt p0d), tA (qGFire p0e)]), ((8, 0), .box 1 [.lit (.slice none 0 0), .lit (.slice none 0 0), .lit (.slice none 0 0), .lit (.slice none 0 0), .lit (.slice none 0 0)]), ((11, 0), .box 1 [tA (qGRule I), .ref (17, 0) 1 0 (len (qGGraphS z)), .ref (17, 1) 1 0 (len (qGEv A)), .ref (17, 2) 1 0 (len (qInt B)), .ref (17, 3) 1 0 (len (qGFire C))]), ((17, 0), .arr 1 5 (qGGraphS z)), ((17, 1), .arr 1 3 (qGEv A)), ((17, 2), .arr 1 1 (qInt B)), ((17, 3), .arr 1 4 (qGFire C))]⟩ : St)) .ok (.exit 0)
  (i0 := (_, _, _, _, _, _, _, _)) M (fun _ => rfl) ?_ ?_ ?_
 ·rintro ⟨N, O, Q, R, S, t5, t6, t7⟩ e
  refine ai ?_
  cbv
  all_goals exact J8
 rintro ⟨I, z, A, B, C⟩ hx
 subst o1
 have hh := H
 cbv
 refine yK hC (co [9, 12] [] []) mixed [(17, 0), (17, 1), (17, 2), (17, 3)] ?_
 cbv
 replace hh := bind_some hh
 obtain ⟨⟨Ce, Cf, Cg, Ch, Cm⟩, T, hh⟩ := hh
 try dsimp only at hh
 refine ⟨Ob, ?_⟩
 refine ⟨Ob, ?_⟩
 refine ⟨Ob, ?_⟩
 refine ⟨Ob, ?_⟩
 have fc := fX hQ T
 try dsimp only at fc
 refine ac hF fc ?_
 cbv
 replace hh := aa hh
 obtain ⟨J, hh⟩ := hh
 try dsimp only at J
 replace hh := aa hh
 obtain ⟨K, hh⟩ := hh
 try dsimp only at K
 replace hh := aa hh
 obtain ⟨U, hh⟩ := hh
 refine ⟨⟨Nb J, Nb K, Nb U⟩, ?_⟩
 replace hh := bind_some hh
 obtain ⟨CD, V, hh⟩ := hh
 refine ⟨Ob, ?_⟩
 refine ac hF (kO hQ V) ?_
 cbv
 exact Eb
 rintro n ⟨v, c, d, j, p, b, w, y⟩ N1 D1 hh W X Y
 try dsimp only at hh
 unfold ct.l0 at hh
 cbv
 refine bcs (fun s => ?_) (fun s => ?_)
 replace hh := ifT hh s
 try rw [s]
 cbv
 replace hh := aa hh
 obtain ⟨Z, hh⟩ := hh
 replace hh := aa hh
 obtain ⟨dj, hh⟩ := hh
 refine ⟨Nb Z, Mb dj, ?_⟩
 replace hh := bind_some hh
 obtain ⟨⟨D, L, F⟩, xm, hh⟩ := hh
 try dsimp only at hh
 refine ⟨[iA D, iA L, iA F], Gb xm, ?_⟩
 cbv
 replace hh := aa hh
 obtain ⟨AU, hh⟩ := hh
 replace hh := aa hh
 obtain ⟨Bz, hh⟩ := hh
 replace hh := aa hh
 obtain ⟨BB, hh⟩ := hh
 refine ⟨⟨Nb AU, Nb Bz, Nb BB⟩, ?_⟩
 replace hh := bind_some hh
 obtain ⟨BL, BR, hh⟩ := hh
 refine ac hF (uU hQ BR) ?_
 cbv
 refine Bg hC (co [9, 12] [] []) mixed (⟨[(4, .mptr (4, 0) 1 0 0), (8, .mptr (8, 0) 1 0 0), (11, .mptr (11, 0) 1 0 0), (12, .mptr (23, 0) 1 0 0), (14, .mptr (14, 0) 1 0 0)], [((4, 0), .box 1 [tA (qGRule p0a), tA (qGGraph p0b), tA (qGEv p0c), tA (qInt p0d), tA (qGFire p0e)]), ((8, 0), .box 1 [.lit (.slice none 0 0), .lit (.slice none 0 0), .lit (.slice none 0 0), .lit (.slice none 0 0), .lit (.slice none 0 0)]), ((11, 0), .box 1 [tA (qGRule v), .ref (17, 0) 1 0 (len (qGGraphS c)), .ref (17, 1) 1 0 (len (qGEv d)), .ref (17, 2) 1 0 (len (qInt j)), .ref (17, 3) 1 0 (len (qGFire p))]), ((14, 0), .box 1 [iA D, iA (wrap .i64 (add BL y)), iA F]), ((17, 0), .arr 1 5 (qGGraphS c)), ((17, 1), .arr 1 3 (qGEv d)), ((17, 2), .arr 1 1 (qInt j)), ((17, 3), .arr 1 4 (qGFire p)), ((21, 0), .arr 1 3 (part (qGEv b) (nadd 0 (toNat 1)) (toNat (sub (cast (len (qGEv b))) 1)))), ((23, 0), .box 1 [.ref (21, 0) 1 0 (toNat (sub (cast (len (qGEv b))) 1)), iA w])]⟩ : St) ?_ ?_
 ·cbv
  refine A6 hC (23, 0) 0 ?_
  cbv
  refine ⟨Ob, ?_⟩
  refine ai ?_
  cbv
  all_goals exact Zb
 cbv
 replace hh := bind_some hh
 obtain ⟨⟨u, ⟨BS, BU, BV, BW, BX⟩, ⟨BY, B0⟩⟩, B1, hh⟩ := hh
 try dsimp only at hh
 refine ⟨Ob, ?_⟩
 have fc := pB hQ B1
 try dsimp only at fc
 refine ac hF fc ?_
 cbv
 replace hh := aD hh
 rcases hh with ⟨G, hh⟩ | ⟨G, hh⟩
 have t : (eq u 0) = true := Tb G
 have g := t; cbv at g; try rw [t]
 try rw [g]
 cbv
 ·refine W (_, _, _, _, _, _, _, _) _ hh fun ⟨N, O, Q, R, S, t5, t6, t7⟩ e => ?_
  refine ee hC (11, 0) 900 ?_
  cbv
  refine ee hC (23, 0) 901 ?_
  cbv
  refine aw [((4, 0), (4, 0)), ((8, 0), (8, 0)), ((11, 0), (11, 0)), ((17, 0), (900, 0)), ((17, 1), (900, 1)), ((17, 2), (900, 2)), ((17, 3), (900, 3)), ((21, 0), (901, 0)), ((23, 0), (23, 0))] ?_
  cbv
  all_goals exact J8
 have t : (eq u 0) = false := Fb G
 have g := t; cbv at g; try rw [t]
 try rw [g]
 cbv
 replace hh := bind_some hh
 obtain ⟨⟨Cn, Cq, Cv, Cw, Cx⟩, B4, hh⟩ := hh
 try dsimp only at hh
 have fc := fX hQ B4
 try dsimp only at fc
 refine ac hF fc ?_
 cbv
 cases hh
 have hh : some _ = some _ := H
 refine Y _ _ ?_
 cbv
 refine ⟨4, ?_⟩
 cbv
 exact Eb
 replace hh := ifF hh s
 try rw [s]
 cbv
 ·refine X (_, _, _, _, _) _ hh fun ⟨N, O, Q, R, S⟩ e => ?_
  refine ai ?_
  cbv
  all_goals exact J5

theorem tf {k : Nat} {p0 : GEng} {p1 : Int} {p2 : Int} {p3 : Int} {r : GEng × Int × (List GFire)} (hh : gV.f k p0 p1 p2 p3 = some r) : ah P 35 [.agg [tA (qGRule p0.Rules), tA (qGGraph p0.Graphs), tA (qGEv p0.Events), tA (qInt p0.Keys), tA (qGFire p0.Fired)], iA p1, iA p2, iA p3] [hA, hA, hA, hA] (.tup [.agg [tA (qGRule r.1.Rules), oA 5 (qGGraphS r.1.Graphs), oA 3 (qGEv r.1.Events), oA 1 (qInt r.1.Keys), oA 4 (qGFire r.1.Fired)], iA r.2.1, oA 4 (qGFire r.2.2)]) := by
 obtain ⟨p0a, p0b, p0c, p0d, p0e⟩ := p0
 unfold gV.f at hh
 refine go (ts := [(8, some 53), (9, none), (10, none)]) (rm := [.own, .own, .own]) (pm := [.skip, .skip, .skip, .skip]) Tryz.func35 ?_
 intro Fn LW IN len cast toNat wrap add sub mul bin lt eq At set part app fz' rep nadd nmax ssize sext sget scat seq slt Wide Flat Ones Room r' post' hC hF hr hp
 cbv
 replace hh := bind_some hh
 obtain ⟨o, C, hh⟩ := hh
 refine ac hF (vq hQ C) ?_
 cbv
 replace hh := aD hh
 rcases hh with ⟨d, hh⟩ | ⟨d, hh⟩
 have c : o = true := Tb d
 have g := c; cbv at g; try rw [c]
 try rw [g]
 cbv
 replace hh := bind_some hh
 obtain ⟨p, D, hh⟩ := hh
 refine ac hF (u5 hQ D) ?_
 cbv
 replace hh := aD hh
 rcases hh with ⟨j, hh⟩ | ⟨j, hh⟩
 have b : p = true := Tb j
 have g := b; cbv at g; try rw [b]
 try rw [g]
 cbv
 replace hh := bind_some hh
 obtain ⟨⟨⟨s, t, u, v, w⟩, A, B⟩, y, hh⟩ := hh
 try dsimp only at hh
 have fc := rB hQ y
 try dsimp only at fc
 refine ac hF fc ?_
 cbv
 exact Eb
 have b : p = false := Fb j
 have g := b; cbv at g; try rw [b]
 try rw [g]
 cbv
 replace hh := bind_some hh
 obtain ⟨⟨F, G, H, I, J⟩, z, hh⟩ := hh
 try dsimp only at hh
 have fc := fX hQ z
 try dsimp only at fc
 refine ac hF fc ?_
 cbv
 refine ⟨4, ?_⟩
 cbv
 exact Eb
 have c : o = false := Fb d
 have g := c; cbv at g; try rw [c]
 try rw [g]
 cbv
 refine ⟨0, ?_⟩
 cbv
 refine ⟨5, ?_⟩
 cbv
 refine ⟨3, ?_⟩
 cbv
 refine ⟨1, ?_⟩
 cbv
 refine ⟨4, ?_⟩
 cbv
 refine ⟨4, ?_⟩
 cbv
 exact Eb

theorem sM {k : Nat} {p0 : GEx} {p1 : Int} {p2 : List GEv} {r : (List GOcc) × Bool} (hh : bU.f k p0 p1 p2 = some r) : ah P 20 [.agg [iA p0.Kind, iA p0.Sym, iA p0.N, tA (qGEx p0.Kids)], iA p1, tA (qGEv p2)] [hA, hA, hA] (.tup [oA 3 (qGOccO r.1), bA r.2]) := by
 obtain ⟨p0a, p0b, p0c, p0d⟩ := p0
 unfold bU.f at hh
 refine go (ts := [(6, none), (7, none)]) (rm := [.own, .own]) (pm := [.skip, .skip, .skip]) Tryz.func20 ?_
 intro Fn LW IN len cast toNat wrap add sub mul bin lt eq At set part app fz' rep nadd nmax ssize sext sget scat seq slt Wide Flat Ones Room r' post' hC hF hr hp
 cbv
 replace hh := bind_some hh
 obtain ⟨J, h1, hh⟩ := hh
 refine ac hF (mE hQ h1) ?_
 cbv
 replace hh := aD hh
 rcases hh with ⟨D, hh⟩ | ⟨D, hh⟩
 have o : J = true := Tb D
 have g := o; cbv at g; try rw [o]
 try rw [g]
 cbv
 replace hh := bind_some hh
 obtain ⟨K, h6, hh⟩ := hh
 refine ac hF (iP hQ h6) ?_
 cbv
 replace hh := aD hh
 rcases hh with ⟨F, hh⟩ | ⟨F, hh⟩
 have b : K = true := Tb F
 have g := b; cbv at g; try rw [b]
 try rw [g]
 cbv
 replace hh := bind_some hh
 obtain ⟨t, L, hh⟩ := hh
 refine ac hF (oZ hQ L) ?_
 cbv
 replace hh := aD hh
 rcases hh with ⟨p, hh⟩ | ⟨p, hh⟩
 have c : t = true := Tb p
 have g := c; cbv at g; try rw [c]
 try rw [g]
 cbv
 replace hh := bind_some hh
 obtain ⟨⟨BS, BU, BV, BW, BX⟩, M, hh⟩ := hh
 try dsimp only at hh
 have fc := mX hQ M
 try dsimp only at fc
 refine ac hF fc ?_
 cbv
 replace hh := bind_some hh
 obtain ⟨o1, O, u⟩ := hh
 refine au hC eok mixed (fun n (i : Int × (List GNode) × Int × Int × Bool × (List GOcc) × Int) => bU.l0 k p2 n i.1 i.2.1 i.2.2.1 i.2.2.2.1 i.2.2.2.2.1 i.2.2.2.2.2.1 i.2.2.2.2.2.2)
  (fun ⟨v, s, w, y, z, A, B⟩ => (⟨[(8, .mptr (8, 0) 1 0 0), (9, tA (qGOcc A)), (28, tA (qGEv p2)), (29, iA (cast (len (qGEv p2)))), (30, iA B)], [((8, 0), .box 1 [iA v, .ref (27, 0) 1 0 (len (qGNode s)), iA w, iA y, bA z]), ((27, 0), .arr 1 10 (qGNode s))]⟩ : St))
  (fun (C : List GOcc) => (⟨[(9, tA (qGOcc C))], []⟩ : St)) .ok (.exit 0)
  (i0 := (_, _, _, _, _, _, _)) O (fun _ => rfl) ?_ ?_ ?_
 ·rintro ⟨Q, t1, t2, t3, t4, t5, t6⟩ e
  refine ai ?_
  cbv
  all_goals exact J7
 rintro C hx
 subst o1
 have hh := u
 cbv
 replace hh := bind_some hh
 obtain ⟨Cc, R, hh⟩ := hh
 refine ac hF (dN hQ R) ?_
 cbv
 exact Eb
 rintro n ⟨v, s, w, y, z, A, B⟩ N1 D1 hh S T U
 try dsimp only at hh
 unfold bU.l0 at hh
 cbv
 refine bcs (fun d => ?_) (fun d => ?_)
 replace hh := ifT hh d
 try rw [d]
 cbv
 replace hh := aa hh
 obtain ⟨V, hh⟩ := hh
 replace hh := bind_some hh
 obtain ⟨⟨G, H, I⟩, W, hh⟩ := hh
 try dsimp only at hh
 refine ⟨[iA G, iA H, iA I], Nb V, Gb W, ?_⟩
 cbv
 replace hh := bind_some hh
 obtain ⟨⟨BB, ⟨X, Y, Z, dj, xm⟩⟩, AU, hh⟩ := hh
 try dsimp only at hh
 have fc := kQ hQ AU
 try dsimp only at fc
 refine ac hF fc ?_
 cbv
 replace hh := bind_some hh
 obtain ⟨Cd, Bz, hh⟩ := hh
 refine ⟨Ob, ?_⟩
 refine ac hF (ce hQ Bz) ?_
 cbv
 refine bcs (fun j => ?_) (fun j => ?_)
 replace hh := ifT hh j
 try rw [j]
 cbv
 cases hh
 have hh : some _ = some _ := u
 refine U _ _ ?_
 cbv
 refine ⟨3, ?_⟩
 cbv
 exact Eb
 replace hh := ifF hh j
 try rw [j]
 cbv
 ·refine S (_, _, _, _, _, _, _) _ hh fun ⟨Q, t1, t2, t3, t4, t5, t6⟩ e => ?_
  refine ee hC (8, 0) 900 ?_
  cbv
  refine aw [((8, 0), (8, 0)), ((27, 0), (900, 0))] ?_
  cbv
  all_goals exact J7
 replace hh := ifF hh d
 try rw [d]
 cbv
 ·refine T _ _ hh fun Q e => ?_
  refine ai ?_
  cbv
  all_goals exact J1
 have c : t = false := Fb p
 have g := c; cbv at g; try rw [c]
 try rw [g]
 cbv
 refine ⟨3, ?_⟩
 cbv
 exact Eb
 have b : K = false := Fb F
 have g := b; cbv at g; try rw [b]
 try rw [g]
 cbv
 refine ⟨3, ?_⟩
 cbv
 exact Eb
 have o : J = false := Fb D
 have g := o; cbv at g; try rw [o]
 try rw [g]
 cbv
 refine ⟨3, ?_⟩
 cbv
 exact Eb
theorem pc {k : Nat} {p0 : GEx} {p1 : Int} {p2 : List GEv} {r : (List GOcc) × Bool} (hh : bU.f k p0 p1 p2 = some r) : ah P 20 [.agg [iA p0.Kind, iA p0.Sym, iA p0.N, tA (qGEx p0.Kids)], iA p1, oA 3 (qGEv p2)] [hA, hA, oA 3 (qGEv p2)] (.tup [oA 3 (qGOccO r.1), bA r.2]) := by
  cases hQ; exact (sM .mk hh).lend (by simp [Vm.ownd, gb, -mz, vQ]) (.same rfl (.same rfl (.lend (congrArg A.tree (rr _).symm) .nil)))

theorem pX {k : Nat} {p0 : GOcc} {p1 : GOcc} {r : Bool} (hh : dZ.f k p0 p1 = some r) : ah P 69 [.agg [iA p0.From, iA p0.To, tA (qInt p0.Ids)], .agg [iA p1.From, iA p1.To, tA (qInt p1.Ids)]] [hA, hA] (bA r) := by
 obtain ⟨p0a, p0b, p0c⟩ := p0
 obtain ⟨p1a, p1b, p1c⟩ := p1
 unfold dZ.f at hh
 refine go (ts := [(4, none)]) (rm := [.own]) (pm := [.skip, .skip]) Tryz.func69 ?_
 intro Fn LW IN len cast toNat wrap add sub mul bin lt eq At set part app fz' rep nadd nmax ssize sext sget scat seq slt Wide Flat Ones Room r' post' hC hF hr hp
 cbv
 replace hh := bind_some hh
 obtain ⟨c, b, hh⟩ := hh
 refine ac hF (ip hQ b) ?_
 cbv
 exact Eb

theorem gE {k : Nat} {g2 : GOcc → GOcc → Option Bool} (hg2 : ∀ {y0 : GOcc} {y1 : GOcc} {r : Bool}, g2 y0 y1 = some r → ah P 69 [.agg [iA y0.From, iA y0.To, tA (qInt y0.Ids)], .agg [iA y1.From, iA y1.To, tA (qInt y1.Ids)]] [hA, hA] (bA r)) {p0 : List GOcc} {p1 : List GOcc} {r : Bool} (hh : bp.f g2 k p0 p1 = some r) : ah P 68 [tA (qGOcc p0), tA (qGOcc p1), .clo 69 []] [hA, hA, hA] (bA r) := by
 unfold bp.f at hh
 refine go (ts := [(6, none)]) (rm := [.own]) (pm := [.skip, .skip, .skip]) Tryz.func68 ?_
 intro Fn LW IN len cast toNat wrap add sub mul bin lt eq At set part app fz' rep nadd nmax ssize sext sget scat seq slt Wide Flat Ones Room r' post' hC hF hr hp
 cbv
 replace hh := aD hh
 rcases hh with ⟨t, hh⟩ | ⟨t, hh⟩
 have d : (eq (cast (len (qGOcc p0))) (cast (len (qGOcc p1)))) = true := Tb t
 have g := d; cbv at g; try rw [d]
 try rw [g]
 cbv
 replace hh := bind_some hh
 obtain ⟨L, B, o⟩ := hh
 refine au hC eok mixed (bp.l0 k g2 p0 p1)
  (fun p => (⟨[(1, tA (qGOcc p1)), (2, .clo 69 []), (15, tA (qGOcc p0)), (16, iA (cast (len (qGOcc p0)))), (17, iA p)], []⟩ : St))
  (fun (_ : Unit) => (⟨[], []⟩ : St)) .ok (.exit 0)
  (i0 := _) B (fun _ => rfl) ?_ ?_ ?_
 ·rintro M e
  refine ai ?_
  cbv
  all_goals exact J1
 rintro _ hx
 subst L
 have hh := o
 cbv
 exact Eb
 rintro n p N O hh C D F
 unfold bp.l0 at hh
 cbv
 refine bcs (fun b => ?_) (fun b => ?_)
 replace hh := ifT hh b
 try rw [b]
 cbv
 replace hh := aa hh
 obtain ⟨G, hh⟩ := hh
 replace hh := bind_some hh
 obtain ⟨⟨u, v, w⟩, H, hh⟩ := hh
 try dsimp only at hh
 refine ⟨[iA u, iA v, tA (qInt w)], Nb G, Gb H, ?_⟩
 cbv
 replace hh := aa hh
 obtain ⟨I, hh⟩ := hh
 replace hh := bind_some hh
 obtain ⟨⟨y, z, A⟩, J, hh⟩ := hh
 try dsimp only at hh
 refine ⟨[iA y, iA z, tA (qInt A)], Nb I, Gb J, ?_⟩
 cbv
 replace hh := bind_some hh
 obtain ⟨s, K, hh⟩ := hh
 refine ac hF (hg2 K) ?_
 cbv
 replace hh := aD hh
 rcases hh with ⟨j, hh⟩ | ⟨j, hh⟩
 have c : s = true := Tb j
 have g := c; cbv at g; try rw [c]
 try rw [g]
 cbv
 ·refine C _ _ hh fun M e => ?_
  refine ai ?_
  cbv
  all_goals exact J1
 have c : s = false := Fb j
 have g := c; cbv at g; try rw [c]
 try rw [g]
 cbv
 cases hh
 have hh : some _ = some _ := o
 refine F _ _ ?_
 cbv
 exact Eb
 replace hh := ifF hh b
 try rw [b]
 cbv
 ·refine D () _ hh fun _ e => ?_
  refine ai ?_
  cbv
  all_goals exact J0
 have d : (eq (cast (len (qGOcc p0))) (cast (len (qGOcc p1)))) = false := Fb t
 have g := d; cbv at g; try rw [d]
 try rw [g]
 cbv
 exact Eb

theorem rE {k : Nat} {p0 : List GOcc} {p1 : List GOcc} {r : Bool} (hh : ea.f k p0 p1 = some r) : ah P 26 [tA (qGOcc p0), tA (qGOcc p1)] [hA, hA] (bA r) := by
 unfold ea.f at hh
 refine go (ts := [(4, none)]) (rm := [.own]) (pm := [.skip, .skip]) Tryz.func26 ?_
 intro Fn LW IN len cast toNat wrap add sub mul bin lt eq At set part app fz' rep nadd nmax ssize sext sget scat seq slt Wide Flat Ones Room r' post' hC hF hr hp
 cbv
 replace hh := bind_some hh
 obtain ⟨c, b, hh⟩ := hh
 refine ac hF (gE hQ (g2 := fun y0 y1 => dZ.f k y0 y1) (fun h => pX hQ h) b) ?_
 cbv
 exact Eb
theorem oF {k : Nat} {p0 : List GOcc} {p1 : List GOcc} {r : Bool} (hh : ea.f k p0 p1 = some r) : ah P 26 [tA (qGOcc p0), oA 3 (qGOcc p1)] [hA, oA 3 (qGOcc p1)] (bA r) := by
  cases hQ; exact (rE .mk hh).lend (rfl) (.same rfl (.lend (congrArg A.tree (mi _).symm) .nil))

theorem rW {k : Nat} {p0 : List Int} {p1 : List Int} {r : Bool} (hh : aV.f k p0 p1 = some r) : ah P 5 [tA (qIu8 p0), tA (qIu8 p1)] [hA, hA] (bA r) := by
 unfold aV.f at hh
 refine goG (g := [14]) (i := []) (o := []) (sh := []) (ts := [(4, none)]) (rm := [.own]) (pm := [.skip, .skip]) Tryz.func5 ?_
 intro Fn LW IN len cast toNat wrap add sub mul bin lt eq At set part app fz' rep nadd nmax ssize sext sget scat seq slt Wide Flat Ones Room r' post' hC hF hr hp
 cbv
 refine bcs (fun J => ?_) (fun J => ?_)
 replace hh := ifT hh J
 try rw [J]
 cbv
 exact Eb
 replace hh := ifF hh J
 try rw [J]
 cbv
 refine bcs (fun K => ?_) (fun K => ?_)
 replace hh := ifT hh K
 try rw [K]
 cbv
 exact Eb
 replace hh := ifF hh K
 try rw [K]
 cbv
 replace hh := bind_some hh
 obtain ⟨⟨BV, BW, BX, ⟨BY, B0, B1, B4⟩, C5, C6, B6, C7, C8⟩, h5, hh⟩ := hh
 try dsimp only at hh
 have fc := qa hQ h5
 try dsimp only at fc
 refine ac hF fc ?_
 cbv
 replace hh := bind_some hh
 obtain ⟨x9, h8, hh⟩ := hh
 refine ac hF (oq hQ h8) ?_
 cbv
 replace hh := aD hh
 rcases hh with ⟨L, hh⟩ | ⟨L, hh⟩
 have t : x9 = true := Tb L
 have g := t; cbv at g; try rw [t]
 try rw [g]
 cbv
 replace hh := bind_some hh
 obtain ⟨⟨CV, CW, CX, CY, CZ⟩, CC, hh⟩ := hh
 try dsimp only at hh
 refine ⟨Ob, ?_⟩
 have fc := tt hQ CC
 try dsimp only at fc
 refine ac hF fc ?_
 cbv
 replace hh := bind_some hh
 obtain ⟨o1, M, u⟩ := hh
 refine au hC (co [14] [] []) mixed (fun n (i : (List GRule) × (List GGraph) × (List GEv) × (List Int) × (List GFire) × Int) => aV.l0 k p1 n i.1 i.2.1 i.2.2.1 i.2.2.2.1 i.2.2.2.2.1 i.2.2.2.2.2)
  (fun ⟨B7, N, O, Q, R, B9⟩ => (⟨[(1, tA (qIu8 p1)), (5, .mptr (5, 0) 1 0 0), (6, .mptr (6, 0) 1 0 0), (7, iA B9)], [((5, 0), .box 1 [sA BV, iA BW, iA BX, iA BY, iA B0, iA B1, tA (qGEx B4), iA 0, iA 100, iA B6, iA 1, iA (-1)]), ((6, 0), .box 1 [tA (qGRule B7), .ref (38, 0) 1 0 (len (qGGraphS N)), .ref (38, 1) 1 0 (len (qGEv O)), .ref (38, 2) 1 0 (len (qInt Q)), .ref (38, 3) 1 0 (len (qGFire R))]), ((38, 0), .arr 1 5 (qGGraphS N)), ((38, 1), .arr 1 3 (qGEv O)), ((38, 2), .arr 1 1 (qInt Q)), ((38, 3), .arr 1 4 (qGFire R))]⟩ : St))
  (fun (⟨S, v, w, j, c⟩ : (List GRule) × (List GGraph) × (List GEv) × (List Int) × (List GFire)) => (⟨[(5, .mptr (5, 0) 1 0 0), (6, .mptr (6, 0) 1 0 0)], [((5, 0), .box 1 [sA BV, iA BW, iA BX, iA BY, iA B0, iA B1, tA (qGEx B4), iA 0, iA 100, iA B6, iA 1, iA (-1)]), ((6, 0), .box 1 [tA (qGRule S), .ref (38, 0) 1 0 (len (qGGraphS v)), .ref (38, 1) 1 0 (len (qGEv w)), .ref (38, 2) 1 0 (len (qInt j)), .ref (38, 3) 1 0 (len (qGFire c))]), ((38, 0), .arr 1 5 (qGGraphS v)), ((38, 1), .arr 1 3 (qGEv w)), ((38, 2), .arr 1 1 (qInt j)), ((38, 3), .arr 1 4 (qGFire c))]⟩ : St)) .ok (.exit 0)
  (i0 := (_, _, _, _, _, _)) M (fun _ => rfl) ?_ ?_ ?_
 ·rintro ⟨T, t1, t2, t3, t4, t5⟩ e
  refine ai ?_
  cbv
  all_goals exact J6
 rintro ⟨S, v, w, j, c⟩ hx
 subst o1
 have hh := u
 cbv
 replace hh := bind_some hh
 obtain ⟨⟨b, d⟩, CD, hh⟩ := hh
 try dsimp only at hh
 have fc := ah.frz (r' := .tup [tA (qGOcc b), bA d]) (pc hQ CD) (by cases hQ; simp)
 try dsimp only at fc
 refine ac hF fc ?_
 cbv
 replace hh := aD hh
 rcases hh with ⟨U, hh⟩ | ⟨U, hh⟩
 have y : d = true := Tb U
 have g := y; cbv at g; try rw [y]
 try rw [g]
 cbv
 replace hh := aD hh
 rcases hh with ⟨V, hh⟩ | ⟨V, hh⟩
 have z : (eq (cast (len (qGOcc b))) (cast (len (qGFire c)))) = true := Tb V
 have g := z; cbv at g; try rw [z]
 try rw [g]
 cbv
 replace hh := aD hh
 rcases hh with ⟨W, hh⟩ | ⟨W, hh⟩
 have A : (eq (cast (len (qInt j))) 4) = true := Tb W
 have g := A; cbv at g; try rw [A]
 try rw [g]
 cbv
 replace hh := aa hh
 obtain ⟨Cc, hh⟩ := hh
 try dsimp only at Cc
 replace hh := aa hh
 obtain ⟨Cd, hh⟩ := hh
 try dsimp only at Cd
 refine ⟨Nb Cc, Mb Cd, ?_⟩
 replace hh := bind_some hh
 obtain ⟨X, CE, hh⟩ := hh
 refine ⟨[iA X], Gb CE, ?_⟩
 cbv
 replace hh := aD hh
 rcases hh with ⟨Y, hh⟩ | ⟨Y, hh⟩
 have B : (eq X (cast (len (qGOcc b)))) = true := Tb Y
 have g := B; cbv at g; try rw [B]
 try rw [g]
 cbv
 replace hh := bind_some hh
 obtain ⟨o1, M, u⟩ := hh
 refine au hC (co [14] [] []) mixed (aV.l1 k c (⟨b, d⟩ : (List GOcc) × Bool))
  (fun Z => (⟨[(6, .mptr (6, 0) 1 0 0), (11, tA (qGOcc b)), (13, iA Z)], [((6, 0), .box 1 [tA (qGRule S), .ref (38, 0) 1 0 (len (qGGraphS v)), .ref (38, 1) 1 0 (len (qGEv w)), .ref (38, 2) 1 0 (len (qInt j)), .ref (38, 3) 1 0 (len (qGFire c))]), ((38, 0), .arr 1 5 (qGGraphS v)), ((38, 1), .arr 1 3 (qGEv w)), ((38, 2), .arr 1 1 (qInt j)), ((38, 3), .arr 1 4 (qGFire c))]⟩ : St))
  (fun (_ : Unit) => (⟨[], []⟩ : St)) .ok (.exit 2)
  (i0 := _) M (fun _ => rfl) ?_ ?_ ?_
 ·rintro T e
  refine ai ?_
  cbv
  all_goals exact J1
 rintro _ hx
 subst o1
 have hh := u
 cbv
 exact Eb
 rintro n Z N1 D1 hh dj H xm
 unfold aV.l1 at hh
 cbv
 refine bcs (fun p => ?_) (fun p => ?_)
 replace hh := ifT hh p
 try rw [p]
 cbv
 replace hh := aa hh
 obtain ⟨Cn, hh⟩ := hh
 replace hh := aa hh
 obtain ⟨Cq, hh⟩ := hh
 replace hh := aa hh
 obtain ⟨AU, hh⟩ := hh
 try dsimp only at AU
 refine ⟨⟨Nb Cn, Nb Cq, Nb AU, Ab⟩, ?_⟩
 replace hh := aa hh
 obtain ⟨Cv, hh⟩ := hh
 replace hh := aa hh
 obtain ⟨Cw, hh⟩ := hh
 refine ⟨Nb Cv, Mb Cw, ?_⟩
 replace hh := bind_some hh
 obtain ⟨⟨BL, ⟨BR, BS, BU⟩⟩, Cx, hh⟩ := hh
 try dsimp only at hh
 refine ⟨[iA BL, iA BR, iA BS, tA (qInt BU)], Gb Cx, ?_⟩
 cbv
 replace hh := bind_some hh
 obtain ⟨Bz, Cy, hh⟩ := hh
 refine ⟨Ob, ?_⟩
 refine ac hF (oF hQ Cy) ?_
 cbv
 replace hh := aD hh
 rcases hh with ⟨G, hh⟩ | ⟨G, hh⟩
 have s : Bz = true := Tb G
 have g := s; cbv at g; try rw [s]
 try rw [g]
 cbv
 ·refine dj _ _ hh fun T e => ?_
  refine ai ?_
  cbv
  all_goals exact J1
 have s : Bz = false := Fb G
 have g := s; cbv at g; try rw [s]
 try rw [g]
 cbv
 cases hh
 have hh : some _ = some _ := u
 refine xm _ _ ?_
 cbv
 exact Eb
 replace hh := ifF hh p
 try rw [p]
 cbv
 ·refine H () _ hh fun _ e => ?_
  refine ai ?_
  cbv
  all_goals exact J0
 have B : (eq X (cast (len (qGOcc b)))) = false := Fb Y
 have g := B; cbv at g; try rw [B]
 try rw [g]
 cbv
 exact Eb
 have A : (eq (cast (len (qInt j))) 4) = false := Fb W
 have g := A; cbv at g; try rw [A]
 try rw [g]
 cbv
 exact Eb
 have z : (eq (cast (len (qGOcc b))) (cast (len (qGFire c)))) = false := Fb V
 have g := z; cbv at g; try rw [z]
 try rw [g]
 cbv
 exact Eb
 have y : d = false := Fb U
 have g := y; cbv at g; try rw [y]
 try rw [g]
 cbv
 exact Eb
 rintro n ⟨B7, N, O, Q, R, B9⟩ N1 D1 hh dj H xm
 try dsimp only at hh
 unfold aV.l0 at hh
 cbv
 refine bcs (fun C => ?_) (fun C => ?_)
 replace hh := ifT hh C
 try rw [C]
 cbv
 refine bcs (fun D => ?_) (fun D => ?_)
 replace hh := ifT hh D
 try rw [D]
 cbv
 refine yK hC (co [14] [] []) mixed [(38, 0), (38, 1), (38, 2), (38, 3)] ?_
 cbv
 replace hh := aa hh
 obtain ⟨CF, hh⟩ := hh
 replace hh := bind_some hh
 obtain ⟨CG, CH, hh⟩ := hh
 refine ⟨[.lit (.int .u8 CG)], Nb CF, Gb CH, ?_⟩
 cbv
 replace hh := aa hh
 obtain ⟨CI, hh⟩ := hh
 replace hh := bind_some hh
 obtain ⟨CJ, CK, hh⟩ := hh
 refine ⟨[.lit (.int .u8 CJ)], Nb CI, Gb CK, ?_⟩
 cbv
 replace hh := bind_some hh
 obtain ⟨⟨⟨CL, CM, CN, CO, CP⟩, I, CS⟩, CQ, hh⟩ := hh
 try dsimp only at hh
 refine ⟨Ob, ?_⟩
 refine ⟨Ob, ?_⟩
 refine ⟨Ob, ?_⟩
 refine ⟨Ob, ?_⟩
 have fc := tf hQ CQ
 try dsimp only at fc
 refine ac hF fc ?_
 cbv
 replace hh := aD hh
 rcases hh with ⟨BB, hh⟩ | ⟨BB, hh⟩
 have F : (eq I 0) = true := Tb BB
 have g := F; cbv at g; try rw [F]
 try rw [g]
 cbv
 ·refine dj (_, _, _, _, _, _) _ hh fun ⟨T, t1, t2, t3, t4, t5⟩ e => ?_
  refine aw [((5, 0), (5, 0)), ((6, 0), (6, 0)), ((38, 0), (65, 0)), ((38, 1), (65, 1)), ((38, 2), (65, 2)), ((38, 3), (65, 3))] ?_
  cbv
  all_goals exact J6
 have F : (eq I 0) = false := Fb BB
 have g := F; cbv at g; try rw [F]
 try rw [g]
 cbv
 cases hh
 have hh : some _ = some _ := u
 refine xm _ _ ?_
 cbv
 exact Eb
 replace hh := ifF hh D
 try rw [D]
 cbv
 ·refine H (_, _, _, _, _) _ hh fun ⟨T, t1, t2, t3, t4⟩ e => ?_
  refine ai ?_
  cbv
  all_goals exact J5
 replace hh := ifF hh C
 try rw [C]
 cbv
 ·refine H (_, _, _, _, _) _ hh fun ⟨T, t1, t2, t3, t4⟩ e => ?_
  refine ai ?_
  cbv
  all_goals exact J5
 have t : x9 = false := Fb L
 have g := t; cbv at g; try rw [t]
 try rw [g]
 cbv
 replace hh := bind_some hh
 obtain ⟨C3, Cz, hh⟩ := hh
 refine ac hF (oz hQ Cz) ?_
 cbv
 replace hh := bind_some hh
 obtain ⟨C4, CA, hh⟩ := hh
 refine ac hF (oq hQ CA) ?_
 cbv
 exact Eb

end Go.Proofs.YtlbnmldopjadoaaGreat
