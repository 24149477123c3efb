/- The functions of this program do what the plain ones do. -/
import Derived.Test.YtlbnmldopjadoaaGreatC2
namespace Go.Proofs.YtlbnmldopjadoaaGreat
open Go Go.Vm
set_option linter.unusedVariables false
set_option maxHeartbeats 4000000
set_option maxRecDepth 4000
variable {qIu8 : List Int → Vm.Rows} {qGEx : List GEx → Vm.Rows} {qGRule : List GRule → Vm.Rows} {qStr : List ByteArray → Vm.Rows} {qInt : List Int → Vm.Rows} {qGExO : List GEx → Vm.Rows} {qGOcc : List GOcc → Vm.Rows} {qGNode : List GNode → Vm.Rows} {qGGraphS : List GGraph → Vm.Rows} {qGGraph : List GGraph → Vm.Rows} {qGEv : List GEv → Vm.Rows} {qGFire : List GFire → Vm.Rows} {qLGOcc : List (List GOcc) → Vm.Rows} {qGOccO : List GOcc → Vm.Rows} {qLInt : List (List Int) → Vm.Rows} (hQ : EQ qIu8 qGEx qGRule qStr qInt qGExO qGOcc qGNode qGGraphS qGGraph qGEv qGFire qLGOcc qGOccO qLInt)
include hQ
theorem fE {k : Nat} {p0 : Int} {p1 : GOcc} {p2 : List GOcc} {r : (List GOcc) × (List GOcc)} (hh : aJ.f k p0 p1 p2 = some r) : ai P 233 [iA p0, .agg [iA p1.From, iA p1.To, tA (qInt p1.Ids)], tA (qGOcc p2)] [hA, hA, hA] (.tup [tA (qGOcc r.1), tA (qGOcc r.2)]) := by
 obtain ⟨p1a, p1b, p1c⟩ := p1
 unfold aJ.f at hh
 refine go (ts := [(6, none), (7, none)]) (rm := [.val, .val]) (pm := [.skip, .skip, .skip]) Tryz.func233 ?_
 unhygienic intros
 cbv
 refine bcs (fun p => ?_) (fun p => ?_)
 replace hh := ifT hh p
 try rw [p]
 cbv
 exact Eb
 replace hh := ifF hh p
 try rw [p]
 cbv
 refine bcs (fun s => ?_) (fun s => ?_)
 replace hh := ifT hh s
 try rw [s]
 cbv
 replace hh := aa hh
 obtain ⟨h5, hh⟩ := hh
 replace hh := bind_some hh
 obtain ⟨⟨Z, dv, xI⟩, h7, hh⟩ := hh
 try dsimp only at hh
 refine ⟨[iA Z, iA dv, tA (qInt xI)], Nb h5, Gb h7, ?_⟩
 cbv
 replace hh := bind_some hh
 obtain ⟨⟨C0, C1, C2⟩, h8, hh⟩ := hh
 try dsimp only at hh
 have fc := kc hQ h8
 try dsimp only at fc
 refine ac hF fc ?_
 cbv
 exact Eb
 replace hh := ifF hh s
 try rw [s]
 cbv
 refine bcs (fun b => ?_) (fun b => ?_)
 replace hh := ifT hh b
 try rw [b]
 cbv
 replace hh := aa hh
 obtain ⟨Bo, hh⟩ := hh
 replace hh := bind_some hh
 obtain ⟨⟨L, M, N⟩, B2, hh⟩ := hh
 try dsimp only at hh
 refine ⟨[iA L, iA M, tA (qInt N)], Nb Bo, Gb B2, ?_⟩
 cbv
 replace hh := bind_some hh
 obtain ⟨⟨CG, CH, CI⟩, B3, hh⟩ := hh
 try dsimp only at hh
 have fc := kc hQ B3
 try dsimp only at fc
 refine ac hF fc ?_
 cbv
 replace hh := aa hh
 obtain ⟨Ce, hh⟩ := hh
 replace hh := aa hh
 obtain ⟨Cj, hh⟩ := hh
 replace hh := aa hh
 obtain ⟨Ck, hh⟩ := hh
 refine ⟨⟨Nb Ce, Nb Cj, Nb Ck, Ab⟩, ?_⟩
 exact Eb
 replace hh := ifF hh b
 try rw [b]
 cbv
 refine bcs (fun c => ?_) (fun c => ?_)
 replace hh := ifT hh c
 try rw [c]
 cbv
 replace hh := bind_some hh
 obtain ⟨O, t, u⟩ := hh
 refine au hC eok mixed (fun n (i : Int × Int × (List Int) × Int) => aJ.l0 k p2 n i.1 i.2.1 i.2.2.1 i.2.2.2)
  (fun ⟨A, B, C, D⟩ => (⟨[(2, tA (qGOcc p2)), (4, .mptr (4, 0) 1 0 0), (39, tA (qGOcc p2)), (40, iA (cast (len (qGOcc p2)))), (41, iA D)], [((4, 0), .box 1 [iA A, iA B, tA (qInt C)])]⟩ : St))
  (fun (⟨F, G, H⟩ : Int × Int × (List Int)) => (⟨[(2, tA (qGOcc p2)), (4, .mptr (4, 0) 1 0 0)], [((4, 0), .box 1 [iA F, iA G, tA (qInt H)])]⟩ : St)) (fun x => x) (.exit 1)
  (i0 := (_, _, _, _)) t (fun _ => rfl) ?_ ?_ ?_
 ·rintro ⟨v, z, t2, t3⟩ e
  refine ah ?_
  cbv
  all_goals exact J4
 rintro ⟨F, G, H⟩ hx
 subst O
 have hh := u
 cbv
 exact Eb
 rintro n ⟨A, B, C, D⟩ N1 D1 hh w y Cn
 try dsimp only at hh
 unfold aJ.l0 at hh
 cbv
 refine bcs (fun d => ?_) (fun d => ?_)
 replace hh := ifT hh d
 try rw [d]
 cbv
 replace hh := aa hh
 obtain ⟨Co, hh⟩ := hh
 replace hh := bind_some hh
 obtain ⟨⟨Q, R, S⟩, Cp, hh⟩ := hh
 try dsimp only at hh
 refine ⟨[iA Q, iA R, tA (qInt S)], Nb Co, Gb Cp, ?_⟩
 cbv
 replace hh := bind_some hh
 obtain ⟨⟨T, U, V⟩, Cq, hh⟩ := hh
 try dsimp only at hh
 have fc := ai.frz (r' := .agg [iA T, iA U, tA (qInt V)]) (kc hQ Cq) (by cases hQ; simp)
 try dsimp only at fc
 refine ac hF fc ?_
 cbv
 ·refine w (_, _, _, _) _ hh fun ⟨v, z, t2, t3⟩ e => ?_
  refine ah ?_
  cbv
  all_goals exact J4
 replace hh := ifF hh d
 try rw [d]
 cbv
 ·refine y (_, _, _) _ hh fun ⟨v, z, t2⟩ e => ?_
  refine ah ?_
  cbv
  all_goals exact J3
 replace hh := ifF hh c
 try rw [c]
 cbv
 replace hh := bind_some hh
 obtain ⟨O, t, u⟩ := hh
 refine au hC eok mixed (fun n (i : (List GOcc) × Int) => aJ.l1 k (⟨p1a, p1b, p1c⟩ : GOcc) p2 n i.1 i.2)
  (fun ⟨I, J⟩ => (⟨[(0, iA p0), (2, tA (qGOcc p2)), (4, .mptr (4, 0) 1 0 0), (6, tA (qGOcc I)), (7, .lit (.slice none 0 0)), (52, tA (qGOcc p2)), (53, iA (cast (len (qGOcc p2)))), (54, iA J)], [((4, 0), .box 1 [iA p1a, iA p1b, tA (qInt p1c)])]⟩ : St))
  (fun (K : List GOcc) => (⟨[(0, iA p0), (2, tA (qGOcc p2)), (6, tA (qGOcc K)), (7, .lit (.slice none 0 0))], []⟩ : St)) (fun x => x) (.exit 3)
  (i0 := (_, _)) t (fun _ => rfl) ?_ ?_ ?_
 ·rintro ⟨v, z⟩ e
  refine ah ?_
  cbv
  all_goals exact J2
 rintro K hx
 subst O
 have hh := u
 cbv
 refine bcs (fun j => ?_) (fun j => ?_)
 replace hh := ifT hh j
 try rw [j]
 cbv
 exact Eb
 replace hh := ifF hh j
 try rw [j]
 cbv
 exact Eb
 rintro n ⟨I, J⟩ N1 D1 hh w y Cn
 try dsimp only at hh
 unfold aJ.l1 at hh
 cbv
 refine bcs (fun o => ?_) (fun o => ?_)
 replace hh := ifT hh o
 try rw [o]
 cbv
 replace hh := aa hh
 obtain ⟨Cs, hh⟩ := hh
 replace hh := bind_some hh
 obtain ⟨⟨W, X, Y⟩, Ct, hh⟩ := hh
 try dsimp only at hh
 refine ⟨[iA W, iA X, tA (qInt Y)], Nb Cs, Gb Ct, ?_⟩
 cbv
 replace hh := bind_some hh
 obtain ⟨⟨CQ, CU, CZ⟩, Cw, hh⟩ := hh
 try dsimp only at hh
 have fc := kc hQ Cw
 try dsimp only at fc
 refine ac hF fc ?_
 cbv
 replace hh := bind_some hh
 obtain ⟨C3, Cy, hh⟩ := hh
 refine ⟨Ob, ?_⟩
 refine ac hF (iF hQ Cy) ?_
 cbv
 ·refine w (_, _) _ hh fun ⟨v, z⟩ e => ?_
  refine ah ?_
  cbv
  all_goals exact J2
 replace hh := ifF hh o
 try rw [o]
 cbv
 ·refine y _ _ hh fun v e => ?_
  refine ah ?_
  cbv
  all_goals exact J1

theorem iD {k : Nat} {p0 : List GOcc} {p1 : List GOcc} {r : List GOcc} (hh : bd.f k p0 p1 = some r) : ai P 234 [tA (qGOcc p0), tA (qGOcc p1)] [hA, hA] (oA 3 (qGOcc r)) := by
 unfold bd.f at hh
 refine go (ts := [(4, none)]) (rm := [.own]) (pm := [.skip, .skip]) Tryz.func234 ?_
 unhygienic intros
 cbv
 replace hh := bind_some hh
 obtain ⟨J, z, A⟩ := hh
 refine au hC eok mixed (fun n (i : (List GOcc) × Int) => bd.l0 k p0 p1 n i.1 i.2)
  (fun ⟨j, s⟩ => (⟨[(1, tA (qGOcc p1)), (5, .ref (5, 50) 1 0 (len (qGOcc j))), (10, tA (qGOcc p0)), (11, iA (cast (len (qGOcc p0)))), (12, iA s)], [((5, 50), .arr 1 3 (qGOcc j))]⟩ : St))
  (fun (o : List GOcc) => (⟨[(5, .ref (5, 50) 1 0 (len (qGOcc o)))], [((5, 50), .arr 1 3 (qGOcc o))]⟩ : St)) (fun x => x) (.exit 0)
  (i0 := (_, _)) z (fun _ => rfl) ?_ ?_ ?_
 ·rintro ⟨u, B⟩ e
  refine aw [] ?_
  cbv
  all_goals exact J2
 rintro o hx
 subst J
 have hh := A
 cbv
 exact Eb
 rintro n ⟨j, s⟩ L M hh t C K
 try dsimp only at hh
 unfold bd.l0 at hh
 cbv
 refine bcs (fun b => ?_) (fun b => ?_)
 replace hh := ifT hh b
 try rw [b]
 cbv
 replace hh := aa hh
 obtain ⟨D, hh⟩ := hh
 replace hh := bind_some hh
 obtain ⟨⟨v, w, y⟩, F, hh⟩ := hh
 try dsimp only at hh
 refine ⟨[iA v, iA w, tA (qInt y)], Nb D, Gb F, ?_⟩
 cbv
 replace hh := bind_some hh
 obtain ⟨⟨I, d⟩, G, hh⟩ := hh
 try dsimp only at hh
 refine ac hF (dS hQ (g2 := fun y0 y1 => ci.f k y0 y1) (fun h => iC hQ h) G) ?_
 cbv
 replace hh := az hh
 rcases hh with ⟨p, hh⟩ | ⟨p, hh⟩
 have c : d = true := Tb p
 have g := c; cbv at g; try rw [c]
 try rw [g]
 cbv
 ·refine t (_, _) _ hh fun ⟨u, B⟩ e => ?_
  refine ah ?_
  cbv
  all_goals exact J2
 have c : d = false := Fb p
 have g := c; cbv at g; try rw [c]
 try rw [g]
 cbv
 replace hh := aa hh
 obtain ⟨H, hh⟩ := hh
 refine ⟨⟨Ob, Ab⟩, ?_⟩
 refine ⟨⟨Ob, Wb H⟩, ?_⟩
 ·refine t (_, _) _ hh fun ⟨u, B⟩ e => ?_
  refine aw [((5, 50), (27, 0))] ?_
  cbv
  all_goals exact J2
 replace hh := ifF hh b
 try rw [b]
 cbv
 ·refine C _ _ hh fun u e => ?_
  refine ah ?_
  cbv
  all_goals exact J1

theorem oN {k : Nat} {p0 : Int} {p1 : List GOcc} {p2 : GOcc} {p3 : Bool} {r : List GOcc} (hh : ep.f k p0 p1 p2 p3 = some r) : ai P 235 [iA p0, tA (qGOcc p1), .agg [iA p2.From, iA p2.To, tA (qInt p2.Ids)], bA p3] [hA, hA, hA, hA] (tA (qGOcc r)) := by
 obtain ⟨p2a, p2b, p2c⟩ := p2
 unfold ep.f at hh
 refine go (ts := [(8, none)]) (rm := [.val]) (pm := [.skip, .skip, .skip, .skip]) Tryz.func235 ?_
 unhygienic intros
 cbv
 refine bcs (fun b => ?_) (fun b => ?_)
 replace hh := ifT hh b
 try rw [b]
 cbv
 exact Eb
 replace hh := ifF hh b
 try rw [b]
 cbv
 refine bcs (fun c => ?_) (fun c => ?_)
 replace hh := ifT hh c
 try rw [c]
 cbv
 replace hh := bind_some hh
 obtain ⟨s, o, hh⟩ := hh
 refine ac hF (iF hQ o) ?_
 cbv
 exact Eb
 replace hh := ifF hh c
 try rw [c]
 cbv
 refine bcs (fun d => ?_) (fun d => ?_)
 replace hh := ifT hh d
 try rw [d]
 cbv
 replace hh := bind_some hh
 obtain ⟨p, j, hh⟩ := hh
 refine ac hF (iF hQ j) ?_
 cbv
 exact Eb
 replace hh := ifF hh d
 try rw [d]
 cbv
 exact Eb

theorem mj {k : Nat} {p0 : GPair} {p1 : Int} {p2 : List GOcc} {p3 : List GOcc} {r : GPair × (List GOcc)} (hh : a8.f k p0 p1 p2 p3 = some r) : ai P 197 [.agg [tA (qGOcc p0.Left), tA (qGOcc p0.Right)], iA p1, tA (qGOcc p2), tA (qGOcc p3)] [hA, hA, hA, hA] (.tup [.agg [tA (qGOcc r.1.Left), tA (qGOcc r.1.Right)], tA (qGOcc r.2)]) := by
 obtain ⟨p0a, p0b⟩ := p0
 unfold a8.f at hh
 refine go (ts := [(8, some 171), (9, none)]) (rm := [.val, .val]) (pm := [.skip, .skip, .skip, .skip]) Tryz.func197 ?_
 unhygienic intros
 cbv
 replace hh := bind_some hh
 obtain ⟨O, d, j⟩ := hh
 refine au hC eok mixed (fun n (i : (List GOcc) × (List GOcc) × (List GOcc) × Int) => a8.l0 k p1 p2 n i.1 i.2.1 i.2.2.1 i.2.2.2)
  (fun ⟨z, A, B, C⟩ => (⟨[(1, iA p1), (3, tA (qGOcc p3)), (4, .mptr (4, 0) 1 0 0), (8, .mptr (8, 0) 1 0 0), (10, tA (qGOcc B)), (19, tA (qGOcc p2)), (20, iA (cast (len (qGOcc p2)))), (21, iA C)], [((4, 0), .box 1 [tA (qGOcc z), tA (qGOcc A)]), ((8, 0), .box 1 [.lit (.slice none 0 0), .lit (.slice none 0 0)])]⟩ : St))
  (fun (⟨D, F, G⟩ : (List GOcc) × (List GOcc) × (List GOcc)) => (⟨[(1, iA p1), (3, tA (qGOcc p3)), (4, .mptr (4, 0) 1 0 0), (8, .mptr (8, 0) 1 0 0), (10, tA (qGOcc G))], [((4, 0), .box 1 [tA (qGOcc D), tA (qGOcc F)]), ((8, 0), .box 1 [.lit (.slice none 0 0), .lit (.slice none 0 0)])]⟩ : St)) (fun x => x) (.exit 0)
  (i0 := (_, _, _, _)) d (fun _ => rfl) ?_ ?_ ?_
 ·rintro ⟨o, p, s, Q⟩ e
  refine ah ?_
  cbv
  all_goals exact J4
 rintro ⟨D, F, G⟩ hx
 subst O
 have hh := j
 cbv
 replace hh := bind_some hh
 obtain ⟨O, d, j⟩ := hh
 refine au hC eok mixed (fun n (i : (List GOcc) × (List GOcc) × (List GOcc) × Int) => a8.l1 k p1 p3 n i.1 i.2.1 i.2.2.1 i.2.2.2)
  (fun ⟨H, I, J, K⟩ => (⟨[(1, iA p1), (4, .mptr (4, 0) 1 0 0), (8, .mptr (8, 0) 1 0 0), (10, tA (qGOcc J)), (51, tA (qGOcc p3)), (52, iA (cast (len (qGOcc p3)))), (53, iA K)], [((4, 0), .box 1 [tA (qGOcc H), tA (qGOcc I)]), ((8, 0), .box 1 [.lit (.slice none 0 0), .lit (.slice none 0 0)])]⟩ : St))
  (fun (⟨L, M, N⟩ : (List GOcc) × (List GOcc) × (List GOcc)) => (⟨[(4, .mptr (4, 0) 1 0 0), (8, .mptr (8, 0) 1 0 0), (10, tA (qGOcc N))], [((4, 0), .box 1 [tA (qGOcc L), tA (qGOcc M)]), ((8, 0), .box 1 [.lit (.slice none 0 0), .lit (.slice none 0 0)])]⟩ : St)) (fun x => x) (.exit 2)
  (i0 := (_, _, _, _)) d (fun _ => rfl) ?_ ?_ ?_
 ·rintro ⟨o, p, s, Q⟩ e
  refine ah ?_
  cbv
  all_goals exact J4
 rintro ⟨L, M, N⟩ hx
 subst O
 have hh := j
 cbv
 exact Eb
 rintro n ⟨H, I, J, K⟩ N1 D1 hh t u xI
 try dsimp only at hh
 unfold a8.l1 at hh
 cbv
 refine bcs (fun b => ?_) (fun b => ?_)
 replace hh := ifT hh b
 try rw [b]
 cbv
 replace hh := aa hh
 obtain ⟨R, hh⟩ := hh
 replace hh := bind_some hh
 obtain ⟨⟨v, w, y⟩, S, hh⟩ := hh
 try dsimp only at hh
 refine ⟨[iA v, iA w, tA (qInt y)], Nb R, Gb S, ?_⟩
 cbv
 replace hh := bind_some hh
 obtain ⟨⟨Bo, B2⟩, T, hh⟩ := hh
 try dsimp only at hh
 have fc := fE hQ T
 try dsimp only at fc
 refine ac hF fc ?_
 cbv
 replace hh := bind_some hh
 obtain ⟨Cw, U, hh⟩ := hh
 refine ac hF (ct hQ U) ?_
 cbv
 replace hh := bind_some hh
 obtain ⟨V, W, hh⟩ := hh
 refine ac hF (ai.frz (r' := tA (qGOcc V)) (iD hQ W) (by cases hQ; simp)) ?_
 cbv
 replace hh := bind_some hh
 obtain ⟨Cy, X, hh⟩ := hh
 refine ac hF (oN hQ X) ?_
 cbv
 ·refine t (_, _, _, _) _ hh fun ⟨o, p, s, Q⟩ e => ?_
  refine ah ?_
  cbv
  all_goals exact J4
 replace hh := ifF hh b
 try rw [b]
 cbv
 ·refine u (_, _, _) _ hh fun ⟨o, p, s⟩ e => ?_
  refine ah ?_
  cbv
  all_goals exact J3
 rintro n ⟨z, A, B, C⟩ N1 D1 hh t u xI
 try dsimp only at hh
 unfold a8.l0 at hh
 cbv
 refine bcs (fun c => ?_) (fun c => ?_)
 replace hh := ifT hh c
 try rw [c]
 cbv
 replace hh := aa hh
 obtain ⟨B3, hh⟩ := hh
 replace hh := bind_some hh
 obtain ⟨⟨Y, Z, dv⟩, Ce, hh⟩ := hh
 try dsimp only at hh
 refine ⟨[iA Y, iA Z, tA (qInt dv)], Nb B3, Gb Ce, ?_⟩
 cbv
 replace hh := bind_some hh
 obtain ⟨⟨Cp, Cq⟩, Cj, hh⟩ := hh
 try dsimp only at hh
 have fc := fE hQ Cj
 try dsimp only at fc
 refine ac hF fc ?_
 cbv
 replace hh := bind_some hh
 obtain ⟨Cz, Ck, hh⟩ := hh
 refine ac hF (ct hQ Ck) ?_
 cbv
 replace hh := bind_some hh
 obtain ⟨Cm, Cn, hh⟩ := hh
 refine ac hF (ai.frz (r' := tA (qGOcc Cm)) (iD hQ Cn) (by cases hQ; simp)) ?_
 cbv
 replace hh := bind_some hh
 obtain ⟨CB, Co, hh⟩ := hh
 refine ac hF (oN hQ Co) ?_
 cbv
 ·refine t (_, _, _, _) _ hh fun ⟨o, p, s, Q⟩ e => ?_
  refine ah ?_
  cbv
  all_goals exact J4
 replace hh := ifF hh c
 try rw [c]
 cbv
 ·refine u (_, _, _) _ hh fun ⟨o, p, s⟩ e => ?_
  refine ah ?_
  cbv
  all_goals exact J3

theorem qf {p0 : GOcc} {c0 : GOcc} {r : Bool} (hh : eh.f p0 c0 = some r) : ai P 236 [.agg [iA p0.From, iA p0.To, tA (qInt p0.Ids)], .iptr [iA c0.From, iA c0.To, tA (qInt c0.Ids)] 0] [hA, hA] (bA r) := by
 obtain ⟨p0a, p0b, p0c⟩ := p0
 obtain ⟨c0a, c0b, c0c⟩ := c0
 unfold eh.f at hh
 refine go (ts := [(3, none)]) (rm := [.own]) (pm := [.skip, .skip]) Tryz.func236 ?_
 unhygienic intros
 cbv
 exact Eb

theorem jW {k : Nat} {g1 : GOcc → Option Bool} {cp1_0 : GOcc} (hg1 : ∀ {y0 : GOcc} {r : Bool}, g1 y0 = some r → ai P 236 [.agg [iA y0.From, iA y0.To, tA (qInt y0.Ids)], .iptr [iA cp1_0.From, iA cp1_0.To, tA (qInt cp1_0.Ids)] 0] [hA, hA] (bA r)) {p0 : List GOcc} {r : List GOcc} (hh : aP.f g1 k p0 = some r) : ai P 218 [tA (qGOcc p0), .clo 236 [.iptr [iA cp1_0.From, iA cp1_0.To, tA (qInt cp1_0.Ids)] 0]] [hA, hA] (oA 3 (qGOcc r)) := by
 obtain ⟨cp1_0a, cp1_0b, cp1_0c⟩ := cp1_0
 unfold aP.f at hh
 refine go (ts := [(4, none)]) (rm := [.own]) (pm := [.skip, .skip]) Tryz.func218 ?_
 unhygienic intros
 cbv
 replace hh := bind_some hh
 obtain ⟨G, w, y⟩ := hh
 refine au hC eok mixed (fun n (i : (List GOcc) × Int) => aP.l0 k g1 p0 n i.1 i.2)
  (fun ⟨d, o⟩ => (⟨[(1, .clo 236 [.iptr [iA cp1_0a, iA cp1_0b, tA (qInt cp1_0c)] 0]), (5, .ref (5, 50) 1 0 (len (qGOcc d))), (8, tA (qGOcc p0)), (9, iA (cast (len (qGOcc p0)))), (10, iA o)], [((5, 50), .arr 1 3 (qGOcc d))]⟩ : St))
  (fun (j : List GOcc) => (⟨[(5, .ref (5, 50) 1 0 (len (qGOcc j)))], [((5, 50), .arr 1 3 (qGOcc j))]⟩ : St)) (fun x => x) (.exit 0)
  (i0 := (_, _)) w (fun _ => rfl) ?_ ?_ ?_
 ·rintro ⟨s, z⟩ e
  refine aw [] ?_
  cbv
  all_goals exact J2
 rintro j hx
 subst G
 have hh := y
 cbv
 exact Eb
 rintro n ⟨d, o⟩ J K hh p A H
 try dsimp only at hh
 unfold aP.l0 at hh
 cbv
 refine bcs (fun b => ?_) (fun b => ?_)
 replace hh := ifT hh b
 try rw [b]
 cbv
 replace hh := aa hh
 obtain ⟨B, hh⟩ := hh
 replace hh := bind_some hh
 obtain ⟨⟨t, u, v⟩, C, hh⟩ := hh
 try dsimp only at hh
 refine ⟨[iA t, iA u, tA (qInt v)], Nb B, Gb C, ?_⟩
 cbv
 replace hh := bind_some hh
 obtain ⟨I, D, hh⟩ := hh
 refine ac hF (hg1 D) ?_
 cbv
 refine bcs (fun c => ?_) (fun c => ?_)
 replace hh := ifT hh c
 try rw [c]
 cbv
 replace hh := aa hh
 obtain ⟨F, hh⟩ := hh
 refine ⟨⟨Ob, Ab⟩, ?_⟩
 refine ⟨⟨Ob, Wb F⟩, ?_⟩
 ·refine p (_, _) _ hh fun ⟨s, z⟩ e => ?_
  refine aw [((5, 50), (20, 0))] ?_
  cbv
  all_goals exact J2
 replace hh := ifF hh c
 try rw [c]
 cbv
 ·refine p (_, _) _ hh fun ⟨s, z⟩ e => ?_
  refine ah ?_
  cbv
  all_goals exact J2
 replace hh := ifF hh b
 try rw [b]
 cbv
 ·refine A _ _ hh fun s e => ?_
  refine ah ?_
  cbv
  all_goals exact J1

theorem mv {k : Nat} {p0 : GPair} {p1 : Int} {p2 : List GOcc} {p3 : List GOcc} {r : GPair × (List GOcc)} (hh : bT.f k p0 p1 p2 p3 = some r) : ai P 198 [.agg [tA (qGOcc p0.Left), tA (qGOcc p0.Right)], iA p1, tA (qGOcc p2), tA (qGOcc p3)] [hA, hA, hA, hA] (.tup [.agg [tA (qGOcc r.1.Left), tA (qGOcc r.1.Right)], tA (qGOcc r.2)]) := by
 obtain ⟨p0a, p0b⟩ := p0
 unfold bT.f at hh
 refine goG (g := [5]) (i := []) (o := []) (sh := []) (ts := [(8, some 171), (9, none)]) (rm := [.val, .val]) (pm := [.skip, .skip, .skip, .skip]) Tryz.func198 ?_
 unhygienic intros
 cbv
 replace hh := bind_some hh
 obtain ⟨O, w, y⟩ := hh
 refine au hC (ck [5] [] []) mixed (fun n (i : (List GOcc) × (List GOcc) × Int) => bT.l0 k p1 p3 n i.1 i.2.1 i.2.2)
  (fun ⟨p, s, t⟩ => (⟨[(1, iA p1), (2, tA (qGOcc p2)), (4, .mptr (4, 0) 1 0 0), (8, .mptr (8, 0) 1 0 0), (10, tA (qGOcc s)), (15, tA (qGOcc p3)), (16, iA (cast (len (qGOcc p3)))), (17, iA t)], [((4, 0), .box 1 [tA (qGOcc p), tA (qGOcc p0b)]), ((8, 0), .box 1 [.lit (.slice none 0 0), .lit (.slice none 0 0)])]⟩ : St))
  (fun (⟨u, v⟩ : (List GOcc) × (List GOcc)) => (⟨[(2, tA (qGOcc p2)), (4, .mptr (4, 0) 1 0 0), (8, .mptr (8, 0) 1 0 0), (10, tA (qGOcc v))], [((4, 0), .box 1 [tA (qGOcc u), tA (qGOcc p0b)]), ((8, 0), .box 1 [.lit (.slice none 0 0), .lit (.slice none 0 0)])]⟩ : St)) (fun x => x) (.exit 0)
  (i0 := (_, _, _)) w (fun _ => rfl) ?_ ?_ ?_
 ·rintro ⟨z, A, Q⟩ e
  refine ah ?_
  cbv
  all_goals exact J3
 rintro ⟨u, v⟩ hx
 subst O
 have hh := y
 cbv
 replace hh := bind_some hh
 obtain ⟨R, B, hh⟩ := hh
 refine ac hF (ct hQ B) ?_
 cbv
 exact Eb
 rintro n ⟨p, s, t⟩ V W hh C D S
 try dsimp only at hh
 unfold bT.l0 at hh
 cbv
 refine bcs (fun b => ?_) (fun b => ?_)
 replace hh := ifT hh b
 try rw [b]
 cbv
 replace hh := aa hh
 obtain ⟨F, hh⟩ := hh
 replace hh := bind_some hh
 obtain ⟨⟨c, d, j⟩, G, hh⟩ := hh
 try dsimp only at hh
 refine ⟨[iA c, iA d, tA (qInt j)], Nb F, Gb G, ?_⟩
 cbv
 refine CW hC (ck [5] [] []) mixed (⟨[(1, iA p1), (2, tA (qGOcc p2)), (4, .mptr (4, 0) 1 0 0), (8, .mptr (8, 0) 1 0 0), (10, tA (qGOcc s)), (12, .mptr (12, 0) 1 0 0), (15, tA (qGOcc p3)), (16, iA (cast (len (qGOcc p3)))), (17, iA t)], [((4, 0), .box 1 [tA (qGOcc p), tA (qGOcc p0b)]), ((8, 0), .box 1 [.lit (.slice none 0 0), .lit (.slice none 0 0)]), ((12, 0), .fbox 1 [iA c, iA d, tA (qInt j)])]⟩ : St) (aw [((4, 0), (4, 0)), ((8, 0), (8, 0)), ((12, 0), (12, 0))] ?_) ?_
 ·cbv
  all_goals exact Zb
 cbv
 replace hh := bind_some hh
 obtain ⟨T, H, hh⟩ := hh
 refine ac hF (jW hQ (g1 := fun y0 => eh.f y0 ((⟨c, d, j⟩ : GOcc))) (fun h => qf hQ h) H) ?_
 cbv
 replace hh := bind_some hh
 obtain ⟨⟨M, N⟩, I, hh⟩ := hh
 try dsimp only at hh
 refine ⟨Ob, ?_⟩
 have fc := fE hQ I
 try dsimp only at fc
 refine ac hF fc ?_
 cbv
 replace hh := bind_some hh
 obtain ⟨U, J, hh⟩ := hh
 refine ac hF (ct hQ J) ?_
 cbv
 replace hh := bind_some hh
 obtain ⟨K, L, hh⟩ := hh
 refine ac hF (ai.frz (r' := tA (qGOcc K)) (iD hQ L) (by cases hQ; simp)) ?_
 cbv
 ·refine C (_, _, _) _ hh fun ⟨z, A, Q⟩ e => ?_
  refine ah ?_
  cbv
  all_goals exact J3
 replace hh := ifF hh b
 try rw [b]
 cbv
 ·refine D (_, _) _ hh fun ⟨z, A⟩ e => ?_
  refine ah ?_
  cbv
  all_goals exact J2

theorem oe {p0 : GOcc} {c0 : GOcc} {c1 : GOcc} {r : Bool} (hh : ea.f p0 c0 c1 = some r) : ai P 256 [.agg [iA p0.From, iA p0.To, tA (qInt p0.Ids)], .iptr [iA c0.From, iA c0.To, tA (qInt c0.Ids)] 0, .iptr [iA c1.From, iA c1.To, tA (qInt c1.Ids)] 0] [hA, hA, hA] (bA r) := by
 obtain ⟨p0a, p0b, p0c⟩ := p0
 obtain ⟨c0a, c0b, c0c⟩ := c0
 obtain ⟨c1a, c1b, c1c⟩ := c1
 unfold ea.f at hh
 refine go (ts := [(4, none)]) (rm := [.own]) (pm := [.skip, .skip, .skip]) Tryz.func256 ?_
 unhygienic intros
 cbv
 refine bcs (fun b => ?_) (fun b => ?_)
 replace hh := ifT hh b
 try rw [b]
 cbv
 exact Eb
 replace hh := ifF hh b
 try rw [b]
 cbv
 exact Eb

theorem fV {k : Nat} {g1 : GOcc → Option Bool} {cp1_0 : GOcc} {cp1_1 : GOcc} (hg1 : ∀ {y0 : GOcc} {r : Bool}, g1 y0 = some r → ai P 256 [.agg [iA y0.From, iA y0.To, tA (qInt y0.Ids)], .iptr [iA cp1_0.From, iA cp1_0.To, tA (qInt cp1_0.Ids)] 0, .iptr [iA cp1_1.From, iA cp1_1.To, tA (qInt cp1_1.Ids)] 0] [hA, hA, hA] (bA r)) {p0 : List GOcc} {r : Int} (hh : aB.f g1 k p0 = some r) : ai P 230 [tA (qGOcc p0), .clo 256 [.iptr [iA cp1_0.From, iA cp1_0.To, tA (qInt cp1_0.Ids)] 0, .iptr [iA cp1_1.From, iA cp1_1.To, tA (qInt cp1_1.Ids)] 0]] [hA, hA] (iA r) := by
 obtain ⟨cp1_0a, cp1_0b, cp1_0c⟩ := cp1_0
 obtain ⟨cp1_1a, cp1_1b, cp1_1c⟩ := cp1_1
 unfold aB.f at hh
 refine go (ts := [(4, none)]) (rm := [.own]) (pm := [.skip, .skip]) Tryz.func230 ?_
 unhygienic intros
 cbv
 replace hh := bind_some hh
 obtain ⟨B, t, d⟩ := hh
 refine au hC eok mixed (aB.l0 k g1 p0)
  (fun j => (⟨[(0, tA (qGOcc p0)), (1, .clo 256 [.iptr [iA cp1_0a, iA cp1_0b, tA (qInt cp1_0c)] 0, .iptr [iA cp1_1a, iA cp1_1b, tA (qInt cp1_1c)] 0]), (7, iA (cast (len (qGOcc p0)))), (8, iA j)], []⟩ : St))
  (fun (_ : Unit) => (⟨[], []⟩ : St)) .ok (.exit 0)
  (i0 := _) t (fun _ => rfl) ?_ ?_ ?_
 ·rintro C e
  refine ah ?_
  cbv
  all_goals exact J1
 rintro _ hx
 subst B
 have hh := d
 cbv
 exact Eb
 rintro n j F G hh u v w
 unfold aB.l0 at hh
 cbv
 refine bcs (fun b => ?_) (fun b => ?_)
 replace hh := ifT hh b
 try rw [b]
 cbv
 replace hh := aa hh
 obtain ⟨y, hh⟩ := hh
 replace hh := bind_some hh
 obtain ⟨⟨o, p, s⟩, z, hh⟩ := hh
 try dsimp only at hh
 refine ⟨[iA o, iA p, tA (qInt s)], Nb y, Gb z, ?_⟩
 cbv
 replace hh := bind_some hh
 obtain ⟨D, A, hh⟩ := hh
 refine ac hF (hg1 A) ?_
 cbv
 refine bcs (fun c => ?_) (fun c => ?_)
 replace hh := ifT hh c
 try rw [c]
 cbv
 cases hh
 have hh : some _ = some _ := d
 refine w _ _ ?_
 cbv
 exact Eb
 replace hh := ifF hh c
 try rw [c]
 cbv
 ·refine u _ _ hh fun C e => ?_
  refine ah ?_
  cbv
  all_goals exact J1
 replace hh := ifF hh b
 try rw [b]
 cbv
 ·refine v () _ hh fun _ e => ?_
  refine ah ?_
  cbv
  all_goals exact J0

theorem fv {k : Nat} {g1 : GOcc → Option Bool} {cp1_0 : GOcc} {cp1_1 : GOcc} (hg1 : ∀ {y0 : GOcc} {r : Bool}, g1 y0 = some r → ai P 256 [.agg [iA y0.From, iA y0.To, tA (qInt y0.Ids)], .iptr [iA cp1_0.From, iA cp1_0.To, tA (qInt cp1_0.Ids)] 0, .iptr [iA cp1_1.From, iA cp1_1.To, tA (qInt cp1_1.Ids)] 0] [hA, hA, hA] (bA r)) {p0 : List GOcc} {r : Bool} (hh : aR.f g1 k p0 = some r) : ai P 192 [tA (qGOcc p0), .clo 256 [.iptr [iA cp1_0.From, iA cp1_0.To, tA (qInt cp1_0.Ids)] 0, .iptr [iA cp1_1.From, iA cp1_1.To, tA (qInt cp1_1.Ids)] 0]] [hA, hA] (bA r) := by
 obtain ⟨cp1_0a, cp1_0b, cp1_0c⟩ := cp1_0
 obtain ⟨cp1_1a, cp1_1b, cp1_1c⟩ := cp1_1
 unfold aR.f at hh
 refine go (ts := [(4, none)]) (rm := [.own]) (pm := [.skip, .skip]) Tryz.func192 ?_
 unhygienic intros
 cbv
 replace hh := bind_some hh
 obtain ⟨c, b, hh⟩ := hh
 refine ac hF (fV hQ (g1 := g1) hg1 b) ?_
 cbv
 exact Eb

theorem pG {k : Nat} {p0 : GOcc} {c0 : GOcc} {c1 : GSpan} {r : Bool} (hh : eE.f k p0 c0 c1 = some r) : ai P 255 [.agg [iA p0.From, iA p0.To, tA (qInt p0.Ids)], .iptr [iA c0.From, iA c0.To, tA (qInt c0.Ids)] 0, .iptr [tA (qGOcc c1.Left), tA (qGOcc c1.Mid)] 0] [hA, hA, hA] (bA r) := by
 obtain ⟨p0a, p0b, p0c⟩ := p0
 obtain ⟨c0a, c0b, c0c⟩ := c0
 obtain ⟨c1a, c1b⟩ := c1
 unfold eE.f at hh
 refine go (ts := [(4, none)]) (rm := [.own]) (pm := [.skip, .skip, .skip]) Tryz.func255 ?_
 unhygienic intros
 cbv
 refine bcs (fun b => ?_) (fun b => ?_)
 replace hh := ifT hh b
 try rw [b]
 cbv
 replace hh := bind_some hh
 obtain ⟨d, c, hh⟩ := hh
 refine ac hF (fv hQ (g1 := fun y0 => ea.f y0 ((⟨p0a, p0b, p0c⟩ : GOcc)) ((⟨c0a, c0b, c0c⟩ : GOcc))) (fun h => oe hQ h) c) ?_
 cbv
 exact Eb
 replace hh := ifF hh b
 try rw [b]
 cbv
 exact Eb

theorem jL {k : Nat} {g1 : GOcc → Option Bool} {cp1_0 : GOcc} {cp1_1 : GSpan} (hg1 : ∀ {y0 : GOcc} {r : Bool}, g1 y0 = some r → ai P 255 [.agg [iA y0.From, iA y0.To, tA (qInt y0.Ids)], .iptr [iA cp1_0.From, iA cp1_0.To, tA (qInt cp1_0.Ids)] 0, .iptr [tA (qGOcc cp1_1.Left), tA (qGOcc cp1_1.Mid)] 0] [hA, hA, hA] (bA r)) {p0 : List GOcc} {r : List GOcc} (hh : aP.f g1 k p0 = some r) : ai P 218 [tA (qGOcc p0), .clo 255 [.iptr [iA cp1_0.From, iA cp1_0.To, tA (qInt cp1_0.Ids)] 0, .iptr [tA (qGOcc cp1_1.Left), tA (qGOcc cp1_1.Mid)] 0]] [hA, hA] (oA 3 (qGOcc r)) := by
 obtain ⟨cp1_0a, cp1_0b, cp1_0c⟩ := cp1_0
 obtain ⟨cp1_1a, cp1_1b⟩ := cp1_1
 unfold aP.f at hh
 refine go (ts := [(4, none)]) (rm := [.own]) (pm := [.skip, .skip]) Tryz.func218 ?_
 unhygienic intros
 cbv
 replace hh := bind_some hh
 obtain ⟨G, w, y⟩ := hh
 refine au hC eok mixed (fun n (i : (List GOcc) × Int) => aP.l0 k g1 p0 n i.1 i.2)
  (fun ⟨d, o⟩ => (⟨[(1, .clo 255 [.iptr [iA cp1_0a, iA cp1_0b, tA (qInt cp1_0c)] 0, .iptr [tA (qGOcc cp1_1a), tA (qGOcc cp1_1b)] 0]), (5, .ref (5, 50) 1 0 (len (qGOcc d))), (8, tA (qGOcc p0)), (9, iA (cast (len (qGOcc p0)))), (10, iA o)], [((5, 50), .arr 1 3 (qGOcc d))]⟩ : St))
  (fun (j : List GOcc) => (⟨[(5, .ref (5, 50) 1 0 (len (qGOcc j)))], [((5, 50), .arr 1 3 (qGOcc j))]⟩ : St)) (fun x => x) (.exit 0)
  (i0 := (_, _)) w (fun _ => rfl) ?_ ?_ ?_
 ·rintro ⟨s, z⟩ e
  refine aw [] ?_
  cbv
  all_goals exact J2
 rintro j hx
 subst G
 have hh := y
 cbv
 exact Eb
 rintro n ⟨d, o⟩ J K hh p A H
 try dsimp only at hh
 unfold aP.l0 at hh
 cbv
 refine bcs (fun b => ?_) (fun b => ?_)
 replace hh := ifT hh b
 try rw [b]
 cbv
 replace hh := aa hh
 obtain ⟨B, hh⟩ := hh
 replace hh := bind_some hh
 obtain ⟨⟨t, u, v⟩, C, hh⟩ := hh
 try dsimp only at hh
 refine ⟨[iA t, iA u, tA (qInt v)], Nb B, Gb C, ?_⟩
 cbv
 replace hh := bind_some hh
 obtain ⟨I, D, hh⟩ := hh
 refine ac hF (hg1 D) ?_
 cbv
 refine bcs (fun c => ?_) (fun c => ?_)
 replace hh := ifT hh c
 try rw [c]
 cbv
 replace hh := aa hh
 obtain ⟨F, hh⟩ := hh
 refine ⟨⟨Ob, Ab⟩, ?_⟩
 refine ⟨⟨Ob, Wb F⟩, ?_⟩
 ·refine p (_, _) _ hh fun ⟨s, z⟩ e => ?_
  refine aw [((5, 50), (20, 0))] ?_
  cbv
  all_goals exact J2
 replace hh := ifF hh c
 try rw [c]
 cbv
 ·refine p (_, _) _ hh fun ⟨s, z⟩ e => ?_
  refine ah ?_
  cbv
  all_goals exact J2
 replace hh := ifF hh b
 try rw [b]
 cbv
 ·refine A _ _ hh fun s e => ?_
  refine ah ?_
  cbv
  all_goals exact J1

theorem ma {k : Nat} {p0 : GSpan} {p1 : GOcc} {r : List GOcc} (hh : dC.f k p0 p1 = some r) : ai P 238 [.agg [tA (qGOcc p0.Left), tA (qGOcc p0.Mid)], .agg [iA p1.From, iA p1.To, tA (qInt p1.Ids)]] [hA, hA] (oA 3 (qGOcc r)) := by
 obtain ⟨p0a, p0b⟩ := p0
 obtain ⟨p1a, p1b, p1c⟩ := p1
 unfold dC.f at hh
 refine go (ts := [(4, none)]) (rm := [.own]) (pm := [.skip, .skip]) Tryz.func238 ?_
 unhygienic intros
 cbv
 replace hh := bind_some hh
 obtain ⟨c, b, hh⟩ := hh
 refine ac hF (jL hQ (g1 := fun y0 => eE.f k y0 ((⟨p1a, p1b, p1c⟩ : GOcc)) ((⟨p0a, p0b⟩ : GSpan))) (fun h => pG hQ h) b) ?_
 cbv
 exact Eb

theorem mw {k : Nat} {p0 : GSpan} {p1 : Int} {p2 : List GOcc} {p3 : List GOcc} {p4 : List GOcc} {r : GSpan × (List GOcc)} (hh : bS.f k p0 p1 p2 p3 p4 = some r) : ai P 200 [.agg [tA (qGOcc p0.Left), tA (qGOcc p0.Mid)], iA p1, tA (qGOcc p2), tA (qGOcc p3), tA (qGOcc p4)] [hA, hA, hA, hA, hA] (.tup [.agg [tA (qGOcc r.1.Left), tA (qGOcc r.1.Mid)], tA (qGOcc r.2)]) := by
 obtain ⟨p0a, p0b⟩ := p0
 unfold bS.f at hh
 refine go (ts := [(10, some 173), (11, none)]) (rm := [.val, .val]) (pm := [.skip, .skip, .skip, .skip, .skip]) Tryz.func200 ?_
 unhygienic intros
 cbv
 replace hh := bind_some hh
 obtain ⟨O, v, w⟩ := hh
 refine au hC eok mixed (fun n (i : (List GOcc) × (List GOcc) × Int) => bS.l0 k (⟨p0a, p0b⟩ : GSpan) p1 p4 n i.1 i.2.1 i.2.2)
  (fun ⟨c, d, j⟩ => (⟨[(1, iA p1), (2, tA (qGOcc p2)), (3, tA (qGOcc p3)), (5, .mptr (5, 0) 1 0 0), (10, .mptr (10, 0) 1 0 0), (12, tA (qGOcc d)), (17, tA (qGOcc p4)), (18, iA (cast (len (qGOcc p4)))), (19, iA j)], [((5, 0), .box 1 [tA (qGOcc c), tA (qGOcc p0b)]), ((10, 0), .box 1 [.lit (.slice none 0 0), .lit (.slice none 0 0)])]⟩ : St))
  (fun (⟨o, p⟩ : (List GOcc) × (List GOcc)) => (⟨[(2, tA (qGOcc p2)), (3, tA (qGOcc p3)), (5, .mptr (5, 0) 1 0 0), (10, .mptr (10, 0) 1 0 0), (12, tA (qGOcc p))], [((5, 0), .box 1 [tA (qGOcc o), tA (qGOcc p0b)]), ((10, 0), .box 1 [.lit (.slice none 0 0), .lit (.slice none 0 0)])]⟩ : St)) (fun x => x) (.exit 0)
  (i0 := (_, _, _)) v (fun _ => rfl) ?_ ?_ ?_
 ·rintro ⟨y, z, Q⟩ e
  refine ah ?_
  cbv
  all_goals exact J3
 rintro ⟨o, p⟩ hx
 subst O
 have hh := w
 cbv
 replace hh := bind_some hh
 obtain ⟨R, A, hh⟩ := hh
 refine ac hF (ct hQ A) ?_
 cbv
 replace hh := bind_some hh
 obtain ⟨S, B, hh⟩ := hh
 refine ac hF (ct hQ B) ?_
 cbv
 exact Eb
 rintro n ⟨c, d, j⟩ W X hh C D T
 try dsimp only at hh
 unfold bS.l0 at hh
 cbv
 refine bcs (fun b => ?_) (fun b => ?_)
 replace hh := ifT hh b
 try rw [b]
 cbv
 replace hh := aa hh
 obtain ⟨F, hh⟩ := hh
 replace hh := bind_some hh
 obtain ⟨⟨s, t, u⟩, G, hh⟩ := hh
 try dsimp only at hh
 refine ⟨[iA s, iA t, tA (qInt u)], Nb F, Gb G, ?_⟩
 cbv
 replace hh := bind_some hh
 obtain ⟨U, H, hh⟩ := hh
 refine ac hF (ma hQ H) ?_
 cbv
 replace hh := bind_some hh
 obtain ⟨⟨M, N⟩, I, hh⟩ := hh
 try dsimp only at hh
 refine ⟨Ob, ?_⟩
 have fc := fE hQ I
 try dsimp only at fc
 refine ac hF fc ?_
 cbv
 replace hh := bind_some hh
 obtain ⟨V, J, hh⟩ := hh
 refine ac hF (ct hQ J) ?_
 cbv
 replace hh := bind_some hh
 obtain ⟨K, L, hh⟩ := hh
 refine ac hF (ai.frz (r' := tA (qGOcc K)) (iD hQ L) (by cases hQ; simp)) ?_
 cbv
 ·refine C (_, _, _) _ hh fun ⟨y, z, Q⟩ e => ?_
  refine ah ?_
  cbv
  all_goals exact J3
 replace hh := ifF hh b
 try rw [b]
 cbv
 ·refine D (_, _) _ hh fun ⟨y, z⟩ e => ?_
  refine ah ?_
  cbv
  all_goals exact J2

theorem lG {k : Nat} {p0 : GSpan} {p1 : Int} {p2 : List GOcc} {p3 : List GOcc} {p4 : List GOcc} {r : GSpan × (List GOcc)} (hh : bP.f k p0 p1 p2 p3 p4 = some r) : ai P 201 [.agg [tA (qGOcc p0.Left), tA (qGOcc p0.Mid)], iA p1, tA (qGOcc p2), tA (qGOcc p3), tA (qGOcc p4)] [hA, hA, hA, hA, hA] (.tup [.agg [tA (qGOcc r.1.Left), tA (qGOcc r.1.Mid)], tA (qGOcc r.2)]) := by
 obtain ⟨p0a, p0b⟩ := p0
 unfold bP.f at hh
 refine go (ts := [(10, some 173), (11, none)]) (rm := [.val, .val]) (pm := [.skip, .skip, .skip, .skip, .skip]) Tryz.func201 ?_
 unhygienic intros
 cbv
 replace hh := bind_some hh
 obtain ⟨J, t, u⟩ := hh
 refine au hC eok mixed (fun n (i : (List GOcc) × Int) => bP.l0 k (⟨p0a, p0b⟩ : GSpan) p1 p3 n i.1 i.2)
  (fun ⟨c, d⟩ => (⟨[(1, iA p1), (2, tA (qGOcc p2)), (4, tA (qGOcc p4)), (5, .mptr (5, 0) 1 0 0), (10, .mptr (10, 0) 1 0 0), (12, tA (qGOcc c)), (17, tA (qGOcc p3)), (18, iA (cast (len (qGOcc p3)))), (19, iA d)], [((5, 0), .box 1 [tA (qGOcc p0a), tA (qGOcc p0b)]), ((10, 0), .box 1 [.lit (.slice none 0 0), .lit (.slice none 0 0)])]⟩ : St))
  (fun (j : List GOcc) => (⟨[(2, tA (qGOcc p2)), (4, tA (qGOcc p4)), (5, .mptr (5, 0) 1 0 0), (10, .mptr (10, 0) 1 0 0), (12, tA (qGOcc j))], [((5, 0), .box 1 [tA (qGOcc p0a), tA (qGOcc p0b)]), ((10, 0), .box 1 [.lit (.slice none 0 0), .lit (.slice none 0 0)])]⟩ : St)) (fun x => x) (.exit 0)
  (i0 := (_, _)) t (fun _ => rfl) ?_ ?_ ?_
 ·rintro ⟨v, K⟩ e
  refine ah ?_
  cbv
  all_goals exact J2
 rintro j hx
 subst J
 have hh := u
 cbv
 replace hh := bind_some hh
 obtain ⟨L, w, hh⟩ := hh
 refine ac hF (ct hQ w) ?_
 cbv
 replace hh := bind_some hh
 obtain ⟨M, y, hh⟩ := hh
 refine ac hF (ct hQ y) ?_
 cbv
 exact Eb
 rintro n ⟨c, d⟩ R S hh z A N
 try dsimp only at hh
 unfold bP.l0 at hh
 cbv
 refine bcs (fun b => ?_) (fun b => ?_)
 replace hh := ifT hh b
 try rw [b]
 cbv
 replace hh := aa hh
 obtain ⟨B, hh⟩ := hh
 replace hh := bind_some hh
 obtain ⟨⟨o, p, s⟩, C, hh⟩ := hh
 try dsimp only at hh
 refine ⟨[iA o, iA p, tA (qInt s)], Nb B, Gb C, ?_⟩
 cbv
 replace hh := bind_some hh
 obtain ⟨O, D, hh⟩ := hh
 refine ac hF (ma hQ D) ?_
 cbv
 replace hh := bind_some hh
 obtain ⟨⟨H, I⟩, F, hh⟩ := hh
 try dsimp only at hh
 refine ⟨Ob, ?_⟩
 have fc := fE hQ F
 try dsimp only at fc
 refine ac hF fc ?_
 cbv
 replace hh := bind_some hh
 obtain ⟨Q, G, hh⟩ := hh
 refine ac hF (ct hQ G) ?_
 cbv
 ·refine z (_, _) _ hh fun ⟨v, K⟩ e => ?_
  refine ah ?_
  cbv
  all_goals exact J2
 replace hh := ifF hh b
 try rw [b]
 cbv
 ·refine A _ _ hh fun v e => ?_
  refine ah ?_
  cbv
  all_goals exact J1

theorem pd {p0 : GOcc} {p1 : Int} {r : GOcc} (hh : fo.f p0 p1 = some r) : ai P 202 [.agg [iA p0.From, iA p0.To, tA (qInt p0.Ids)], iA p1] [hA, hA] (.agg [iA r.From, iA r.To, oA 1 (qInt r.Ids)]) := by
 obtain ⟨p0a, p0b, p0c⟩ := p0
 unfold fo.f at hh
 refine go (ts := [(4, some 67)]) (rm := [.own]) (pm := [.skip, .skip]) Tryz.func202 ?_
 unhygienic intros
 cbv
 replace hh := bind_some hh
 obtain ⟨⟨c, d, j⟩, b, hh⟩ := hh
 try dsimp only at hh
 have fc := jg hQ b
 try dsimp only at fc
 refine ac hF fc ?_
 cbv
 exact Eb

theorem mb {k : Nat} {p0 : GGraph} {p1 : Int} {r : (List GOcc) × GGraph} (hh : aj.f k p0 p1 = some r) : ai P 130 [.obox [iA p0.Mode, oA 10 (qGNode p0.Nodes), iA p0.Seen, iA p0.Now, bA p0.Full], iA p1, .lit (.pointer none)] [.obox [iA r.2.Mode, oA 10 (qGNode r.2.Nodes), iA r.2.Seen, iA r.2.Now, bA r.2.Full], hA, hA] (tA (qGOcc r.1)) := by
 obtain ⟨p0a, p0b, p0c, p0d, p0e⟩ := p0
 unfold aj.f at hh
 refine goG (g := []) (i := [185]) (o := [216]) (sh := []) (ts := [(6, none)]) (rm := [.val]) (pm := [.own, .skip, .skip]) Tryz.func130 ?_
 unhygienic intros
 cbv
 replace hh := bind_some hh
 obtain ⟨o1, Fg, Fh⟩ := hh
 refine au hC (ck [] [185] [216]) mixed (fun n (i : (List GNode) × Bool × (List (List GOcc)) × Int) => aj.l1 k (⟨p0a, p0b, p0c, p0d, p0e⟩ : GGraph) p1 n i.1 i.2.1 i.2.2.1 i.2.2.2)
  (fun ⟨B, D, A, z⟩ => (⟨[(0, .mptr (0, 0) 1 0 0), (1, iA p1), (2, .lit (.pointer none)), (7, .ref (7, 50) 1 0 (len (qLGOcc A))), (15, iA (cast (len (qGNode p0b)))), (16, iA z), (1000000, .mptr (0, 0) 1 0 0)], [((0, 0), .box 1 [iA p0a, .ref (14, 0) 1 0 (len (qGNode B)), iA p0c, iA p0d, bA D]), ((7, 50), .arr 1 1 (qLGOcc A)), ((14, 0), .arr 1 10 (qGNode B))]⟩ : St))
  (fun (⟨C8, C9, Dc⟩ : (List (List GOcc)) × (List GNode) × Bool) => (⟨[(7, .ref (7, 50) 1 0 (len (qLGOcc C8))), (1000000, .mptr (0, 0) 1 0 0)], [((0, 0), .box 1 [iA p0a, .ref (14, 0) 1 0 (len (qGNode C9)), iA p0c, iA p0d, bA Dc]), ((7, 50), .arr 1 1 (qLGOcc C8)), ((14, 0), .arr 1 10 (qGNode C9))]⟩ : St)) (fun x => x) (.exit 0)
  (i0 := (_, _, _, _)) Fg (fun _ => rfl) ?_ ?_ ?_
 ·rintro ⟨F, G, R, T⟩ e
  refine aw [((0, 0), (0, 0)), ((14, 0), (14, 0))] ?_
  cbv
  all_goals exact J4
 rintro ⟨C8, C9, Dc⟩ hx
 subst o1
 have hh := Fh
 cbv
 replace hh := aa hh
 obtain ⟨Dv, hh⟩ := hh
 replace hh := aa hh
 obtain ⟨Dw, hh⟩ := hh
 refine ⟨Nb Dv, Mb Dw, ?_⟩
 replace hh := bind_some hh
 obtain ⟨Dx, Dy, hh⟩ := hh
 refine ⟨[tA (qGOcc Dx)], Gb Dy, ?_⟩
 cbv
 exact Eb
 rintro n ⟨B, D, A, z⟩ N1 D1 hh C Fi Fu
 try dsimp only at hh
 unfold aj.l1 at hh
 cbv
 refine bcs (fun U => ?_) (fun U => ?_)
 replace hh := ifT hh U
 try rw [U]
 cbv
 replace hh := aa hh
 obtain ⟨Dz, hh⟩ := hh
 replace hh := aa hh
 obtain ⟨DA, hh⟩ := hh
 refine ⟨Nb Dz, Mb DA, ?_⟩
 refine zl hC (ck [] [185] [216]) mixed (ts := [(10, none)]) (⟨[(0, .mptr (1014, 0) 1 (nadd 0 (toNat z)) 0), (1, .mptr (1000, 0) 1 0 0), (2, iA p1), (3, .lit (.pointer none)), (4, .ref (1007, 50) 1 0 (len (qLGOcc A))), (2000000, .mptr (1000, 0) 1 0 0), (2000001, iA p1), (2000002, .lit (.pointer none)), (2000007, .ref (1007, 50) 1 0 (len (qLGOcc A))), (2000009, .mptr (1014, 0) 1 (nadd 0 (toNat z)) 0), (2000015, iA (cast (len (qGNode p0b)))), (2000016, iA z), (3000000, .mptr (1000, 0) 1 0 0)], [((1000, 0), .box 1 [iA p0a, .ref (1014, 0) 1 0 (len (qGNode B)), iA p0c, iA p0d, bA D]), ((1007, 50), .arr 1 1 (qLGOcc A)), ((1014, 0), .arr 1 10 (qGNode B))]⟩ : St) Tryz.func185 (by kernel_rfl) (by kernel_rfl) ?_ ?_
 ·refine aw [((1000, 0), (0, 0)), ((1007, 50), (7, 50)), ((1014, 0), (14, 0))] ?_
  cbv
  all_goals exact Zb
 cbv
 replace hh := bind_some hh
 obtain ⟨⟨b, c, d, j, ⟨u, v⟩, ⟨w, y⟩, t, p⟩, s, hh⟩ := hh
 try dsimp only at hh
 refine ⟨[iA b, iA c, iA d, tA (qInt j), tA (qGOcc u), tA (qGOcc v), tA (qGOcc w), tA (qGOcc y), tA (qGOcc t), iA p], Gb s, ?_⟩
 cbv
 refine bcs (fun V => ?_) (fun V => ?_)
 replace hh := ifT hh V
 try rw [V]
 cbv
 refine ⟨⟨(⟨[(0, .mptr (0, 0) 1 0 0), (1, iA p1), (2, .lit (.pointer none)), (7, .ref (7, 50) 1 0 (len (qLGOcc A))), (9, .mptr (14, 0) 1 (nadd 0 (toNat z)) 0), (15, iA (cast (len (qGNode p0b)))), (16, iA z), (30, .lit (.slice none 0 0)), (1000000, .mptr (0, 0) 1 0 0)], [((0, 0), .box 1 [iA p0a, .ref (14, 0) 1 0 (len (qGNode B)), iA p0c, iA p0d, bA D]), ((7, 50), .arr 1 1 (qLGOcc A)), ((14, 0), .arr 1 10 (qGNode B))]⟩ : St), ?_, ?_⟩, trivial⟩
 ·refine aw [((0, 0), (1000, 0)), ((7, 50), (1007, 50)), ((14, 0), (1014, 0))] ?_
  cbv
  all_goals exact Zb
 cbv
 refine ⟨none, ?_⟩; try cbv
 replace hh := aa hh
 obtain ⟨DB, hh⟩ := hh
 refine ⟨⟨Ob, Ab⟩, ?_⟩
 refine ⟨⟨Ob, Wb DB⟩, ?_⟩
 refine ⟨[iA b, iA c, iA d, tA (qInt j), tA (qGOcc u), tA (qGOcc v), tA (qGOcc w), tA (qGOcc y), tA (qGOcc t), iA p], Gb s, ?_⟩
 cbv
 refine ⟨[iA b, iA c, iA d, tA (qInt j), tA (qGOcc u), tA (qGOcc v), tA (qGOcc w), tA (qGOcc y), tA (qGOcc t), iA p], Gb s, ?_⟩
 cbv
 refine bcs (fun W => ?_) (fun W => ?_)
 replace hh := ifT hh W
 try rw [W]
 cbv
 ·refine C (_, _, _, _) _ hh fun ⟨F, G, R, T⟩ e => ?_
  refine aw [((0, 0), (0, 0)), ((7, 50), (34, 0)), ((14, 0), (14, 0))] ?_
  cbv
  all_goals exact J4
 replace hh := ifF hh W
 try rw [W]
 cbv
 refine ⟨[iA b, iA c, iA d, tA (qInt j), tA (qGOcc u), tA (qGOcc v), tA (qGOcc w), tA (qGOcc y), tA (qGOcc t), iA (wrap .i64 (add p 0))], Gb2 s ((List.getElem?_eq_some_iff.1 s).1), ?_⟩
 cbv
 ·refine C (_, _, _, _) _ hh fun ⟨F, G, R, T⟩ e => ?_
  refine aw [((0, 0), (0, 0)), ((7, 50), (34, 0)), ((14, 0), (14, 0))] ?_
  cbv
  all_goals exact J4
 replace hh := ifF hh V
 try rw [V]
 cbv
 refine bcs (fun X => ?_) (fun X => ?_)
 replace hh := ifT hh X
 try rw [X]
 cbv
 replace hh := aa hh
 obtain ⟨DC, hh⟩ := hh
 replace hh := bind_some hh
 obtain ⟨DD, DE, hh⟩ := hh
 replace hh := aa hh
 obtain ⟨DF, hh⟩ := hh
 replace hh := aa hh
 obtain ⟨DG, hh⟩ := hh
 replace hh := bind_some hh
 obtain ⟨Dd, DH, hh⟩ := hh
 refine ⟨[(5, 0), (9, 0), (1007, 50), (1014, 0)], ?_⟩
 cbv
 refine ⟨tA (qGOcc Dd), ?_, ?_⟩
 ·refine dh hC (ck [] [185] [216]) mixed (ts := [(4, none)]) Tryz.func216 (by kernel_rfl) (by kernel_rfl) ?_
  intro S N
  cbv
  refine ⟨[iA b, iA c, iA d, tA (qInt j), tA (qGOcc u), tA (qGOcc v), tA (qGOcc w), tA (qGOcc y), tA (qGOcc t), iA p], Gb s, ?_⟩
  cbv
  refine ⟨[iA DD], Nb DC, Gb DE, ?_⟩
  cbv
  refine ⟨Nb DF, Mb DG, ?_⟩
  refine ⟨[tA (qGOcc Dd)], Gb DH, ?_⟩
  cbv
  exact Rb
 cbv
 replace hh := aa hh
 obtain ⟨DI, hh⟩ := hh
 replace hh := bind_some hh
 obtain ⟨DJ, DK, hh⟩ := hh
 replace hh := aa hh
 obtain ⟨DL, hh⟩ := hh
 replace hh := aa hh
 obtain ⟨DM, hh⟩ := hh
 replace hh := bind_some hh
 obtain ⟨De, DN, hh⟩ := hh
 refine ⟨[(5, 0), (9, 0), (1007, 50), (1014, 0)], ?_⟩
 cbv
 refine ⟨tA (qGOcc De), ?_, ?_⟩
 ·refine dh hC (ck [] [185] [216]) mixed (ts := [(4, none)]) Tryz.func216 (by kernel_rfl) (by kernel_rfl) ?_
  intro S N
  cbv
  refine ⟨[iA b, iA c, iA d, tA (qInt j), tA (qGOcc u), tA (qGOcc v), tA (qGOcc w), tA (qGOcc y), tA (qGOcc t), iA p], Gb s, ?_⟩
  cbv
  refine ⟨[iA DJ], Nb DI, Gb DK, ?_⟩
  cbv
  refine ⟨Nb DL, Mb DM, ?_⟩
  refine ⟨[tA (qGOcc De)], Gb DN, ?_⟩
  cbv
  exact Rb
 cbv
 replace hh := bind_some hh
 obtain ⟨Df, DO, hh⟩ := hh
 refine ac hF (ct hQ DO) ?_
 cbv
 refine ⟨⟨(⟨[(0, .mptr (0, 0) 1 0 0), (1, iA p1), (2, .lit (.pointer none)), (7, .ref (7, 50) 1 0 (len (qLGOcc A))), (9, .mptr (14, 0) 1 (nadd 0 (toNat z)) 0), (15, iA (cast (len (qGNode p0b)))), (16, iA z), (30, tA (qGOcc Df)), (1000000, .mptr (0, 0) 1 0 0)], [((0, 0), .box 1 [iA p0a, .ref (14, 0) 1 0 (len (qGNode B)), iA p0c, iA p0d, bA D]), ((7, 50), .arr 1 1 (qLGOcc A)), ((14, 0), .arr 1 10 (qGNode B))]⟩ : St), ?_, ?_⟩, trivial⟩
 ·refine aw [((0, 0), (1000, 0)), ((7, 50), (1007, 50)), ((14, 0), (1014, 0))] ?_
  cbv
  all_goals exact Zb
 cbv
 replace hh := aa hh
 obtain ⟨DP, hh⟩ := hh
 refine ⟨⟨Ob, Ab⟩, ?_⟩
 refine ⟨⟨Ob, Wb DP⟩, ?_⟩
 refine ⟨[iA b, iA c, iA d, tA (qInt j), tA (qGOcc u), tA (qGOcc v), tA (qGOcc w), tA (qGOcc y), tA (qGOcc t), iA p], Gb s, ?_⟩
 cbv
 refine ⟨[iA b, iA c, iA d, tA (qInt j), tA (qGOcc u), tA (qGOcc v), tA (qGOcc w), tA (qGOcc y), tA (qGOcc t), iA p], Gb s, ?_⟩
 cbv
 refine bcs (fun Y => ?_) (fun Y => ?_)
 replace hh := ifT hh Y
 try rw [Y]
 cbv
 ·refine C (_, _, _, _) _ hh fun ⟨F, G, R, T⟩ e => ?_
  refine aw [((0, 0), (0, 0)), ((7, 50), (34, 0)), ((14, 0), (14, 0))] ?_
  cbv
  all_goals exact J4
 replace hh := ifF hh Y
 try rw [Y]
 cbv
 refine ⟨[iA b, iA c, iA d, tA (qInt j), tA (qGOcc u), tA (qGOcc v), tA (qGOcc w), tA (qGOcc y), tA (qGOcc t), iA (wrap .i64 (add p (cast (len (qGOcc Df)))))], Gb2 s ((List.getElem?_eq_some_iff.1 s).1), ?_⟩
 cbv
 ·refine C (_, _, _, _) _ hh fun ⟨F, G, R, T⟩ e => ?_
  refine aw [((0, 0), (0, 0)), ((7, 50), (34, 0)), ((14, 0), (14, 0))] ?_
  cbv
  all_goals exact J4
 replace hh := ifF hh X
 try rw [X]
 cbv
 refine bcs (fun Z => ?_) (fun Z => ?_)
 replace hh := ifT hh Z
 try rw [Z]
 cbv
 refine ⟨[iA b, iA c, iA d, tA (qInt j), tA (qGOcc u), tA (qGOcc v), tA (qGOcc w), tA (qGOcc y), tA (qGOcc t), iA p], Gb s, ?_⟩
 cbv
 replace hh := aa hh
 obtain ⟨DQ, hh⟩ := hh
 replace hh := bind_some hh
 obtain ⟨DR, DS, hh⟩ := hh
 replace hh := aa hh
 obtain ⟨DT, hh⟩ := hh
 replace hh := aa hh
 obtain ⟨DU, hh⟩ := hh
 replace hh := bind_some hh
 obtain ⟨Dg, DV, hh⟩ := hh
 refine ⟨[(5, 0), (9, 0), (1007, 50), (1014, 0)], ?_⟩
 cbv
 refine ⟨tA (qGOcc Dg), ?_, ?_⟩
 ·refine dh hC (ck [] [185] [216]) mixed (ts := [(4, none)]) Tryz.func216 (by kernel_rfl) (by kernel_rfl) ?_
  intro S N
  cbv
  refine ⟨[iA b, iA c, iA d, tA (qInt j), tA (qGOcc u), tA (qGOcc v), tA (qGOcc w), tA (qGOcc y), tA (qGOcc t), iA p], Gb s, ?_⟩
  cbv
  refine ⟨[iA DR], Nb DQ, Gb DS, ?_⟩
  cbv
  refine ⟨Nb DT, Mb DU, ?_⟩
  refine ⟨[tA (qGOcc Dg)], Gb DV, ?_⟩
  cbv
  exact Rb
 cbv
 replace hh := aa hh
 obtain ⟨DW, hh⟩ := hh
 replace hh := bind_some hh
 obtain ⟨DX, DY, hh⟩ := hh
 replace hh := aa hh
 obtain ⟨DZ, hh⟩ := hh
 replace hh := aa hh
 obtain ⟨D0, hh⟩ := hh
 replace hh := bind_some hh
 obtain ⟨Dh, D3, hh⟩ := hh
 refine ⟨[(5, 0), (9, 0), (1007, 50), (1014, 0)], ?_⟩
 cbv
 refine ⟨tA (qGOcc Dh), ?_, ?_⟩
 ·refine dh hC (ck [] [185] [216]) mixed (ts := [(4, none)]) Tryz.func216 (by kernel_rfl) (by kernel_rfl) ?_
  intro S N
  cbv
  refine ⟨[iA b, iA c, iA d, tA (qInt j), tA (qGOcc u), tA (qGOcc v), tA (qGOcc w), tA (qGOcc y), tA (qGOcc t), iA p], Gb s, ?_⟩
  cbv
  refine ⟨[iA DX], Nb DW, Gb DY, ?_⟩
  cbv
  refine ⟨Nb DZ, Mb D0, ?_⟩
  refine ⟨[tA (qGOcc Dh)], Gb D3, ?_⟩
  cbv
  exact Rb
 cbv
 replace hh := bind_some hh
 obtain ⟨⟨⟨H, I⟩, C4⟩, D4, hh⟩ := hh
 try dsimp only at hh
 have fc := mj hQ D4
 try dsimp only at fc
 refine ac hF fc ?_
 cbv
 refine ⟨[iA b, iA c, iA d, tA (qInt j), tA (qGOcc u), tA (qGOcc v), tA (qGOcc w), tA (qGOcc y), tA (qGOcc t), iA p], Gb s, ?_⟩
 cbv
 refine ⟨⟨(⟨[(0, .mptr (0, 0) 1 0 0), (1, iA p1), (2, .lit (.pointer none)), (7, .ref (7, 50) 1 0 (len (qLGOcc A))), (9, .mptr (14, 0) 1 (nadd 0 (toNat z)) 0), (15, iA (cast (len (qGNode p0b)))), (16, iA z), (30, tA (qGOcc C4)), (1000000, .mptr (0, 0) 1 0 0)], [((0, 0), .box 1 [iA p0a, .ref (14, 0) 1 0 (len (qGNode B)), iA p0c, iA p0d, bA D]), ((7, 50), .arr 1 1 (qLGOcc A)), ((14, 0), .arr 1 10 (set (qGNode B) (nadd 0 (toNat z)) [iA b, iA c, iA d, tA (qInt j), tA (qGOcc H), tA (qGOcc I), tA (qGOcc w), tA (qGOcc y), tA (qGOcc t), iA p]))]⟩ : St), ?_, ?_⟩, trivial⟩
 ·refine aw [((0, 0), (1000, 0)), ((7, 50), (1007, 50)), ((14, 0), (1014, 0))] ?_
  cbv
  all_goals exact Zb
 cbv
 replace hh := aa hh
 obtain ⟨D5, hh⟩ := hh
 refine ⟨⟨Ob, Ab⟩, ?_⟩
 refine ⟨⟨Ob, Wb D5⟩, ?_⟩
 refine ⟨[iA b, iA c, iA d, tA (qInt j), tA (qGOcc H), tA (qGOcc I), tA (qGOcc w), tA (qGOcc y), tA (qGOcc t), iA p], Gb2 s ((List.getElem?_eq_some_iff.1 s).1), ?_⟩
 cbv
 refine ⟨[iA b, iA c, iA d, tA (qInt j), tA (qGOcc H), tA (qGOcc I), tA (qGOcc w), tA (qGOcc y), tA (qGOcc t), iA p], Gb2 s ((List.getElem?_eq_some_iff.1 s).1), ?_⟩
 cbv
 refine bcs (fun dv => ?_) (fun dv => ?_)
 replace hh := ifT hh dv
 try rw [dv]
 cbv
 ·refine C (_, _, _, _) _ hh fun ⟨F, G, R, T⟩ e => ?_
  refine aw [((0, 0), (0, 0)), ((7, 50), (34, 0)), ((14, 0), (14, 0))] ?_
  cbv
  all_goals exact J4
 replace hh := ifF hh dv
 try rw [dv]
 cbv
 refine ⟨[iA b, iA c, iA d, tA (qInt j), tA (qGOcc H), tA (qGOcc I), tA (qGOcc w), tA (qGOcc y), tA (qGOcc t), iA (wrap .i64 (add p (cast (len (qGOcc C4)))))], Gb2 s ((List.getElem?_eq_some_iff.1 s).1), ?_⟩
 cbv
 ·refine C (_, _, _, _) _ hh fun ⟨F, G, R, T⟩ e => ?_
  refine aw [((0, 0), (0, 0)), ((7, 50), (34, 0)), ((14, 0), (14, 0))] ?_
  cbv
  all_goals exact J4
 replace hh := ifF hh Z
 try rw [Z]
 cbv
 refine bcs (fun xI => ?_) (fun xI => ?_)
 replace hh := ifT hh xI
 try rw [xI]
 cbv
 refine ⟨[iA b, iA c, iA d, tA (qInt j), tA (qGOcc u), tA (qGOcc v), tA (qGOcc w), tA (qGOcc y), tA (qGOcc t), iA p], Gb s, ?_⟩
 cbv
 replace hh := aa hh
 obtain ⟨D6, hh⟩ := hh
 replace hh := bind_some hh
 obtain ⟨D7, D8, hh⟩ := hh
 replace hh := aa hh
 obtain ⟨D9, hh⟩ := hh
 replace hh := aa hh
 obtain ⟨Ea, hh⟩ := hh
 replace hh := bind_some hh
 obtain ⟨Di, Ec, hh⟩ := hh
 refine ⟨[(5, 0), (9, 0), (1007, 50), (1014, 0)], ?_⟩
 cbv
 refine ⟨tA (qGOcc Di), ?_, ?_⟩
 ·refine dh hC (ck [] [185] [216]) mixed (ts := [(4, none)]) Tryz.func216 (by kernel_rfl) (by kernel_rfl) ?_
  intro S N
  cbv
  refine ⟨[iA b, iA c, iA d, tA (qInt j), tA (qGOcc u), tA (qGOcc v), tA (qGOcc w), tA (qGOcc y), tA (qGOcc t), iA p], Gb s, ?_⟩
  cbv
  refine ⟨[iA D7], Nb D6, Gb D8, ?_⟩
  cbv
  refine ⟨Nb D9, Mb Ea, ?_⟩
  refine ⟨[tA (qGOcc Di)], Gb Ec, ?_⟩
  cbv
  exact Rb
 cbv
 replace hh := aa hh
 obtain ⟨Ed, hh⟩ := hh
 replace hh := bind_some hh
 obtain ⟨Ee, Ef, hh⟩ := hh
 replace hh := aa hh
 obtain ⟨Eh, hh⟩ := hh
 replace hh := aa hh
 obtain ⟨Ei, hh⟩ := hh
 replace hh := bind_some hh
 obtain ⟨Dj, Ej, hh⟩ := hh
 refine ⟨[(5, 0), (9, 0), (1007, 50), (1014, 0)], ?_⟩
 cbv
 refine ⟨tA (qGOcc Dj), ?_, ?_⟩
 ·refine dh hC (ck [] [185] [216]) mixed (ts := [(4, none)]) Tryz.func216 (by kernel_rfl) (by kernel_rfl) ?_
  intro S N
  cbv
  refine ⟨[iA b, iA c, iA d, tA (qInt j), tA (qGOcc u), tA (qGOcc v), tA (qGOcc w), tA (qGOcc y), tA (qGOcc t), iA p], Gb s, ?_⟩
  cbv
  refine ⟨[iA Ee], Nb Ed, Gb Ef, ?_⟩
  cbv
  refine ⟨Nb Eh, Mb Ei, ?_⟩
  refine ⟨[tA (qGOcc Dj)], Gb Ej, ?_⟩
  cbv
  exact Rb
 cbv
 replace hh := bind_some hh
 obtain ⟨⟨⟨J, K⟩, C5⟩, Ek, hh⟩ := hh
 try dsimp only at hh
 have fc := mv hQ Ek
 try dsimp only at fc
 refine ac hF fc ?_
 cbv
 refine ⟨[iA b, iA c, iA d, tA (qInt j), tA (qGOcc u), tA (qGOcc v), tA (qGOcc w), tA (qGOcc y), tA (qGOcc t), iA p], Gb s, ?_⟩
 cbv
 refine ⟨⟨(⟨[(0, .mptr (0, 0) 1 0 0), (1, iA p1), (2, .lit (.pointer none)), (7, .ref (7, 50) 1 0 (len (qLGOcc A))), (9, .mptr (14, 0) 1 (nadd 0 (toNat z)) 0), (15, iA (cast (len (qGNode p0b)))), (16, iA z), (30, tA (qGOcc C5)), (1000000, .mptr (0, 0) 1 0 0)], [((0, 0), .box 1 [iA p0a, .ref (14, 0) 1 0 (len (qGNode B)), iA p0c, iA p0d, bA D]), ((7, 50), .arr 1 1 (qLGOcc A)), ((14, 0), .arr 1 10 (set (qGNode B) (nadd 0 (toNat z)) [iA b, iA c, iA d, tA (qInt j), tA (qGOcc J), tA (qGOcc K), tA (qGOcc w), tA (qGOcc y), tA (qGOcc t), iA p]))]⟩ : St), ?_, ?_⟩, trivial⟩
 ·refine aw [((0, 0), (1000, 0)), ((7, 50), (1007, 50)), ((14, 0), (1014, 0))] ?_
  cbv
  all_goals exact Zb
 cbv
 replace hh := aa hh
 obtain ⟨El, hh⟩ := hh
 refine ⟨⟨Ob, Ab⟩, ?_⟩
 refine ⟨⟨Ob, Wb El⟩, ?_⟩
 refine ⟨[iA b, iA c, iA d, tA (qInt j), tA (qGOcc J), tA (qGOcc K), tA (qGOcc w), tA (qGOcc y), tA (qGOcc t), iA p], Gb2 s ((List.getElem?_eq_some_iff.1 s).1), ?_⟩
 cbv
 refine ⟨[iA b, iA c, iA d, tA (qInt j), tA (qGOcc J), tA (qGOcc K), tA (qGOcc w), tA (qGOcc y), tA (qGOcc t), iA p], Gb2 s ((List.getElem?_eq_some_iff.1 s).1), ?_⟩
 cbv
 refine bcs (fun Bo => ?_) (fun Bo => ?_)
 replace hh := ifT hh Bo
 try rw [Bo]
 cbv
 ·refine C (_, _, _, _) _ hh fun ⟨F, G, R, T⟩ e => ?_
  refine aw [((0, 0), (0, 0)), ((7, 50), (34, 0)), ((14, 0), (14, 0))] ?_
  cbv
  all_goals exact J4
 replace hh := ifF hh Bo
 try rw [Bo]
 cbv
 refine ⟨[iA b, iA c, iA d, tA (qInt j), tA (qGOcc J), tA (qGOcc K), tA (qGOcc w), tA (qGOcc y), tA (qGOcc t), iA (wrap .i64 (add p (cast (len (qGOcc C5)))))], Gb2 s ((List.getElem?_eq_some_iff.1 s).1), ?_⟩
 cbv
 ·refine C (_, _, _, _) _ hh fun ⟨F, G, R, T⟩ e => ?_
  refine aw [((0, 0), (0, 0)), ((7, 50), (34, 0)), ((14, 0), (14, 0))] ?_
  cbv
  all_goals exact J4
 replace hh := ifF hh xI
 try rw [xI]
 cbv
 refine bcs (fun B2 => ?_) (fun B2 => ?_)
 replace hh := ifT hh B2
 try rw [B2]
 cbv
 refine ⟨[iA b, iA c, iA d, tA (qInt j), tA (qGOcc u), tA (qGOcc v), tA (qGOcc w), tA (qGOcc y), tA (qGOcc t), iA p], Gb s, ?_⟩
 cbv
 replace hh := aa hh
 obtain ⟨Em, hh⟩ := hh
 replace hh := bind_some hh
 obtain ⟨En, Eo, hh⟩ := hh
 replace hh := aa hh
 obtain ⟨Ep, hh⟩ := hh
 replace hh := aa hh
 obtain ⟨Eq, hh⟩ := hh
 replace hh := bind_some hh
 obtain ⟨Dk, Er, hh⟩ := hh
 refine ⟨[(5, 0), (9, 0), (1007, 50), (1014, 0)], ?_⟩
 cbv
 refine ⟨tA (qGOcc Dk), ?_, ?_⟩
 ·refine dh hC (ck [] [185] [216]) mixed (ts := [(4, none)]) Tryz.func216 (by kernel_rfl) (by kernel_rfl) ?_
  intro S N
  cbv
  refine ⟨[iA b, iA c, iA d, tA (qInt j), tA (qGOcc u), tA (qGOcc v), tA (qGOcc w), tA (qGOcc y), tA (qGOcc t), iA p], Gb s, ?_⟩
  cbv
  refine ⟨[iA En], Nb Em, Gb Eo, ?_⟩
  cbv
  refine ⟨Nb Ep, Mb Eq, ?_⟩
  refine ⟨[tA (qGOcc Dk)], Gb Er, ?_⟩
  cbv
  exact Rb
 cbv
 replace hh := aa hh
 obtain ⟨Es, hh⟩ := hh
 replace hh := bind_some hh
 obtain ⟨Et, Eu, hh⟩ := hh
 replace hh := aa hh
 obtain ⟨Ev, hh⟩ := hh
 replace hh := aa hh
 obtain ⟨Ew, hh⟩ := hh
 replace hh := bind_some hh
 obtain ⟨Dl, Ey, hh⟩ := hh
 refine ⟨[(5, 0), (9, 0), (1007, 50), (1014, 0)], ?_⟩
 cbv
 refine ⟨tA (qGOcc Dl), ?_, ?_⟩
 ·refine dh hC (ck [] [185] [216]) mixed (ts := [(4, none)]) Tryz.func216 (by kernel_rfl) (by kernel_rfl) ?_
  intro S N
  cbv
  refine ⟨[iA b, iA c, iA d, tA (qInt j), tA (qGOcc u), tA (qGOcc v), tA (qGOcc w), tA (qGOcc y), tA (qGOcc t), iA p], Gb s, ?_⟩
  cbv
  refine ⟨[iA Et], Nb Es, Gb Eu, ?_⟩
  cbv
  refine ⟨Nb Ev, Mb Ew, ?_⟩
  refine ⟨[tA (qGOcc Dl)], Gb Ey, ?_⟩
  cbv
  exact Rb
 cbv
 replace hh := aa hh
 obtain ⟨Ez, hh⟩ := hh
 replace hh := bind_some hh
 obtain ⟨EA, EB, hh⟩ := hh
 replace hh := aa hh
 obtain ⟨EC, hh⟩ := hh
 replace hh := aa hh
 obtain ⟨ED, hh⟩ := hh
 replace hh := bind_some hh
 obtain ⟨Dm, EE, hh⟩ := hh
 refine ⟨[(5, 0), (9, 0), (1007, 50), (1014, 0)], ?_⟩
 cbv
 refine ⟨tA (qGOcc Dm), ?_, ?_⟩
 ·refine dh hC (ck [] [185] [216]) mixed (ts := [(4, none)]) Tryz.func216 (by kernel_rfl) (by kernel_rfl) ?_
  intro S N
  cbv
  refine ⟨[iA b, iA c, iA d, tA (qInt j), tA (qGOcc u), tA (qGOcc v), tA (qGOcc w), tA (qGOcc y), tA (qGOcc t), iA p], Gb s, ?_⟩
  cbv
  refine ⟨[iA EA], Nb Ez, Gb EB, ?_⟩
  cbv
  refine ⟨Nb EC, Mb ED, ?_⟩
  refine ⟨[tA (qGOcc Dm)], Gb EE, ?_⟩
  cbv
  exact Rb
 cbv
 replace hh := bind_some hh
 obtain ⟨⟨⟨L, M⟩, C6⟩, EF, hh⟩ := hh
 try dsimp only at hh
 have fc := mw hQ EF
 try dsimp only at fc
 refine ac hF fc ?_
 cbv
 refine ⟨[iA b, iA c, iA d, tA (qInt j), tA (qGOcc u), tA (qGOcc v), tA (qGOcc w), tA (qGOcc y), tA (qGOcc t), iA p], Gb s, ?_⟩
 cbv
 refine ⟨⟨(⟨[(0, .mptr (0, 0) 1 0 0), (1, iA p1), (2, .lit (.pointer none)), (7, .ref (7, 50) 1 0 (len (qLGOcc A))), (9, .mptr (14, 0) 1 (nadd 0 (toNat z)) 0), (15, iA (cast (len (qGNode p0b)))), (16, iA z), (30, tA (qGOcc C6)), (1000000, .mptr (0, 0) 1 0 0)], [((0, 0), .box 1 [iA p0a, .ref (14, 0) 1 0 (len (qGNode B)), iA p0c, iA p0d, bA D]), ((7, 50), .arr 1 1 (qLGOcc A)), ((14, 0), .arr 1 10 (set (qGNode B) (nadd 0 (toNat z)) [iA b, iA c, iA d, tA (qInt j), tA (qGOcc u), tA (qGOcc v), tA (qGOcc L), tA (qGOcc M), tA (qGOcc t), iA p]))]⟩ : St), ?_, ?_⟩, trivial⟩
 ·refine aw [((0, 0), (1000, 0)), ((7, 50), (1007, 50)), ((14, 0), (1014, 0))] ?_
  cbv
  all_goals exact Zb
 cbv
 replace hh := aa hh
 obtain ⟨EG, hh⟩ := hh
 refine ⟨⟨Ob, Ab⟩, ?_⟩
 refine ⟨⟨Ob, Wb EG⟩, ?_⟩
 refine ⟨[iA b, iA c, iA d, tA (qInt j), tA (qGOcc u), tA (qGOcc v), tA (qGOcc L), tA (qGOcc M), tA (qGOcc t), iA p], Gb2 s ((List.getElem?_eq_some_iff.1 s).1), ?_⟩
 cbv
 refine ⟨[iA b, iA c, iA d, tA (qInt j), tA (qGOcc u), tA (qGOcc v), tA (qGOcc L), tA (qGOcc M), tA (qGOcc t), iA p], Gb2 s ((List.getElem?_eq_some_iff.1 s).1), ?_⟩
 cbv
 refine bcs (fun B3 => ?_) (fun B3 => ?_)
 replace hh := ifT hh B3
 try rw [B3]
 cbv
 ·refine C (_, _, _, _) _ hh fun ⟨F, G, R, T⟩ e => ?_
  refine aw [((0, 0), (0, 0)), ((7, 50), (34, 0)), ((14, 0), (14, 0))] ?_
  cbv
  all_goals exact J4
 replace hh := ifF hh B3
 try rw [B3]
 cbv
 refine ⟨[iA b, iA c, iA d, tA (qInt j), tA (qGOcc u), tA (qGOcc v), tA (qGOcc L), tA (qGOcc M), tA (qGOcc t), iA (wrap .i64 (add p (cast (len (qGOcc C6)))))], Gb2 s ((List.getElem?_eq_some_iff.1 s).1), ?_⟩
 cbv
 ·refine C (_, _, _, _) _ hh fun ⟨F, G, R, T⟩ e => ?_
  refine aw [((0, 0), (0, 0)), ((7, 50), (34, 0)), ((14, 0), (14, 0))] ?_
  cbv
  all_goals exact J4
 replace hh := ifF hh B2
 try rw [B2]
 cbv
 refine bcs (fun Ce => ?_) (fun Ce => ?_)
 replace hh := ifT hh Ce
 try rw [Ce]
 cbv
 refine ⟨[iA b, iA c, iA d, tA (qInt j), tA (qGOcc u), tA (qGOcc v), tA (qGOcc w), tA (qGOcc y), tA (qGOcc t), iA p], Gb s, ?_⟩
 cbv
 replace hh := aa hh
 obtain ⟨EH, hh⟩ := hh
 replace hh := bind_some hh
 obtain ⟨EI, EJ, hh⟩ := hh
 replace hh := aa hh
 obtain ⟨EK, hh⟩ := hh
 replace hh := aa hh
 obtain ⟨EL, hh⟩ := hh
 replace hh := bind_some hh
 obtain ⟨Dn, EM, hh⟩ := hh
 refine ⟨[(5, 0), (9, 0), (1007, 50), (1014, 0)], ?_⟩
 cbv
 refine ⟨tA (qGOcc Dn), ?_, ?_⟩
 ·refine dh hC (ck [] [185] [216]) mixed (ts := [(4, none)]) Tryz.func216 (by kernel_rfl) (by kernel_rfl) ?_
  intro S N
  cbv
  refine ⟨[iA b, iA c, iA d, tA (qInt j), tA (qGOcc u), tA (qGOcc v), tA (qGOcc w), tA (qGOcc y), tA (qGOcc t), iA p], Gb s, ?_⟩
  cbv
  refine ⟨[iA EI], Nb EH, Gb EJ, ?_⟩
  cbv
  refine ⟨Nb EK, Mb EL, ?_⟩
  refine ⟨[tA (qGOcc Dn)], Gb EM, ?_⟩
  cbv
  exact Rb
 cbv
 replace hh := aa hh
 obtain ⟨EN, hh⟩ := hh
 replace hh := bind_some hh
 obtain ⟨EO, EP, hh⟩ := hh
 replace hh := aa hh
 obtain ⟨ER, hh⟩ := hh
 replace hh := aa hh
 obtain ⟨ES, hh⟩ := hh
 replace hh := bind_some hh
 obtain ⟨Do, ET, hh⟩ := hh
 refine ⟨[(5, 0), (9, 0), (1007, 50), (1014, 0)], ?_⟩
 cbv
 refine ⟨tA (qGOcc Do), ?_, ?_⟩
 ·refine dh hC (ck [] [185] [216]) mixed (ts := [(4, none)]) Tryz.func216 (by kernel_rfl) (by kernel_rfl) ?_
  intro S N
  cbv
  refine ⟨[iA b, iA c, iA d, tA (qInt j), tA (qGOcc u), tA (qGOcc v), tA (qGOcc w), tA (qGOcc y), tA (qGOcc t), iA p], Gb s, ?_⟩
  cbv
  refine ⟨[iA EO], Nb EN, Gb EP, ?_⟩
  cbv
  refine ⟨Nb ER, Mb ES, ?_⟩
  refine ⟨[tA (qGOcc Do)], Gb ET, ?_⟩
  cbv
  exact Rb
 cbv
 replace hh := aa hh
 obtain ⟨EU, hh⟩ := hh
 replace hh := bind_some hh
 obtain ⟨EV, EW, hh⟩ := hh
 replace hh := aa hh
 obtain ⟨EX, hh⟩ := hh
 replace hh := aa hh
 obtain ⟨EY, hh⟩ := hh
 replace hh := bind_some hh
 obtain ⟨Dp, EZ, hh⟩ := hh
 refine ⟨[(5, 0), (9, 0), (1007, 50), (1014, 0)], ?_⟩
 cbv
 refine ⟨tA (qGOcc Dp), ?_, ?_⟩
 ·refine dh hC (ck [] [185] [216]) mixed (ts := [(4, none)]) Tryz.func216 (by kernel_rfl) (by kernel_rfl) ?_
  intro S N
  cbv
  refine ⟨[iA b, iA c, iA d, tA (qInt j), tA (qGOcc u), tA (qGOcc v), tA (qGOcc w), tA (qGOcc y), tA (qGOcc t), iA p], Gb s, ?_⟩
  cbv
  refine ⟨[iA EV], Nb EU, Gb EW, ?_⟩
  cbv
  refine ⟨Nb EX, Mb EY, ?_⟩
  refine ⟨[tA (qGOcc Dp)], Gb EZ, ?_⟩
  cbv
  exact Rb
 cbv
 replace hh := bind_some hh
 obtain ⟨⟨⟨O, Q⟩, C7⟩, E0, hh⟩ := hh
 try dsimp only at hh
 have fc := lG hQ E0
 try dsimp only at fc
 refine ac hF fc ?_
 cbv
 refine ⟨[iA b, iA c, iA d, tA (qInt j), tA (qGOcc u), tA (qGOcc v), tA (qGOcc w), tA (qGOcc y), tA (qGOcc t), iA p], Gb s, ?_⟩
 cbv
 refine ⟨⟨(⟨[(0, .mptr (0, 0) 1 0 0), (1, iA p1), (2, .lit (.pointer none)), (7, .ref (7, 50) 1 0 (len (qLGOcc A))), (9, .mptr (14, 0) 1 (nadd 0 (toNat z)) 0), (15, iA (cast (len (qGNode p0b)))), (16, iA z), (30, tA (qGOcc C7)), (1000000, .mptr (0, 0) 1 0 0)], [((0, 0), .box 1 [iA p0a, .ref (14, 0) 1 0 (len (qGNode B)), iA p0c, iA p0d, bA D]), ((7, 50), .arr 1 1 (qLGOcc A)), ((14, 0), .arr 1 10 (set (qGNode B) (nadd 0 (toNat z)) [iA b, iA c, iA d, tA (qInt j), tA (qGOcc u), tA (qGOcc v), tA (qGOcc O), tA (qGOcc Q), tA (qGOcc t), iA p]))]⟩ : St), ?_, ?_⟩, trivial⟩
 ·refine aw [((0, 0), (1000, 0)), ((7, 50), (1007, 50)), ((14, 0), (1014, 0))] ?_
  cbv
  all_goals exact Zb
 cbv
 replace hh := aa hh
 obtain ⟨E1, hh⟩ := hh
 refine ⟨⟨Ob, Ab⟩, ?_⟩
 refine ⟨⟨Ob, Wb E1⟩, ?_⟩
 refine ⟨[iA b, iA c, iA d, tA (qInt j), tA (qGOcc u), tA (qGOcc v), tA (qGOcc O), tA (qGOcc Q), tA (qGOcc t), iA p], Gb2 s ((List.getElem?_eq_some_iff.1 s).1), ?_⟩
 cbv
 refine ⟨[iA b, iA c, iA d, tA (qInt j), tA (qGOcc u), tA (qGOcc v), tA (qGOcc O), tA (qGOcc Q), tA (qGOcc t), iA p], Gb2 s ((List.getElem?_eq_some_iff.1 s).1), ?_⟩
 cbv
 refine bcs (fun Cj => ?_) (fun Cj => ?_)
 replace hh := ifT hh Cj
 try rw [Cj]
 cbv
 ·refine C (_, _, _, _) _ hh fun ⟨F, G, R, T⟩ e => ?_
  refine aw [((0, 0), (0, 0)), ((7, 50), (34, 0)), ((14, 0), (14, 0))] ?_
  cbv
  all_goals exact J4
 replace hh := ifF hh Cj
 try rw [Cj]
 cbv
 refine ⟨[iA b, iA c, iA d, tA (qInt j), tA (qGOcc u), tA (qGOcc v), tA (qGOcc O), tA (qGOcc Q), tA (qGOcc t), iA (wrap .i64 (add p (cast (len (qGOcc C7)))))], Gb2 s ((List.getElem?_eq_some_iff.1 s).1), ?_⟩
 cbv
 ·refine C (_, _, _, _) _ hh fun ⟨F, G, R, T⟩ e => ?_
  refine aw [((0, 0), (0, 0)), ((7, 50), (34, 0)), ((14, 0), (14, 0))] ?_
  cbv
  all_goals exact J4
 replace hh := ifF hh Ce
 try rw [Ce]
 cbv
 refine ⟨[iA b, iA c, iA d, tA (qInt j), tA (qGOcc u), tA (qGOcc v), tA (qGOcc w), tA (qGOcc y), tA (qGOcc t), iA p], Gb s, ?_⟩
 cbv
 replace hh := bind_some hh
 obtain ⟨Ck, E2, hh⟩ := hh
 refine ac hF (ai.frz (r' := tA (qGOcc Ck)) (uL hQ E2) (by cases hQ; simp)) ?_
 cbv
 refine ⟨[iA b, iA c, iA d, tA (qInt j), tA (qGOcc u), tA (qGOcc v), tA (qGOcc w), tA (qGOcc y), tA (qGOcc t), iA p], Gb s, ?_⟩
 cbv
 replace hh := bind_some hh
 obtain ⟨Dq, E3, hh⟩ := hh
 refine ac hF (ai.frz (r' := tA (qGOcc Dq)) (fy hQ (g1 := fun y0 => cW.f y0 p1) (fun h => kH hQ h) E3) (by cases hQ; simp)) ?_
 cbv
 refine ⟨[iA b, iA c, iA d, tA (qInt j), tA (qGOcc u), tA (qGOcc v), tA (qGOcc w), tA (qGOcc y), tA (qGOcc t), iA p], Gb s, ?_⟩
 cbv
 replace hh := aa hh
 obtain ⟨E4, hh⟩ := hh
 replace hh := bind_some hh
 obtain ⟨E5, E6, hh⟩ := hh
 replace hh := aa hh
 obtain ⟨E7, hh⟩ := hh
 replace hh := aa hh
 obtain ⟨E8, hh⟩ := hh
 replace hh := bind_some hh
 obtain ⟨Cm, E9, hh⟩ := hh
 refine ⟨[(5, 0), (9, 0), (1007, 50), (1014, 0)], ?_⟩
 cbv
 refine ⟨tA (qGOcc Cm), ?_, ?_⟩
 ·refine dh hC (ck [] [185] [216]) mixed (ts := [(4, none)]) Tryz.func216 (by kernel_rfl) (by kernel_rfl) ?_
  intro S N
  cbv
  refine ⟨[iA b, iA c, iA d, tA (qInt j), tA (qGOcc u), tA (qGOcc v), tA (qGOcc w), tA (qGOcc y), tA (qGOcc Dq), iA p], Gb2 s ((List.getElem?_eq_some_iff.1 s).1), ?_⟩
  cbv
  refine ⟨[iA E5], Nb E4, Gb E6, ?_⟩
  cbv
  refine ⟨Nb E7, Mb E8, ?_⟩
  refine ⟨[tA (qGOcc Cm)], Gb E9, ?_⟩
  cbv
  exact Rb
 cbv
 replace hh := bind_some hh
 obtain ⟨o2, Fj, Fk⟩ := hh
 refine au hC (ck [] [185] [216]) mixed (fun n (i : (List GNode) × Int) => aj.l2 k Cm z n i.1 i.2)
  (fun ⟨Da, Dr⟩ => (⟨[(5, .mptr (5, 0) 1 0 0), (12, tA (qGOcc Ck)), (36, tA (qGOcc Cm)), (37, iA (cast (len (qGOcc Cm)))), (38, iA Dr), (2000000, .mptr (1000, 0) 1 0 0), (2000001, iA p1), (2000002, .lit (.pointer none)), (2000007, .ref (1007, 50) 1 0 (len (qLGOcc A))), (2000009, .mptr (1014, 0) 1 (nadd 0 (toNat z)) 0), (2000015, iA (cast (len (qGNode p0b)))), (2000016, iA z), (3000000, .mptr (1000, 0) 1 0 0)], [((5, 0), .box 1 [.mptr (1014, 0) 1 (nadd 0 (toNat z)) 0]), ((1000, 0), .box 1 [iA p0a, .ref (1014, 0) 1 0 (len (qGNode Da)), iA p0c, iA p0d, bA D]), ((1007, 50), .arr 1 1 (qLGOcc A)), ((1014, 0), .arr 1 10 (qGNode Da))]⟩ : St))
  (fun (Cn : List GNode) => (⟨[(12, tA (qGOcc Ck)), (2000000, .mptr (1000, 0) 1 0 0), (2000001, iA p1), (2000002, .lit (.pointer none)), (2000007, .ref (1007, 50) 1 0 (len (qLGOcc A))), (2000009, .mptr (1014, 0) 1 (nadd 0 (toNat z)) 0), (2000015, iA (cast (len (qGNode p0b)))), (2000016, iA z), (3000000, .mptr (1000, 0) 1 0 0)], [((1000, 0), .box 1 [iA p0a, .ref (1014, 0) 1 0 (len (qGNode Cn)), iA p0c, iA p0d, bA D]), ((1007, 50), .arr 1 1 (qLGOcc A)), ((1014, 0), .arr 1 10 (qGNode Cn))]⟩ : St)) (fun x => x) (.exit 1)
  (i0 := (_, _)) Fj (fun _ => rfl) ?_ ?_ ?_
 ·rintro ⟨F, G⟩ e
  refine ah ?_
  cbv
  all_goals exact J2
 rintro Cn hx
 subst o2
 have hh := Fk
 cbv
 refine ⟨⟨(⟨[(0, .mptr (0, 0) 1 0 0), (1, iA p1), (2, .lit (.pointer none)), (7, .ref (7, 50) 1 0 (len (qLGOcc A))), (9, .mptr (14, 0) 1 (nadd 0 (toNat z)) 0), (15, iA (cast (len (qGNode p0b)))), (16, iA z), (30, tA (qGOcc Ck)), (1000000, .mptr (0, 0) 1 0 0)], [((0, 0), .box 1 [iA p0a, .ref (14, 0) 1 0 (len (qGNode Cn)), iA p0c, iA p0d, bA D]), ((7, 50), .arr 1 1 (qLGOcc A)), ((14, 0), .arr 1 10 (qGNode Cn))]⟩ : St), ?_, ?_⟩, trivial⟩
 ·refine aw [((0, 0), (1000, 0)), ((7, 50), (1007, 50)), ((14, 0), (1014, 0))] ?_
  cbv
  all_goals exact Zb
 cbv
 replace hh := aa hh
 obtain ⟨Fa, hh⟩ := hh
 refine ⟨⟨Ob, Ab⟩, ?_⟩
 refine ⟨⟨Ob, Wb Fa⟩, ?_⟩
 replace hh := bind_some hh
 obtain ⟨⟨Cq, Cs, Ct, Cw, ⟨Cy, Cz⟩, ⟨CB, CE⟩, CG, CH⟩, CI, hh⟩ := hh
 try dsimp only at hh
 refine ⟨[iA Cq, iA Cs, iA Ct, tA (qInt Cw), tA (qGOcc Cy), tA (qGOcc Cz), tA (qGOcc CB), tA (qGOcc CE), tA (qGOcc CG), iA CH], Gb CI, ?_⟩
 cbv
 refine ⟨[iA Cq, iA Cs, iA Ct, tA (qInt Cw), tA (qGOcc Cy), tA (qGOcc Cz), tA (qGOcc CB), tA (qGOcc CE), tA (qGOcc CG), iA CH], Gb CI, ?_⟩
 cbv
 refine bcs (fun Co => ?_) (fun Co => ?_)
 replace hh := ifT hh Co
 try rw [Co]
 cbv
 ·refine C (_, _, _, _) _ hh fun ⟨F, G, R, T⟩ e => ?_
  refine aw [((0, 0), (0, 0)), ((7, 50), (34, 0)), ((14, 0), (14, 0))] ?_
  cbv
  all_goals exact J4
 replace hh := ifF hh Co
 try rw [Co]
 cbv
 refine ⟨[iA Cq, iA Cs, iA Ct, tA (qInt Cw), tA (qGOcc Cy), tA (qGOcc Cz), tA (qGOcc CB), tA (qGOcc CE), tA (qGOcc CG), iA (wrap .i64 (add CH (cast (len (qGOcc Ck)))))], Gb2 CI ((List.getElem?_eq_some_iff.1 CI).1), ?_⟩
 cbv
 ·refine C (_, _, _, _) _ hh fun ⟨F, G, R, T⟩ e => ?_
  refine aw [((0, 0), (0, 0)), ((7, 50), (34, 0)), ((14, 0), (14, 0))] ?_
  cbv
  all_goals exact J4
 rintro n ⟨Da, Dr⟩ N2 D2 hh Fl Fm Fv
 try dsimp only at hh
 unfold aj.l2 at hh
 cbv
 refine bcs (fun Cp => ?_) (fun Cp => ?_)
 replace hh := ifT hh Cp
 try rw [Cp]
 cbv
 replace hh := aa hh
 obtain ⟨Fc, hh⟩ := hh
 replace hh := bind_some hh
 obtain ⟨⟨Ds, Dt, Du⟩, Fd, hh⟩ := hh
 try dsimp only at hh
 refine ⟨[iA Ds, iA Dt, tA (qInt Du)], Nb Fc, Gb Fd, ?_⟩
 cbv
 replace hh := bind_some hh
 obtain ⟨⟨CJ, CK, CP, CQ, ⟨CU, CZ⟩, ⟨C0, C1⟩, C2, C3⟩, Db, hh⟩ := hh
 try dsimp only at hh
 refine ⟨[iA CJ, iA CK, iA CP, tA (qInt CQ), tA (qGOcc CU), tA (qGOcc CZ), tA (qGOcc C0), tA (qGOcc C1), tA (qGOcc C2), iA C3], Gb Db, ?_⟩
 cbv
 refine ⟨[iA CJ, iA CK, iA CP, tA (qInt CQ), tA (qGOcc CU), tA (qGOcc CZ), tA (qGOcc C0), tA (qGOcc C1), tA (qGOcc C2), iA C3], Gb Db, ?_⟩
 cbv
 replace hh := bind_some hh
 obtain ⟨⟨Fo, Fp, Fq⟩, Fe, hh⟩ := hh
 try dsimp only at hh
 have fc := pd hQ Fe
 try dsimp only at fc
 refine ac hF fc ?_
 cbv
 replace hh := bind_some hh
 obtain ⟨Ft, Ff, hh⟩ := hh
 refine ⟨Ob, ?_⟩
 refine ac hF (iF hQ Ff) ?_
 cbv
 refine ⟨[iA CJ, iA CK, iA CP, tA (qInt CQ), tA (qGOcc CU), tA (qGOcc CZ), tA (qGOcc C0), tA (qGOcc C1), tA (qGOcc C2), iA C3], Gb Db, ?_⟩
 cbv
 ·refine Fl (_, _) _ hh fun ⟨F, G⟩ e => ?_
  refine ah ?_
  cbv
  all_goals exact J2
 replace hh := ifF hh Cp
 try rw [Cp]
 cbv
 ·refine Fm _ _ hh fun F e => ?_
  refine ah ?_
  cbv
  all_goals exact J1
 replace hh := ifF hh U
 try rw [U]
 cbv
 ·refine Fi (_, _, _) _ hh fun ⟨F, G, R⟩ e => ?_
  refine ah ?_
  cbv
  all_goals exact J3

end Go.Proofs.YtlbnmldopjadoaaGreat
