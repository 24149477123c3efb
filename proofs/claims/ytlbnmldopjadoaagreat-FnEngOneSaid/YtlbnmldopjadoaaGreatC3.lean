/- The functions of this program do what the plain ones do. -/
import Derived.Test.YtlbnmldopjadoaaGreatC2
namespace Go.Proofs.YtlbnmldopjadoaaGreat
open Go Go.Vm
set_option linter.unusedVariables false
set_option maxHeartbeats 4000000
set_option maxRecDepth 4000
variable {qIu8 : List Int → Vm.Rows} {qGEx : List GEx → Vm.Rows} {qGRule : List GRule → Vm.Rows} {qStr : List ByteArray → Vm.Rows} {qInt : List Int → Vm.Rows} {qGExO : List GEx → Vm.Rows} {qGOcc : List GOcc → Vm.Rows} {qGNode : List GNode → Vm.Rows} {qGGraphS : List GGraph → Vm.Rows} {qGGraph : List GGraph → Vm.Rows} {qGEv : List GEv → Vm.Rows} {qGFire : List GFire → Vm.Rows} {qLGOcc : List (List GOcc) → Vm.Rows} {qGOccO : List GOcc → Vm.Rows} {qLInt : List (List Int) → Vm.Rows} (hQ : EQ qIu8 qGEx qGRule qStr qInt qGExO qGOcc qGNode qGGraphS qGGraph qGEv qGFire qLGOcc qGOccO qLInt)
include hQ
theorem ce {k : Nat} {p0 : List GOcc} {p1 : List GOcc} {r : List GOcc} (hh : aO.f k p0 p1 = some r) : ah P 61 [tA (qGOcc p0), tA (qGOcc p1)] [hA, hA] (tA (qGOcc r)) := by
 unfold aO.f at hh
 refine go (ts := [(4, none)]) (rm := [.val]) (pm := [.skip, .skip]) Tryz.func61 ?_
 intro Fn LW IN len cast toNat wrap add sub mul bin lt eq At set part app fz' rep nadd nmax ssize sext sget scat seq slt Wide Flat Ones Room r' post' hC hF hr hp
 cbv
 replace hh := bind_some hh
 obtain ⟨C, s, t⟩ := hh
 refine au hC eok mixed (fun n (i : (List GOcc) × Int) => aO.l0 k p1 n i.1 i.2)
  (fun ⟨u, c⟩ => (⟨[(0, tA (qGOcc u)), (7, tA (qGOcc p1)), (8, iA (cast (len (qGOcc p1)))), (9, iA c)], []⟩ : St))
  (fun (d : List GOcc) => (⟨[(0, tA (qGOcc d))], []⟩ : St)) (fun x => x) (.exit 0)
  (i0 := (_, _)) s (fun _ => rfl) ?_ ?_ ?_
 ·rintro ⟨v, D⟩ e
  refine ai ?_
  cbv
  all_goals exact J2
 rintro d hx
 subst C
 have hh := t
 cbv
 exact Eb
 rintro n ⟨u, c⟩ H I hh w y F
 try dsimp only at hh
 unfold aO.l0 at hh
 cbv
 refine bcs (fun b => ?_) (fun b => ?_)
 replace hh := ifT hh b
 try rw [b]
 cbv
 replace hh := aa hh
 obtain ⟨z, hh⟩ := hh
 replace hh := bind_some hh
 obtain ⟨⟨j, o, p⟩, A, hh⟩ := hh
 try dsimp only at hh
 refine ⟨[iA j, iA o, tA (qInt p)], Nb z, Gb A, ?_⟩
 cbv
 replace hh := bind_some hh
 obtain ⟨G, B, hh⟩ := hh
 refine ac hF (iv hQ B) ?_
 cbv
 ·refine w (_, _) _ hh fun ⟨v, D⟩ e => ?_
  refine ai ?_
  cbv
  all_goals exact J2
 replace hh := ifF hh b
 try rw [b]
 cbv
 ·refine y _ _ hh fun v e => ?_
  refine ai ?_
  cbv
  all_goals exact J1

theorem uT {p0 : List Int} {p1 : Int} {r : List Int} (hh : iG.f p0 p1 = some r) : ah P 288 [.lit (.slice none 0 0), iA p1] [hA, hA] (oA 1 (qInt r)) := by
  cases hQ
  exact vf hh


theorem sL {k : Nat} {p0 : List (List Int)} {r : List Int} (hh : aU.f k p0 = some r) : ah P 271 [tA (qLInt p0)] [hA] (oA 1 (qInt r)) := by
 unfold aU.f at hh
 refine go (ts := [(2, none)]) (rm := [.own]) (pm := [.skip]) Tryz.func271 ?_
 intro Fn LW IN len cast toNat wrap add sub mul bin lt eq At set part app fz' rep nadd nmax ssize sext sget scat seq slt Wide Flat Ones Room r' post' hC hF hr hp
 cbv
 replace hh := bind_some hh
 obtain ⟨z, j, o⟩ := hh
 refine au hC eok mixed (fun n (i : Int × Int) => aU.l0 k p0 n i.1 i.2)
  (fun ⟨B, C⟩ => (⟨[(0, tA (qLInt p0)), (3, iA B), (9, tA (qLInt p0)), (10, iA (cast (len (qLInt p0)))), (11, iA C)], []⟩ : St))
  (fun (w : Int) => (⟨[(0, tA (qLInt p0)), (3, iA w)], []⟩ : St)) (fun x => x) (.exit 0)
  (i0 := (_, _)) j (fun _ => rfl) ?_ ?_ ?_
 ·rintro ⟨p, A⟩ e
  refine ai ?_
  cbv
  all_goals exact J2
 rintro w hx
 subst z
 have hh := o
 cbv
 replace hh := bind_some hh
 obtain ⟨Q, D, hh⟩ := hh
 refine ac hF (uT hQ D) ?_
 cbv
 replace hh := bind_some hh
 obtain ⟨z, j, o⟩ := hh
 refine au hC eok mixed (fun n (i : (List Int) × Int) => aU.l1 k p0 n i.1 i.2)
  (fun ⟨s, y⟩ => (⟨[(6, .ref (24, 0) 1 0 (len (qInt s))), (25, tA (qLInt p0)), (26, iA (cast (len (qLInt p0)))), (27, iA y)], [((24, 0), .arr 1 1 (qInt s))]⟩ : St))
  (fun (t : List Int) => (⟨[(6, .ref (24, 0) 1 0 (len (qInt t)))], [((24, 0), .arr 1 1 (qInt t))]⟩ : St)) (fun x => x) (.exit 2)
  (i0 := (_, _)) j (fun _ => rfl) ?_ ?_ ?_
 ·rintro ⟨p, A⟩ e
  refine ai ?_
  cbv
  all_goals exact J2
 rintro t hx
 subst z
 have hh := o
 cbv
 exact Eb
 rintro n ⟨s, y⟩ N O hh u v F
 try dsimp only at hh
 unfold aU.l1 at hh
 cbv
 refine bcs (fun b => ?_) (fun b => ?_)
 replace hh := ifT hh b
 try rw [b]
 cbv
 replace hh := aa hh
 obtain ⟨G, hh⟩ := hh
 replace hh := bind_some hh
 obtain ⟨H, I, hh⟩ := hh
 refine ⟨[tA (qInt H)], Nb G, Gb I, ?_⟩
 cbv
 replace hh := aa hh
 obtain ⟨J, hh⟩ := hh
 refine ⟨⟨Ab, Ab⟩, ?_⟩
 refine ⟨⟨Ob, Wb J⟩, ?_⟩
 ·refine u (_, _) _ hh fun ⟨p, A⟩ e => ?_
  refine aw [((24, 0), (33, 0))] ?_
  cbv
  all_goals exact J2
 replace hh := ifF hh b
 try rw [b]
 cbv
 ·refine v _ _ hh fun p e => ?_
  refine ai ?_
  cbv
  all_goals exact J1
 rintro n ⟨B, C⟩ N O hh u v F
 try dsimp only at hh
 unfold aU.l0 at hh
 cbv
 refine bcs (fun c => ?_) (fun c => ?_)
 replace hh := ifT hh c
 try rw [c]
 cbv
 replace hh := aa hh
 obtain ⟨K, hh⟩ := hh
 replace hh := bind_some hh
 obtain ⟨L, M, hh⟩ := hh
 refine ⟨[tA (qInt L)], Nb K, Gb M, ?_⟩
 cbv
 refine bcs (fun d => ?_) (fun d => ?_)
 replace hh := ifT hh d
 try rw [d]
 cbv
 cases hh
 replace hh := ifF hh d
 try rw [d]
 cbv
 ·refine u (_, _) _ hh fun ⟨p, A⟩ e => ?_
  refine ai ?_
  cbv
  all_goals exact J2
 replace hh := ifF hh c
 try rw [c]
 cbv
 ·refine v _ _ hh fun p e => ?_
  refine ai ?_
  cbv
  all_goals exact J1
theorem oG {k : Nat} {p0 : List (List Int)} {r : List Int} (hh : aU.f k p0 = some r) : ah P 271 [oA 1 (qLInt p0)] [oA 1 (qLInt p0)] (oA 1 (qInt r)) := by
  cases hQ; exact (sL .mk hh).lend (rG _) (.lend (congrArg A.tree (uC _).symm) .nil)

theorem va {p0 : List Int} {r : List Int} (hh : iI.f p0 = some r) : ah P 252 [oA 1 (qInt p0)] [oA 1 (qInt r)] (.tup []) := by
  cases hQ
  exact uP hh


theorem gd {p0 : List Int} {r : List Int} (hh : dn.f p0 = some r) : ah P 253 [oA 1 (qInt p0)] [hA] (tA (qInt r)) := by
  cases hQ
  exact rl hh


theorem j3 {k : Nat} {p0 : GOcc} {p1 : GOcc} {r : GOcc} (hh : eu.f k p0 p1 = some r) : ah P 254 [.agg [iA p0.From, iA p0.To, tA (qInt p0.Ids)], .agg [iA p1.From, iA p1.To, tA (qInt p1.Ids)]] [hA, hA] (.agg [iA r.From, iA r.To, oA 1 (qInt r.Ids)]) := by
 obtain ⟨p0a, p0b, p0c⟩ := p0
 obtain ⟨p1a, p1b, p1c⟩ := p1
 unfold eu.f at hh
 refine go (ts := [(4, some 67)]) (rm := [.own]) (pm := [.skip, .skip]) Tryz.func254 ?_
 intro Fn LW IN len cast toNat wrap add sub mul bin lt eq At set part app fz' rep nadd nmax ssize sext sget scat seq slt Wide Flat Ones Room r' post' hC hF hr hp
 cbv
 replace hh := bind_some hh
 obtain ⟨J, B, hh⟩ := hh
 refine ⟨Ob, ?_⟩
 refine ac hF (oG hQ B) ?_
 cbv
 replace hh := bind_some hh
 obtain ⟨K, C, hh⟩ := hh
 replace hh := aa hh
 obtain ⟨D, hh⟩ := hh
 refine ac hF (va hQ C) ?_
 cbv
 replace hh := aD hh
 rcases hh with ⟨o, hh⟩ | ⟨o, hh⟩
 have d : (lt p1a p0a) = true := Tb o
 have g := d; cbv at g; try rw [d]
 try rw [g]
 cbv
 replace hh := aD hh
 rcases hh with ⟨p, hh⟩ | ⟨p, hh⟩
 have b : (lt p0b p1b) = true := Tb p
 have g := b; cbv at g; try rw [b]
 try rw [g]
 cbv
 replace hh := bind_some hh
 obtain ⟨F, s, hh⟩ := hh
 refine ⟨Ob, ?_⟩
 refine ac hF (gd hQ s) ?_
 cbv
 replace hh := aa hh
 obtain ⟨t, hh⟩ := hh
 refine ⟨⟨Ab, Ab⟩, ?_⟩
 refine ⟨Wb t, ?_⟩
 exact Eb
 have b : (lt p0b p1b) = false := Fb p
 have g := b; cbv at g; try rw [b]
 try rw [g]
 cbv
 replace hh := bind_some hh
 obtain ⟨G, u, hh⟩ := hh
 refine ⟨Ob, ?_⟩
 refine ac hF (gd hQ u) ?_
 cbv
 replace hh := aa hh
 obtain ⟨v, hh⟩ := hh
 refine ⟨⟨Ab, Ab⟩, ?_⟩
 refine ⟨Wb v, ?_⟩
 exact Eb
 have d : (lt p1a p0a) = false := Fb o
 have g := d; cbv at g; try rw [d]
 try rw [g]
 cbv
 replace hh := aD hh
 rcases hh with ⟨j, hh⟩ | ⟨j, hh⟩
 have c : (lt p0b p1b) = true := Tb j
 have g := c; cbv at g; try rw [c]
 try rw [g]
 cbv
 replace hh := bind_some hh
 obtain ⟨H, w, hh⟩ := hh
 refine ⟨Ob, ?_⟩
 refine ac hF (gd hQ w) ?_
 cbv
 replace hh := aa hh
 obtain ⟨y, hh⟩ := hh
 refine ⟨⟨Ab, Ab⟩, ?_⟩
 refine ⟨Wb y, ?_⟩
 exact Eb
 have c : (lt p0b p1b) = false := Fb j
 have g := c; cbv at g; try rw [c]
 try rw [g]
 cbv
 replace hh := bind_some hh
 obtain ⟨I, z, hh⟩ := hh
 refine ⟨Ob, ?_⟩
 refine ac hF (gd hQ z) ?_
 cbv
 replace hh := aa hh
 obtain ⟨A, hh⟩ := hh
 refine ⟨⟨Ab, Ab⟩, ?_⟩
 refine ⟨Wb A, ?_⟩
 exact Eb

theorem fu {k : Nat} {p0 : Int} {p1 : GOcc} {p2 : List GOcc} {r : (List GOcc) × (List GOcc)} (hh : aJ.f k p0 p1 p2 = some r) : ah P 233 [iA p0, .agg [iA p1.From, iA p1.To, tA (qInt p1.Ids)], tA (qGOcc p2)] [hA, hA, hA] (.tup [tA (qGOcc r.1), tA (qGOcc r.2)]) := by
 obtain ⟨p1a, p1b, p1c⟩ := p1
 unfold aJ.f at hh
 refine go (ts := [(6, none), (7, none)]) (rm := [.val, .val]) (pm := [.skip, .skip, .skip]) Tryz.func233 ?_
 intro Fn LW IN len cast toNat wrap add sub mul bin lt eq At set part app fz' rep nadd nmax ssize sext sget scat seq slt Wide Flat Ones Room r' post' hC hF hr hp
 cbv
 refine bcs (fun p => ?_) (fun p => ?_)
 replace hh := ifT hh p
 try rw [p]
 cbv
 exact Eb
 replace hh := ifF hh p
 try rw [p]
 cbv
 refine bcs (fun s => ?_) (fun s => ?_)
 replace hh := ifT hh s
 try rw [s]
 cbv
 replace hh := aa hh
 obtain ⟨h5, hh⟩ := hh
 replace hh := bind_some hh
 obtain ⟨⟨Z, dj, xm⟩, h7, hh⟩ := hh
 try dsimp only at hh
 refine ⟨[iA Z, iA dj, tA (qInt xm)], Nb h5, Gb h7, ?_⟩
 cbv
 replace hh := bind_some hh
 obtain ⟨⟨Cw, Cx, Cy⟩, h8, hh⟩ := hh
 try dsimp only at hh
 have fc := j3 hQ h8
 try dsimp only at fc
 refine ac hF fc ?_
 cbv
 exact Eb
 replace hh := ifF hh s
 try rw [s]
 cbv
 refine bcs (fun b => ?_) (fun b => ?_)
 replace hh := ifT hh b
 try rw [b]
 cbv
 replace hh := aa hh
 obtain ⟨AU, hh⟩ := hh
 replace hh := bind_some hh
 obtain ⟨⟨L, M, N⟩, Bz, hh⟩ := hh
 try dsimp only at hh
 refine ⟨[iA L, iA M, tA (qInt N)], Nb AU, Gb Bz, ?_⟩
 cbv
 replace hh := bind_some hh
 obtain ⟨⟨Cd, Ce, Cf⟩, BB, hh⟩ := hh
 try dsimp only at hh
 have fc := j3 hQ BB
 try dsimp only at fc
 refine ac hF fc ?_
 cbv
 replace hh := aa hh
 obtain ⟨BL, hh⟩ := hh
 replace hh := aa hh
 obtain ⟨BR, hh⟩ := hh
 replace hh := aa hh
 obtain ⟨BS, hh⟩ := hh
 refine ⟨⟨Nb BL, Nb BR, Nb BS, Ab⟩, ?_⟩
 exact Eb
 replace hh := ifF hh b
 try rw [b]
 cbv
 refine bcs (fun c => ?_) (fun c => ?_)
 replace hh := ifT hh c
 try rw [c]
 cbv
 replace hh := bind_some hh
 obtain ⟨O, t, u⟩ := hh
 refine au hC eok mixed (fun n (i : Int × Int × (List Int) × Int) => aJ.l0 k p2 n i.1 i.2.1 i.2.2.1 i.2.2.2)
  (fun ⟨A, B, C, D⟩ => (⟨[(2, tA (qGOcc p2)), (4, .mptr (4, 0) 1 0 0), (39, tA (qGOcc p2)), (40, iA (cast (len (qGOcc p2)))), (41, iA D)], [((4, 0), .box 1 [iA A, iA B, tA (qInt C)])]⟩ : St))
  (fun (⟨F, G, H⟩ : Int × Int × (List Int)) => (⟨[(2, tA (qGOcc p2)), (4, .mptr (4, 0) 1 0 0)], [((4, 0), .box 1 [iA F, iA G, tA (qInt H)])]⟩ : St)) (fun x => x) (.exit 1)
  (i0 := (_, _, _, _)) t (fun _ => rfl) ?_ ?_ ?_
 ·rintro ⟨v, z, t2, t3⟩ e
  refine ai ?_
  cbv
  all_goals exact J4
 rintro ⟨F, G, H⟩ hx
 subst O
 have hh := u
 cbv
 exact Eb
 rintro n ⟨A, B, C, D⟩ N1 D1 hh w y BV
 try dsimp only at hh
 unfold aJ.l0 at hh
 cbv
 refine bcs (fun d => ?_) (fun d => ?_)
 replace hh := ifT hh d
 try rw [d]
 cbv
 replace hh := aa hh
 obtain ⟨BW, hh⟩ := hh
 replace hh := bind_some hh
 obtain ⟨⟨Q, R, S⟩, BX, hh⟩ := hh
 try dsimp only at hh
 refine ⟨[iA Q, iA R, tA (qInt S)], Nb BW, Gb BX, ?_⟩
 cbv
 replace hh := bind_some hh
 obtain ⟨⟨T, U, V⟩, BY, hh⟩ := hh
 try dsimp only at hh
 have fc := ah.frz (r' := .agg [iA T, iA U, tA (qInt V)]) (j3 hQ BY) (by cases hQ; simp)
 try dsimp only at fc
 refine ac hF fc ?_
 cbv
 ·refine w (_, _, _, _) _ hh fun ⟨v, z, t2, t3⟩ e => ?_
  refine ai ?_
  cbv
  all_goals exact J4
 replace hh := ifF hh d
 try rw [d]
 cbv
 ·refine y (_, _, _) _ hh fun ⟨v, z, t2⟩ e => ?_
  refine ai ?_
  cbv
  all_goals exact J3
 replace hh := ifF hh c
 try rw [c]
 cbv
 replace hh := bind_some hh
 obtain ⟨O, t, u⟩ := hh
 refine au hC eok mixed (fun n (i : (List GOcc) × Int) => aJ.l1 k (⟨p1a, p1b, p1c⟩ : GOcc) p2 n i.1 i.2)
  (fun ⟨I, J⟩ => (⟨[(0, iA p0), (2, tA (qGOcc p2)), (4, .mptr (4, 0) 1 0 0), (6, tA (qGOcc I)), (7, .lit (.slice none 0 0)), (52, tA (qGOcc p2)), (53, iA (cast (len (qGOcc p2)))), (54, iA J)], [((4, 0), .box 1 [iA p1a, iA p1b, tA (qInt p1c)])]⟩ : St))
  (fun (K : List GOcc) => (⟨[(0, iA p0), (2, tA (qGOcc p2)), (6, tA (qGOcc K)), (7, .lit (.slice none 0 0))], []⟩ : St)) (fun x => x) (.exit 3)
  (i0 := (_, _)) t (fun _ => rfl) ?_ ?_ ?_
 ·rintro ⟨v, z⟩ e
  refine ai ?_
  cbv
  all_goals exact J2
 rintro K hx
 subst O
 have hh := u
 cbv
 refine bcs (fun j => ?_) (fun j => ?_)
 replace hh := ifT hh j
 try rw [j]
 cbv
 exact Eb
 replace hh := ifF hh j
 try rw [j]
 cbv
 exact Eb
 rintro n ⟨I, J⟩ N1 D1 hh w y BV
 try dsimp only at hh
 unfold aJ.l1 at hh
 cbv
 refine bcs (fun o => ?_) (fun o => ?_)
 replace hh := ifT hh o
 try rw [o]
 cbv
 replace hh := aa hh
 obtain ⟨B0, hh⟩ := hh
 replace hh := bind_some hh
 obtain ⟨⟨W, X, Y⟩, B1, hh⟩ := hh
 try dsimp only at hh
 refine ⟨[iA W, iA X, tA (qInt Y)], Nb B0, Gb B1, ?_⟩
 cbv
 replace hh := bind_some hh
 obtain ⟨⟨Cn, Cq, Cv⟩, B4, hh⟩ := hh
 try dsimp only at hh
 have fc := j3 hQ B4
 try dsimp only at fc
 refine ac hF fc ?_
 cbv
 replace hh := bind_some hh
 obtain ⟨Cz, B6, hh⟩ := hh
 refine ⟨Ob, ?_⟩
 refine ac hF (iv hQ B6) ?_
 cbv
 ·refine w (_, _) _ hh fun ⟨v, z⟩ e => ?_
  refine ai ?_
  cbv
  all_goals exact J2
 replace hh := ifF hh o
 try rw [o]
 cbv
 ·refine y _ _ hh fun v e => ?_
  refine ai ?_
  cbv
  all_goals exact J1

theorem iq {k : Nat} {p0 : List GOcc} {p1 : List GOcc} {r : List GOcc} (hh : bd.f k p0 p1 = some r) : ah P 234 [tA (qGOcc p0), tA (qGOcc p1)] [hA, hA] (oA 3 (qGOcc r)) := by
 unfold bd.f at hh
 refine go (ts := [(4, none)]) (rm := [.own]) (pm := [.skip, .skip]) Tryz.func234 ?_
 intro Fn LW IN len cast toNat wrap add sub mul bin lt eq At set part app fz' rep nadd nmax ssize sext sget scat seq slt Wide Flat Ones Room r' post' hC hF hr hp
 cbv
 replace hh := bind_some hh
 obtain ⟨J, z, A⟩ := hh
 refine au hC eok mixed (fun n (i : (List GOcc) × Int) => bd.l0 k p0 p1 n i.1 i.2)
  (fun ⟨j, s⟩ => (⟨[(1, tA (qGOcc p1)), (5, .ref (5, 50) 1 0 (len (qGOcc j))), (10, tA (qGOcc p0)), (11, iA (cast (len (qGOcc p0)))), (12, iA s)], [((5, 50), .arr 1 3 (qGOcc j))]⟩ : St))
  (fun (o : List GOcc) => (⟨[(5, .ref (5, 50) 1 0 (len (qGOcc o)))], [((5, 50), .arr 1 3 (qGOcc o))]⟩ : St)) (fun x => x) (.exit 0)
  (i0 := (_, _)) z (fun _ => rfl) ?_ ?_ ?_
 ·rintro ⟨u, B⟩ e
  refine aw [] ?_
  cbv
  all_goals exact J2
 rintro o hx
 subst J
 have hh := A
 cbv
 exact Eb
 rintro n ⟨j, s⟩ L M hh t C K
 try dsimp only at hh
 unfold bd.l0 at hh
 cbv
 refine bcs (fun b => ?_) (fun b => ?_)
 replace hh := ifT hh b
 try rw [b]
 cbv
 replace hh := aa hh
 obtain ⟨D, hh⟩ := hh
 replace hh := bind_some hh
 obtain ⟨⟨v, w, y⟩, F, hh⟩ := hh
 try dsimp only at hh
 refine ⟨[iA v, iA w, tA (qInt y)], Nb D, Gb F, ?_⟩
 cbv
 replace hh := bind_some hh
 obtain ⟨⟨I, d⟩, G, hh⟩ := hh
 try dsimp only at hh
 refine ac hF (dJ hQ (g2 := fun y0 y1 => cm.f k y0 y1) (fun h => ip hQ h) G) ?_
 cbv
 replace hh := aD hh
 rcases hh with ⟨p, hh⟩ | ⟨p, hh⟩
 have c : d = true := Tb p
 have g := c; cbv at g; try rw [c]
 try rw [g]
 cbv
 ·refine t (_, _) _ hh fun ⟨u, B⟩ e => ?_
  refine ai ?_
  cbv
  all_goals exact J2
 have c : d = false := Fb p
 have g := c; cbv at g; try rw [c]
 try rw [g]
 cbv
 replace hh := aa hh
 obtain ⟨H, hh⟩ := hh
 refine ⟨⟨Ob, Ab⟩, ?_⟩
 refine ⟨⟨Ob, Wb H⟩, ?_⟩
 ·refine t (_, _) _ hh fun ⟨u, B⟩ e => ?_
  refine aw [((5, 50), (27, 0))] ?_
  cbv
  all_goals exact J2
 replace hh := ifF hh b
 try rw [b]
 cbv
 ·refine C _ _ hh fun u e => ?_
  refine ai ?_
  cbv
  all_goals exact J1

theorem oI {k : Nat} {p0 : Int} {p1 : List GOcc} {p2 : GOcc} {p3 : Bool} {r : List GOcc} (hh : ek.f k p0 p1 p2 p3 = some r) : ah P 235 [iA p0, tA (qGOcc p1), .agg [iA p2.From, iA p2.To, tA (qInt p2.Ids)], bA p3] [hA, hA, hA, hA] (tA (qGOcc r)) := by
 obtain ⟨p2a, p2b, p2c⟩ := p2
 unfold ek.f at hh
 refine go (ts := [(8, none)]) (rm := [.val]) (pm := [.skip, .skip, .skip, .skip]) Tryz.func235 ?_
 intro Fn LW IN len cast toNat wrap add sub mul bin lt eq At set part app fz' rep nadd nmax ssize sext sget scat seq slt Wide Flat Ones Room r' post' hC hF hr hp
 cbv
 refine bcs (fun b => ?_) (fun b => ?_)
 replace hh := ifT hh b
 try rw [b]
 cbv
 exact Eb
 replace hh := ifF hh b
 try rw [b]
 cbv
 refine bcs (fun c => ?_) (fun c => ?_)
 replace hh := ifT hh c
 try rw [c]
 cbv
 replace hh := bind_some hh
 obtain ⟨s, o, hh⟩ := hh
 refine ac hF (iv hQ o) ?_
 cbv
 exact Eb
 replace hh := ifF hh c
 try rw [c]
 cbv
 refine bcs (fun d => ?_) (fun d => ?_)
 replace hh := ifT hh d
 try rw [d]
 cbv
 replace hh := bind_some hh
 obtain ⟨p, j, hh⟩ := hh
 refine ac hF (iv hQ j) ?_
 cbv
 exact Eb
 replace hh := ifF hh d
 try rw [d]
 cbv
 exact Eb

theorem l9 {k : Nat} {p0 : GPair} {p1 : Int} {p2 : List GOcc} {p3 : List GOcc} {r : GPair × (List GOcc)} (hh : aZ.f k p0 p1 p2 p3 = some r) : ah P 197 [.agg [tA (qGOcc p0.Left), tA (qGOcc p0.Right)], iA p1, tA (qGOcc p2), tA (qGOcc p3)] [hA, hA, hA, hA] (.tup [.agg [tA (qGOcc r.1.Left), tA (qGOcc r.1.Right)], tA (qGOcc r.2)]) := by
 obtain ⟨p0a, p0b⟩ := p0
 unfold aZ.f at hh
 refine go (ts := [(8, some 171), (9, none)]) (rm := [.val, .val]) (pm := [.skip, .skip, .skip, .skip]) Tryz.func197 ?_
 intro Fn LW IN len cast toNat wrap add sub mul bin lt eq At set part app fz' rep nadd nmax ssize sext sget scat seq slt Wide Flat Ones Room r' post' hC hF hr hp
 cbv
 replace hh := bind_some hh
 obtain ⟨O, d, j⟩ := hh
 refine au hC eok mixed (fun n (i : (List GOcc) × (List GOcc) × (List GOcc) × Int) => aZ.l0 k p1 p2 n i.1 i.2.1 i.2.2.1 i.2.2.2)
  (fun ⟨z, A, B, C⟩ => (⟨[(1, iA p1), (3, tA (qGOcc p3)), (4, .mptr (4, 0) 1 0 0), (8, .mptr (8, 0) 1 0 0), (10, tA (qGOcc B)), (19, tA (qGOcc p2)), (20, iA (cast (len (qGOcc p2)))), (21, iA C)], [((4, 0), .box 1 [tA (qGOcc z), tA (qGOcc A)]), ((8, 0), .box 1 [.lit (.slice none 0 0), .lit (.slice none 0 0)])]⟩ : St))
  (fun (⟨D, F, G⟩ : (List GOcc) × (List GOcc) × (List GOcc)) => (⟨[(1, iA p1), (3, tA (qGOcc p3)), (4, .mptr (4, 0) 1 0 0), (8, .mptr (8, 0) 1 0 0), (10, tA (qGOcc G))], [((4, 0), .box 1 [tA (qGOcc D), tA (qGOcc F)]), ((8, 0), .box 1 [.lit (.slice none 0 0), .lit (.slice none 0 0)])]⟩ : St)) (fun x => x) (.exit 0)
  (i0 := (_, _, _, _)) d (fun _ => rfl) ?_ ?_ ?_
 ·rintro ⟨o, p, s, Q⟩ e
  refine ai ?_
  cbv
  all_goals exact J4
 rintro ⟨D, F, G⟩ hx
 subst O
 have hh := j
 cbv
 replace hh := bind_some hh
 obtain ⟨O, d, j⟩ := hh
 refine au hC eok mixed (fun n (i : (List GOcc) × (List GOcc) × (List GOcc) × Int) => aZ.l1 k p1 p3 n i.1 i.2.1 i.2.2.1 i.2.2.2)
  (fun ⟨H, I, J, K⟩ => (⟨[(1, iA p1), (4, .mptr (4, 0) 1 0 0), (8, .mptr (8, 0) 1 0 0), (10, tA (qGOcc J)), (51, tA (qGOcc p3)), (52, iA (cast (len (qGOcc p3)))), (53, iA K)], [((4, 0), .box 1 [tA (qGOcc H), tA (qGOcc I)]), ((8, 0), .box 1 [.lit (.slice none 0 0), .lit (.slice none 0 0)])]⟩ : St))
  (fun (⟨L, M, N⟩ : (List GOcc) × (List GOcc) × (List GOcc)) => (⟨[(4, .mptr (4, 0) 1 0 0), (8, .mptr (8, 0) 1 0 0), (10, tA (qGOcc N))], [((4, 0), .box 1 [tA (qGOcc L), tA (qGOcc M)]), ((8, 0), .box 1 [.lit (.slice none 0 0), .lit (.slice none 0 0)])]⟩ : St)) (fun x => x) (.exit 2)
  (i0 := (_, _, _, _)) d (fun _ => rfl) ?_ ?_ ?_
 ·rintro ⟨o, p, s, Q⟩ e
  refine ai ?_
  cbv
  all_goals exact J4
 rintro ⟨L, M, N⟩ hx
 subst O
 have hh := j
 cbv
 exact Eb
 rintro n ⟨H, I, J, K⟩ N1 D1 hh t u xm
 try dsimp only at hh
 unfold aZ.l1 at hh
 cbv
 refine bcs (fun b => ?_) (fun b => ?_)
 replace hh := ifT hh b
 try rw [b]
 cbv
 replace hh := aa hh
 obtain ⟨R, hh⟩ := hh
 replace hh := bind_some hh
 obtain ⟨⟨v, w, y⟩, S, hh⟩ := hh
 try dsimp only at hh
 refine ⟨[iA v, iA w, tA (qInt y)], Nb R, Gb S, ?_⟩
 cbv
 replace hh := bind_some hh
 obtain ⟨⟨AU, Bz⟩, T, hh⟩ := hh
 try dsimp only at hh
 have fc := fu hQ T
 try dsimp only at fc
 refine ac hF fc ?_
 cbv
 replace hh := bind_some hh
 obtain ⟨B4, U, hh⟩ := hh
 refine ac hF (ce hQ U) ?_
 cbv
 replace hh := bind_some hh
 obtain ⟨V, W, hh⟩ := hh
 refine ac hF (ah.frz (r' := tA (qGOcc V)) (iq hQ W) (by cases hQ; simp)) ?_
 cbv
 replace hh := bind_some hh
 obtain ⟨B6, X, hh⟩ := hh
 refine ac hF (oI hQ X) ?_
 cbv
 ·refine t (_, _, _, _) _ hh fun ⟨o, p, s, Q⟩ e => ?_
  refine ai ?_
  cbv
  all_goals exact J4
 replace hh := ifF hh b
 try rw [b]
 cbv
 ·refine u (_, _, _) _ hh fun ⟨o, p, s⟩ e => ?_
  refine ai ?_
  cbv
  all_goals exact J3
 rintro n ⟨z, A, B, C⟩ N1 D1 hh t u xm
 try dsimp only at hh
 unfold aZ.l0 at hh
 cbv
 refine bcs (fun c => ?_) (fun c => ?_)
 replace hh := ifT hh c
 try rw [c]
 cbv
 replace hh := aa hh
 obtain ⟨BB, hh⟩ := hh
 replace hh := bind_some hh
 obtain ⟨⟨Y, Z, dj⟩, BL, hh⟩ := hh
 try dsimp only at hh
 refine ⟨[iA Y, iA Z, tA (qInt dj)], Nb BB, Gb BL, ?_⟩
 cbv
 replace hh := bind_some hh
 obtain ⟨⟨BX, BY⟩, BR, hh⟩ := hh
 try dsimp only at hh
 have fc := fu hQ BR
 try dsimp only at fc
 refine ac hF fc ?_
 cbv
 replace hh := bind_some hh
 obtain ⟨B7, BS, hh⟩ := hh
 refine ac hF (ce hQ BS) ?_
 cbv
 replace hh := bind_some hh
 obtain ⟨BU, BV, hh⟩ := hh
 refine ac hF (ah.frz (r' := tA (qGOcc BU)) (iq hQ BV) (by cases hQ; simp)) ?_
 cbv
 replace hh := bind_some hh
 obtain ⟨B9, BW, hh⟩ := hh
 refine ac hF (oI hQ BW) ?_
 cbv
 ·refine t (_, _, _, _) _ hh fun ⟨o, p, s, Q⟩ e => ?_
  refine ai ?_
  cbv
  all_goals exact J4
 replace hh := ifF hh c
 try rw [c]
 cbv
 ·refine u (_, _, _) _ hh fun ⟨o, p, s⟩ e => ?_
  refine ai ?_
  cbv
  all_goals exact J3

theorem pY {p0 : GOcc} {c0 : GOcc} {r : Bool} (hh : d9.f p0 c0 = some r) : ah P 236 [.agg [iA p0.From, iA p0.To, tA (qInt p0.Ids)], .iptr [iA c0.From, iA c0.To, tA (qInt c0.Ids)] 0] [hA, hA] (bA r) := by
 obtain ⟨p0a, p0b, p0c⟩ := p0
 obtain ⟨c0a, c0b, c0c⟩ := c0
 unfold d9.f at hh
 refine go (ts := [(3, none)]) (rm := [.own]) (pm := [.skip, .skip]) Tryz.func236 ?_
 intro Fn LW IN len cast toNat wrap add sub mul bin lt eq At set part app fz' rep nadd nmax ssize sext sget scat seq slt Wide Flat Ones Room r' post' hC hF hr hp
 cbv
 exact Eb

theorem jN {k : Nat} {g1 : GOcc → Option Bool} {cp1_0 : GOcc} (hg1 : ∀ {y0 : GOcc} {r : Bool}, g1 y0 = some r → ah P 236 [.agg [iA y0.From, iA y0.To, tA (qInt y0.Ids)], .iptr [iA cp1_0.From, iA cp1_0.To, tA (qInt cp1_0.Ids)] 0] [hA, hA] (bA r)) {p0 : List GOcc} {r : List GOcc} (hh : aQ.f g1 k p0 = some r) : ah P 218 [tA (qGOcc p0), .clo 236 [.iptr [iA cp1_0.From, iA cp1_0.To, tA (qInt cp1_0.Ids)] 0]] [hA, hA] (oA 3 (qGOcc r)) := by
 obtain ⟨cp1_0a, cp1_0b, cp1_0c⟩ := cp1_0
 unfold aQ.f at hh
 refine go (ts := [(4, none)]) (rm := [.own]) (pm := [.skip, .skip]) Tryz.func218 ?_
 intro Fn LW IN len cast toNat wrap add sub mul bin lt eq At set part app fz' rep nadd nmax ssize sext sget scat seq slt Wide Flat Ones Room r' post' hC hF hr hp
 cbv
 replace hh := bind_some hh
 obtain ⟨G, w, y⟩ := hh
 refine au hC eok mixed (fun n (i : (List GOcc) × Int) => aQ.l0 k g1 p0 n i.1 i.2)
  (fun ⟨d, o⟩ => (⟨[(1, .clo 236 [.iptr [iA cp1_0a, iA cp1_0b, tA (qInt cp1_0c)] 0]), (5, .ref (5, 50) 1 0 (len (qGOcc d))), (8, tA (qGOcc p0)), (9, iA (cast (len (qGOcc p0)))), (10, iA o)], [((5, 50), .arr 1 3 (qGOcc d))]⟩ : St))
  (fun (j : List GOcc) => (⟨[(5, .ref (5, 50) 1 0 (len (qGOcc j)))], [((5, 50), .arr 1 3 (qGOcc j))]⟩ : St)) (fun x => x) (.exit 0)
  (i0 := (_, _)) w (fun _ => rfl) ?_ ?_ ?_
 ·rintro ⟨s, z⟩ e
  refine aw [] ?_
  cbv
  all_goals exact J2
 rintro j hx
 subst G
 have hh := y
 cbv
 exact Eb
 rintro n ⟨d, o⟩ J K hh p A H
 try dsimp only at hh
 unfold aQ.l0 at hh
 cbv
 refine bcs (fun b => ?_) (fun b => ?_)
 replace hh := ifT hh b
 try rw [b]
 cbv
 replace hh := aa hh
 obtain ⟨B, hh⟩ := hh
 replace hh := bind_some hh
 obtain ⟨⟨t, u, v⟩, C, hh⟩ := hh
 try dsimp only at hh
 refine ⟨[iA t, iA u, tA (qInt v)], Nb B, Gb C, ?_⟩
 cbv
 replace hh := bind_some hh
 obtain ⟨I, D, hh⟩ := hh
 refine ac hF (hg1 D) ?_
 cbv
 refine bcs (fun c => ?_) (fun c => ?_)
 replace hh := ifT hh c
 try rw [c]
 cbv
 replace hh := aa hh
 obtain ⟨F, hh⟩ := hh
 refine ⟨⟨Ob, Ab⟩, ?_⟩
 refine ⟨⟨Ob, Wb F⟩, ?_⟩
 ·refine p (_, _) _ hh fun ⟨s, z⟩ e => ?_
  refine aw [((5, 50), (20, 0))] ?_
  cbv
  all_goals exact J2
 replace hh := ifF hh c
 try rw [c]
 cbv
 ·refine p (_, _) _ hh fun ⟨s, z⟩ e => ?_
  refine ai ?_
  cbv
  all_goals exact J2
 replace hh := ifF hh b
 try rw [b]
 cbv
 ·refine A _ _ hh fun s e => ?_
  refine ai ?_
  cbv
  all_goals exact J1

theorem mg {k : Nat} {p0 : GPair} {p1 : Int} {p2 : List GOcc} {p3 : List GOcc} {r : GPair × (List GOcc)} (hh : bT.f k p0 p1 p2 p3 = some r) : ah P 198 [.agg [tA (qGOcc p0.Left), tA (qGOcc p0.Right)], iA p1, tA (qGOcc p2), tA (qGOcc p3)] [hA, hA, hA, hA] (.tup [.agg [tA (qGOcc r.1.Left), tA (qGOcc r.1.Right)], tA (qGOcc r.2)]) := by
 obtain ⟨p0a, p0b⟩ := p0
 unfold bT.f at hh
 refine goG (g := [5]) (i := []) (o := []) (sh := []) (ts := [(8, some 171), (9, none)]) (rm := [.val, .val]) (pm := [.skip, .skip, .skip, .skip]) Tryz.func198 ?_
 intro Fn LW IN len cast toNat wrap add sub mul bin lt eq At set part app fz' rep nadd nmax ssize sext sget scat seq slt Wide Flat Ones Room r' post' hC hF hr hp
 cbv
 replace hh := bind_some hh
 obtain ⟨O, w, y⟩ := hh
 refine au hC (co [5] [] []) mixed (fun n (i : (List GOcc) × (List GOcc) × Int) => bT.l0 k p1 p3 n i.1 i.2.1 i.2.2)
  (fun ⟨p, s, t⟩ => (⟨[(1, iA p1), (2, tA (qGOcc p2)), (4, .mptr (4, 0) 1 0 0), (8, .mptr (8, 0) 1 0 0), (10, tA (qGOcc s)), (15, tA (qGOcc p3)), (16, iA (cast (len (qGOcc p3)))), (17, iA t)], [((4, 0), .box 1 [tA (qGOcc p), tA (qGOcc p0b)]), ((8, 0), .box 1 [.lit (.slice none 0 0), .lit (.slice none 0 0)])]⟩ : St))
  (fun (⟨u, v⟩ : (List GOcc) × (List GOcc)) => (⟨[(2, tA (qGOcc p2)), (4, .mptr (4, 0) 1 0 0), (8, .mptr (8, 0) 1 0 0), (10, tA (qGOcc v))], [((4, 0), .box 1 [tA (qGOcc u), tA (qGOcc p0b)]), ((8, 0), .box 1 [.lit (.slice none 0 0), .lit (.slice none 0 0)])]⟩ : St)) (fun x => x) (.exit 0)
  (i0 := (_, _, _)) w (fun _ => rfl) ?_ ?_ ?_
 ·rintro ⟨z, A, Q⟩ e
  refine ai ?_
  cbv
  all_goals exact J3
 rintro ⟨u, v⟩ hx
 subst O
 have hh := y
 cbv
 replace hh := bind_some hh
 obtain ⟨R, B, hh⟩ := hh
 refine ac hF (ce hQ B) ?_
 cbv
 exact Eb
 rintro n ⟨p, s, t⟩ V W hh C D S
 try dsimp only at hh
 unfold bT.l0 at hh
 cbv
 refine bcs (fun b => ?_) (fun b => ?_)
 replace hh := ifT hh b
 try rw [b]
 cbv
 replace hh := aa hh
 obtain ⟨F, hh⟩ := hh
 replace hh := bind_some hh
 obtain ⟨⟨c, d, j⟩, G, hh⟩ := hh
 try dsimp only at hh
 refine ⟨[iA c, iA d, tA (qInt j)], Nb F, Gb G, ?_⟩
 cbv
 refine Cs hC (co [5] [] []) mixed (⟨[(1, iA p1), (2, tA (qGOcc p2)), (4, .mptr (4, 0) 1 0 0), (8, .mptr (8, 0) 1 0 0), (10, tA (qGOcc s)), (12, .mptr (12, 0) 1 0 0), (15, tA (qGOcc p3)), (16, iA (cast (len (qGOcc p3)))), (17, iA t)], [((4, 0), .box 1 [tA (qGOcc p), tA (qGOcc p0b)]), ((8, 0), .box 1 [.lit (.slice none 0 0), .lit (.slice none 0 0)]), ((12, 0), .fbox 1 [iA c, iA d, tA (qInt j)])]⟩ : St) (aw [((4, 0), (4, 0)), ((8, 0), (8, 0)), ((12, 0), (12, 0))] ?_) ?_
 ·cbv
  all_goals exact Zb
 cbv
 replace hh := bind_some hh
 obtain ⟨T, H, hh⟩ := hh
 refine ac hF (jN hQ (g1 := fun y0 => d9.f y0 ((⟨c, d, j⟩ : GOcc))) (fun h => pY hQ h) H) ?_
 cbv
 replace hh := bind_some hh
 obtain ⟨⟨M, N⟩, I, hh⟩ := hh
 try dsimp only at hh
 refine ⟨Ob, ?_⟩
 have fc := fu hQ I
 try dsimp only at fc
 refine ac hF fc ?_
 cbv
 replace hh := bind_some hh
 obtain ⟨U, J, hh⟩ := hh
 refine ac hF (ce hQ J) ?_
 cbv
 replace hh := bind_some hh
 obtain ⟨K, L, hh⟩ := hh
 refine ac hF (ah.frz (r' := tA (qGOcc K)) (iq hQ L) (by cases hQ; simp)) ?_
 cbv
 ·refine C (_, _, _) _ hh fun ⟨z, A, Q⟩ e => ?_
  refine ai ?_
  cbv
  all_goals exact J3
 replace hh := ifF hh b
 try rw [b]
 cbv
 ·refine D (_, _) _ hh fun ⟨z, A⟩ e => ?_
  refine ai ?_
  cbv
  all_goals exact J2

theorem oc {p0 : GOcc} {c0 : GOcc} {c1 : GOcc} {r : Bool} (hh : dU.f p0 c0 c1 = some r) : ah P 256 [.agg [iA p0.From, iA p0.To, tA (qInt p0.Ids)], .iptr [iA c0.From, iA c0.To, tA (qInt c0.Ids)] 0, .iptr [iA c1.From, iA c1.To, tA (qInt c1.Ids)] 0] [hA, hA, hA] (bA r) := by
 obtain ⟨p0a, p0b, p0c⟩ := p0
 obtain ⟨c0a, c0b, c0c⟩ := c0
 obtain ⟨c1a, c1b, c1c⟩ := c1
 unfold dU.f at hh
 refine go (ts := [(4, none)]) (rm := [.own]) (pm := [.skip, .skip, .skip]) Tryz.func256 ?_
 intro Fn LW IN len cast toNat wrap add sub mul bin lt eq At set part app fz' rep nadd nmax ssize sext sget scat seq slt Wide Flat Ones Room r' post' hC hF hr hp
 cbv
 refine bcs (fun b => ?_) (fun b => ?_)
 replace hh := ifT hh b
 try rw [b]
 cbv
 exact Eb
 replace hh := ifF hh b
 try rw [b]
 cbv
 exact Eb

theorem fK {k : Nat} {g1 : GOcc → Option Bool} {cp1_0 : GOcc} {cp1_1 : GOcc} (hg1 : ∀ {y0 : GOcc} {r : Bool}, g1 y0 = some r → ah P 256 [.agg [iA y0.From, iA y0.To, tA (qInt y0.Ids)], .iptr [iA cp1_0.From, iA cp1_0.To, tA (qInt cp1_0.Ids)] 0, .iptr [iA cp1_1.From, iA cp1_1.To, tA (qInt cp1_1.Ids)] 0] [hA, hA, hA] (bA r)) {p0 : List GOcc} {r : Int} (hh : aA.f g1 k p0 = some r) : ah P 230 [tA (qGOcc p0), .clo 256 [.iptr [iA cp1_0.From, iA cp1_0.To, tA (qInt cp1_0.Ids)] 0, .iptr [iA cp1_1.From, iA cp1_1.To, tA (qInt cp1_1.Ids)] 0]] [hA, hA] (iA r) := by
 obtain ⟨cp1_0a, cp1_0b, cp1_0c⟩ := cp1_0
 obtain ⟨cp1_1a, cp1_1b, cp1_1c⟩ := cp1_1
 unfold aA.f at hh
 refine go (ts := [(4, none)]) (rm := [.own]) (pm := [.skip, .skip]) Tryz.func230 ?_
 intro Fn LW IN len cast toNat wrap add sub mul bin lt eq At set part app fz' rep nadd nmax ssize sext sget scat seq slt Wide Flat Ones Room r' post' hC hF hr hp
 cbv
 replace hh := bind_some hh
 obtain ⟨B, t, d⟩ := hh
 refine au hC eok mixed (aA.l0 k g1 p0)
  (fun j => (⟨[(0, tA (qGOcc p0)), (1, .clo 256 [.iptr [iA cp1_0a, iA cp1_0b, tA (qInt cp1_0c)] 0, .iptr [iA cp1_1a, iA cp1_1b, tA (qInt cp1_1c)] 0]), (7, iA (cast (len (qGOcc p0)))), (8, iA j)], []⟩ : St))
  (fun (_ : Unit) => (⟨[], []⟩ : St)) .ok (.exit 0)
  (i0 := _) t (fun _ => rfl) ?_ ?_ ?_
 ·rintro C e
  refine ai ?_
  cbv
  all_goals exact J1
 rintro _ hx
 subst B
 have hh := d
 cbv
 exact Eb
 rintro n j F G hh u v w
 unfold aA.l0 at hh
 cbv
 refine bcs (fun b => ?_) (fun b => ?_)
 replace hh := ifT hh b
 try rw [b]
 cbv
 replace hh := aa hh
 obtain ⟨y, hh⟩ := hh
 replace hh := bind_some hh
 obtain ⟨⟨o, p, s⟩, z, hh⟩ := hh
 try dsimp only at hh
 refine ⟨[iA o, iA p, tA (qInt s)], Nb y, Gb z, ?_⟩
 cbv
 replace hh := bind_some hh
 obtain ⟨D, A, hh⟩ := hh
 refine ac hF (hg1 A) ?_
 cbv
 refine bcs (fun c => ?_) (fun c => ?_)
 replace hh := ifT hh c
 try rw [c]
 cbv
 cases hh
 have hh : some _ = some _ := d
 refine w _ _ ?_
 cbv
 exact Eb
 replace hh := ifF hh c
 try rw [c]
 cbv
 ·refine u _ _ hh fun C e => ?_
  refine ai ?_
  cbv
  all_goals exact J1
 replace hh := ifF hh b
 try rw [b]
 cbv
 ·refine v () _ hh fun _ e => ?_
  refine ai ?_
  cbv
  all_goals exact J0

theorem fi {k : Nat} {g1 : GOcc → Option Bool} {cp1_0 : GOcc} {cp1_1 : GOcc} (hg1 : ∀ {y0 : GOcc} {r : Bool}, g1 y0 = some r → ah P 256 [.agg [iA y0.From, iA y0.To, tA (qInt y0.Ids)], .iptr [iA cp1_0.From, iA cp1_0.To, tA (qInt cp1_0.Ids)] 0, .iptr [iA cp1_1.From, iA cp1_1.To, tA (qInt cp1_1.Ids)] 0] [hA, hA, hA] (bA r)) {p0 : List GOcc} {r : Bool} (hh : aS.f g1 k p0 = some r) : ah P 192 [tA (qGOcc p0), .clo 256 [.iptr [iA cp1_0.From, iA cp1_0.To, tA (qInt cp1_0.Ids)] 0, .iptr [iA cp1_1.From, iA cp1_1.To, tA (qInt cp1_1.Ids)] 0]] [hA, hA] (bA r) := by
 obtain ⟨cp1_0a, cp1_0b, cp1_0c⟩ := cp1_0
 obtain ⟨cp1_1a, cp1_1b, cp1_1c⟩ := cp1_1
 unfold aS.f at hh
 refine go (ts := [(4, none)]) (rm := [.own]) (pm := [.skip, .skip]) Tryz.func192 ?_
 intro Fn LW IN len cast toNat wrap add sub mul bin lt eq At set part app fz' rep nadd nmax ssize sext sget scat seq slt Wide Flat Ones Room r' post' hC hF hr hp
 cbv
 replace hh := bind_some hh
 obtain ⟨c, b, hh⟩ := hh
 refine ac hF (fK hQ (g1 := g1) hg1 b) ?_
 cbv
 exact Eb

theorem pw {k : Nat} {p0 : GOcc} {c0 : GOcc} {c1 : GSpan} {r : Bool} (hh : eB.f k p0 c0 c1 = some r) : ah P 255 [.agg [iA p0.From, iA p0.To, tA (qInt p0.Ids)], .iptr [iA c0.From, iA c0.To, tA (qInt c0.Ids)] 0, .iptr [tA (qGOcc c1.Left), tA (qGOcc c1.Mid)] 0] [hA, hA, hA] (bA r) := by
 obtain ⟨p0a, p0b, p0c⟩ := p0
 obtain ⟨c0a, c0b, c0c⟩ := c0
 obtain ⟨c1a, c1b⟩ := c1
 unfold eB.f at hh
 refine go (ts := [(4, none)]) (rm := [.own]) (pm := [.skip, .skip, .skip]) Tryz.func255 ?_
 intro Fn LW IN len cast toNat wrap add sub mul bin lt eq At set part app fz' rep nadd nmax ssize sext sget scat seq slt Wide Flat Ones Room r' post' hC hF hr hp
 cbv
 refine bcs (fun b => ?_) (fun b => ?_)
 replace hh := ifT hh b
 try rw [b]
 cbv
 replace hh := bind_some hh
 obtain ⟨d, c, hh⟩ := hh
 refine ac hF (fi hQ (g1 := fun y0 => dU.f y0 ((⟨p0a, p0b, p0c⟩ : GOcc)) ((⟨c0a, c0b, c0c⟩ : GOcc))) (fun h => oc hQ h) c) ?_
 cbv
 exact Eb
 replace hh := ifF hh b
 try rw [b]
 cbv
 exact Eb

theorem jE {k : Nat} {g1 : GOcc → Option Bool} {cp1_0 : GOcc} {cp1_1 : GSpan} (hg1 : ∀ {y0 : GOcc} {r : Bool}, g1 y0 = some r → ah P 255 [.agg [iA y0.From, iA y0.To, tA (qInt y0.Ids)], .iptr [iA cp1_0.From, iA cp1_0.To, tA (qInt cp1_0.Ids)] 0, .iptr [tA (qGOcc cp1_1.Left), tA (qGOcc cp1_1.Mid)] 0] [hA, hA, hA] (bA r)) {p0 : List GOcc} {r : List GOcc} (hh : aQ.f g1 k p0 = some r) : ah P 218 [tA (qGOcc p0), .clo 255 [.iptr [iA cp1_0.From, iA cp1_0.To, tA (qInt cp1_0.Ids)] 0, .iptr [tA (qGOcc cp1_1.Left), tA (qGOcc cp1_1.Mid)] 0]] [hA, hA] (oA 3 (qGOcc r)) := by
 obtain ⟨cp1_0a, cp1_0b, cp1_0c⟩ := cp1_0
 obtain ⟨cp1_1a, cp1_1b⟩ := cp1_1
 unfold aQ.f at hh
 refine go (ts := [(4, none)]) (rm := [.own]) (pm := [.skip, .skip]) Tryz.func218 ?_
 intro Fn LW IN len cast toNat wrap add sub mul bin lt eq At set part app fz' rep nadd nmax ssize sext sget scat seq slt Wide Flat Ones Room r' post' hC hF hr hp
 cbv
 replace hh := bind_some hh
 obtain ⟨G, w, y⟩ := hh
 refine au hC eok mixed (fun n (i : (List GOcc) × Int) => aQ.l0 k g1 p0 n i.1 i.2)
  (fun ⟨d, o⟩ => (⟨[(1, .clo 255 [.iptr [iA cp1_0a, iA cp1_0b, tA (qInt cp1_0c)] 0, .iptr [tA (qGOcc cp1_1a), tA (qGOcc cp1_1b)] 0]), (5, .ref (5, 50) 1 0 (len (qGOcc d))), (8, tA (qGOcc p0)), (9, iA (cast (len (qGOcc p0)))), (10, iA o)], [((5, 50), .arr 1 3 (qGOcc d))]⟩ : St))
  (fun (j : List GOcc) => (⟨[(5, .ref (5, 50) 1 0 (len (qGOcc j)))], [((5, 50), .arr 1 3 (qGOcc j))]⟩ : St)) (fun x => x) (.exit 0)
  (i0 := (_, _)) w (fun _ => rfl) ?_ ?_ ?_
 ·rintro ⟨s, z⟩ e
  refine aw [] ?_
  cbv
  all_goals exact J2
 rintro j hx
 subst G
 have hh := y
 cbv
 exact Eb
 rintro n ⟨d, o⟩ J K hh p A H
 try dsimp only at hh
 unfold aQ.l0 at hh
 cbv
 refine bcs (fun b => ?_) (fun b => ?_)
 replace hh := ifT hh b
 try rw [b]
 cbv
 replace hh := aa hh
 obtain ⟨B, hh⟩ := hh
 replace hh := bind_some hh
 obtain ⟨⟨t, u, v⟩, C, hh⟩ := hh
 try dsimp only at hh
 refine ⟨[iA t, iA u, tA (qInt v)], Nb B, Gb C, ?_⟩
 cbv
 replace hh := bind_some hh
 obtain ⟨I, D, hh⟩ := hh
 refine ac hF (hg1 D) ?_
 cbv
 refine bcs (fun c => ?_) (fun c => ?_)
 replace hh := ifT hh c
 try rw [c]
 cbv
 replace hh := aa hh
 obtain ⟨F, hh⟩ := hh
 refine ⟨⟨Ob, Ab⟩, ?_⟩
 refine ⟨⟨Ob, Wb F⟩, ?_⟩
 ·refine p (_, _) _ hh fun ⟨s, z⟩ e => ?_
  refine aw [((5, 50), (20, 0))] ?_
  cbv
  all_goals exact J2
 replace hh := ifF hh c
 try rw [c]
 cbv
 ·refine p (_, _) _ hh fun ⟨s, z⟩ e => ?_
  refine ai ?_
  cbv
  all_goals exact J2
 replace hh := ifF hh b
 try rw [b]
 cbv
 ·refine A _ _ hh fun s e => ?_
  refine ai ?_
  cbv
  all_goals exact J1

theorem lS {k : Nat} {p0 : GSpan} {p1 : GOcc} {r : List GOcc} (hh : dv.f k p0 p1 = some r) : ah P 238 [.agg [tA (qGOcc p0.Left), tA (qGOcc p0.Mid)], .agg [iA p1.From, iA p1.To, tA (qInt p1.Ids)]] [hA, hA] (oA 3 (qGOcc r)) := by
 obtain ⟨p0a, p0b⟩ := p0
 obtain ⟨p1a, p1b, p1c⟩ := p1
 unfold dv.f at hh
 refine go (ts := [(4, none)]) (rm := [.own]) (pm := [.skip, .skip]) Tryz.func238 ?_
 intro Fn LW IN len cast toNat wrap add sub mul bin lt eq At set part app fz' rep nadd nmax ssize sext sget scat seq slt Wide Flat Ones Room r' post' hC hF hr hp
 cbv
 replace hh := bind_some hh
 obtain ⟨c, b, hh⟩ := hh
 refine ac hF (jE hQ (g1 := fun y0 => eB.f k y0 ((⟨p1a, p1b, p1c⟩ : GOcc)) ((⟨p0a, p0b⟩ : GSpan))) (fun h => pw hQ h) b) ?_
 cbv
 exact Eb

theorem mh {k : Nat} {p0 : GSpan} {p1 : Int} {p2 : List GOcc} {p3 : List GOcc} {p4 : List GOcc} {r : GSpan × (List GOcc)} (hh : bS.f k p0 p1 p2 p3 p4 = some r) : ah P 200 [.agg [tA (qGOcc p0.Left), tA (qGOcc p0.Mid)], iA p1, tA (qGOcc p2), tA (qGOcc p3), tA (qGOcc p4)] [hA, hA, hA, hA, hA] (.tup [.agg [tA (qGOcc r.1.Left), tA (qGOcc r.1.Mid)], tA (qGOcc r.2)]) := by
 obtain ⟨p0a, p0b⟩ := p0
 unfold bS.f at hh
 refine go (ts := [(10, some 173), (11, none)]) (rm := [.val, .val]) (pm := [.skip, .skip, .skip, .skip, .skip]) Tryz.func200 ?_
 intro Fn LW IN len cast toNat wrap add sub mul bin lt eq At set part app fz' rep nadd nmax ssize sext sget scat seq slt Wide Flat Ones Room r' post' hC hF hr hp
 cbv
 replace hh := bind_some hh
 obtain ⟨O, v, w⟩ := hh
 refine au hC eok mixed (fun n (i : (List GOcc) × (List GOcc) × Int) => bS.l0 k (⟨p0a, p0b⟩ : GSpan) p1 p4 n i.1 i.2.1 i.2.2)
  (fun ⟨c, d, j⟩ => (⟨[(1, iA p1), (2, tA (qGOcc p2)), (3, tA (qGOcc p3)), (5, .mptr (5, 0) 1 0 0), (10, .mptr (10, 0) 1 0 0), (12, tA (qGOcc d)), (17, tA (qGOcc p4)), (18, iA (cast (len (qGOcc p4)))), (19, iA j)], [((5, 0), .box 1 [tA (qGOcc c), tA (qGOcc p0b)]), ((10, 0), .box 1 [.lit (.slice none 0 0), .lit (.slice none 0 0)])]⟩ : St))
  (fun (⟨o, p⟩ : (List GOcc) × (List GOcc)) => (⟨[(2, tA (qGOcc p2)), (3, tA (qGOcc p3)), (5, .mptr (5, 0) 1 0 0), (10, .mptr (10, 0) 1 0 0), (12, tA (qGOcc p))], [((5, 0), .box 1 [tA (qGOcc o), tA (qGOcc p0b)]), ((10, 0), .box 1 [.lit (.slice none 0 0), .lit (.slice none 0 0)])]⟩ : St)) (fun x => x) (.exit 0)
  (i0 := (_, _, _)) v (fun _ => rfl) ?_ ?_ ?_
 ·rintro ⟨y, z, Q⟩ e
  refine ai ?_
  cbv
  all_goals exact J3
 rintro ⟨o, p⟩ hx
 subst O
 have hh := w
 cbv
 replace hh := bind_some hh
 obtain ⟨R, A, hh⟩ := hh
 refine ac hF (ce hQ A) ?_
 cbv
 replace hh := bind_some hh
 obtain ⟨S, B, hh⟩ := hh
 refine ac hF (ce hQ B) ?_
 cbv
 exact Eb
 rintro n ⟨c, d, j⟩ W X hh C D T
 try dsimp only at hh
 unfold bS.l0 at hh
 cbv
 refine bcs (fun b => ?_) (fun b => ?_)
 replace hh := ifT hh b
 try rw [b]
 cbv
 replace hh := aa hh
 obtain ⟨F, hh⟩ := hh
 replace hh := bind_some hh
 obtain ⟨⟨s, t, u⟩, G, hh⟩ := hh
 try dsimp only at hh
 refine ⟨[iA s, iA t, tA (qInt u)], Nb F, Gb G, ?_⟩
 cbv
 replace hh := bind_some hh
 obtain ⟨U, H, hh⟩ := hh
 refine ac hF (lS hQ H) ?_
 cbv
 replace hh := bind_some hh
 obtain ⟨⟨M, N⟩, I, hh⟩ := hh
 try dsimp only at hh
 refine ⟨Ob, ?_⟩
 have fc := fu hQ I
 try dsimp only at fc
 refine ac hF fc ?_
 cbv
 replace hh := bind_some hh
 obtain ⟨V, J, hh⟩ := hh
 refine ac hF (ce hQ J) ?_
 cbv
 replace hh := bind_some hh
 obtain ⟨K, L, hh⟩ := hh
 refine ac hF (ah.frz (r' := tA (qGOcc K)) (iq hQ L) (by cases hQ; simp)) ?_
 cbv
 ·refine C (_, _, _) _ hh fun ⟨y, z, Q⟩ e => ?_
  refine ai ?_
  cbv
  all_goals exact J3
 replace hh := ifF hh b
 try rw [b]
 cbv
 ·refine D (_, _) _ hh fun ⟨y, z⟩ e => ?_
  refine ai ?_
  cbv
  all_goals exact J2

theorem ly {k : Nat} {p0 : GSpan} {p1 : Int} {p2 : List GOcc} {p3 : List GOcc} {p4 : List GOcc} {r : GSpan × (List GOcc)} (hh : bO.f k p0 p1 p2 p3 p4 = some r) : ah P 201 [.agg [tA (qGOcc p0.Left), tA (qGOcc p0.Mid)], iA p1, tA (qGOcc p2), tA (qGOcc p3), tA (qGOcc p4)] [hA, hA, hA, hA, hA] (.tup [.agg [tA (qGOcc r.1.Left), tA (qGOcc r.1.Mid)], tA (qGOcc r.2)]) := by
 obtain ⟨p0a, p0b⟩ := p0
 unfold bO.f at hh
 refine go (ts := [(10, some 173), (11, none)]) (rm := [.val, .val]) (pm := [.skip, .skip, .skip, .skip, .skip]) Tryz.func201 ?_
 intro Fn LW IN len cast toNat wrap add sub mul bin lt eq At set part app fz' rep nadd nmax ssize sext sget scat seq slt Wide Flat Ones Room r' post' hC hF hr hp
 cbv
 replace hh := bind_some hh
 obtain ⟨J, t, u⟩ := hh
 refine au hC eok mixed (fun n (i : (List GOcc) × Int) => bO.l0 k (⟨p0a, p0b⟩ : GSpan) p1 p3 n i.1 i.2)
  (fun ⟨c, d⟩ => (⟨[(1, iA p1), (2, tA (qGOcc p2)), (4, tA (qGOcc p4)), (5, .mptr (5, 0) 1 0 0), (10, .mptr (10, 0) 1 0 0), (12, tA (qGOcc c)), (17, tA (qGOcc p3)), (18, iA (cast (len (qGOcc p3)))), (19, iA d)], [((5, 0), .box 1 [tA (qGOcc p0a), tA (qGOcc p0b)]), ((10, 0), .box 1 [.lit (.slice none 0 0), .lit (.slice none 0 0)])]⟩ : St))
  (fun (j : List GOcc) => (⟨[(2, tA (qGOcc p2)), (4, tA (qGOcc p4)), (5, .mptr (5, 0) 1 0 0), (10, .mptr (10, 0) 1 0 0), (12, tA (qGOcc j))], [((5, 0), .box 1 [tA (qGOcc p0a), tA (qGOcc p0b)]), ((10, 0), .box 1 [.lit (.slice none 0 0), .lit (.slice none 0 0)])]⟩ : St)) (fun x => x) (.exit 0)
  (i0 := (_, _)) t (fun _ => rfl) ?_ ?_ ?_
 ·rintro ⟨v, K⟩ e
  refine ai ?_
  cbv
  all_goals exact J2
 rintro j hx
 subst J
 have hh := u
 cbv
 replace hh := bind_some hh
 obtain ⟨L, w, hh⟩ := hh
 refine ac hF (ce hQ w) ?_
 cbv
 replace hh := bind_some hh
 obtain ⟨M, y, hh⟩ := hh
 refine ac hF (ce hQ y) ?_
 cbv
 exact Eb
 rintro n ⟨c, d⟩ R S hh z A N
 try dsimp only at hh
 unfold bO.l0 at hh
 cbv
 refine bcs (fun b => ?_) (fun b => ?_)
 replace hh := ifT hh b
 try rw [b]
 cbv
 replace hh := aa hh
 obtain ⟨B, hh⟩ := hh
 replace hh := bind_some hh
 obtain ⟨⟨o, p, s⟩, C, hh⟩ := hh
 try dsimp only at hh
 refine ⟨[iA o, iA p, tA (qInt s)], Nb B, Gb C, ?_⟩
 cbv
 replace hh := bind_some hh
 obtain ⟨O, D, hh⟩ := hh
 refine ac hF (lS hQ D) ?_
 cbv
 replace hh := bind_some hh
 obtain ⟨⟨H, I⟩, F, hh⟩ := hh
 try dsimp only at hh
 refine ⟨Ob, ?_⟩
 have fc := fu hQ F
 try dsimp only at fc
 refine ac hF fc ?_
 cbv
 replace hh := bind_some hh
 obtain ⟨Q, G, hh⟩ := hh
 refine ac hF (ce hQ G) ?_
 cbv
 ·refine z (_, _) _ hh fun ⟨v, K⟩ e => ?_
  refine ai ?_
  cbv
  all_goals exact J2
 replace hh := ifF hh b
 try rw [b]
 cbv
 ·refine A _ _ hh fun v e => ?_
  refine ai ?_
  cbv
  all_goals exact J1

theorem oY {p0 : GOcc} {p1 : Int} {r : GOcc} (hh : fd.f p0 p1 = some r) : ah P 202 [.agg [iA p0.From, iA p0.To, tA (qInt p0.Ids)], iA p1] [hA, hA] (.agg [iA r.From, iA r.To, oA 1 (qInt r.Ids)]) := by
 obtain ⟨p0a, p0b, p0c⟩ := p0
 unfold fd.f at hh
 refine go (ts := [(4, some 67)]) (rm := [.own]) (pm := [.skip, .skip]) Tryz.func202 ?_
 intro Fn LW IN len cast toNat wrap add sub mul bin lt eq At set part app fz' rep nadd nmax ssize sext sget scat seq slt Wide Flat Ones Room r' post' hC hF hr hp
 cbv
 replace hh := bind_some hh
 obtain ⟨⟨c, d, j⟩, b, hh⟩ := hh
 try dsimp only at hh
 have fc := iT hQ b
 try dsimp only at fc
 refine ac hF fc ?_
 cbv
 exact Eb

end Go.Proofs.YtlbnmldopjadoaaGreat
