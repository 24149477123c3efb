/- The functions of this program do what the plain ones do. -/
import Derived.Test.YtlbnmldopjadoaaGreatC0
namespace Go.Proofs.YtlbnmldopjadoaaGreat
open Go Go.Vm
set_option linter.unusedVariables false
set_option maxHeartbeats 4000000
set_option maxRecDepth 4000
variable {qIu8 : List Int → Vm.Rows} {qGCall : List av → Vm.Rows} {qInt : List Int → Vm.Rows} {qGEx : List GEx → Vm.Rows} {qGRule : List GRule → Vm.Rows} {qGExO : List GEx → Vm.Rows} {qGOcc : List GOcc → Vm.Rows} {qGNode : List GNode → Vm.Rows} {qGGraphS : List GGraph → Vm.Rows} {qGGraph : List GGraph → Vm.Rows} {qGEv : List GEv → Vm.Rows} {qGFire : List aH → Vm.Rows} {qLGOcc : List (List GOcc) → Vm.Rows} {qGOccO : List GOcc → Vm.Rows} {qLInt : List (List Int) → Vm.Rows} (hQ : EQ qIu8 qGCall qInt qGEx qGRule qGExO qGOcc qGNode qGGraphS qGGraph qGEv qGFire qLGOcc qGOccO qLInt)
include hQ
theorem oJ {k : Nat} {p0 : List GEv} {r : Bool} (hh : bO.f k p0 = some r) : ag P 59 [tA (qGEv p0)] [hA] (bA r) := by
 unfold bO.f at hh
 refine go (ts := [(2, none)]) (rm := [.own]) (pm := [.skip]) Tryz.func59 ?_
 intro Fn LW IN len cast toNat wrap add sub mul bin lt eq At set part app fz' rep nadd nmax ssize sext sget scat seq slt Wide Flat Ones Room r' post' hC hF hr hp
 cbv
 replace hh := bind_some hh
 obtain ⟨o1, hl1, hq1⟩ := hh
 refine ap hC eok mixed (bO.l0 k p0)
  (fun s18 => (⟨[(0, tA (qGEv p0)), (5, tA (qGEv p0)), (6, iA (cast (len (qGEv p0)))), (7, iA s18)], []⟩ : St))
  (fun (_ : Unit) => (⟨[(0, tA (qGEv p0))], []⟩ : St)) .ok (.exit 0)
  (i0 := _) hl1 (fun _ => rfl) ?_ ?_ ?_
 ·rintro t0 e
  refine ah ?_
  cbv
  all_goals exact J1
 rintro _ hx
 subst o1
 have hh := hq1
 cbv
 exact Eb
 rintro n s18 N1 D1 hh hN1 hD1 hQ1
 unfold bO.l0 at hh
 cbv
 refine bcs (fun f37 => ?_) (fun f37 => ?_)
 replace hh := ifT hh f37
 try rw [f37]
 cbv
 replace hh := aa hh
 obtain ⟨h38, hh⟩ := hh
 replace hh := bind_some hh
 obtain ⟨⟨e39a, e39b, e39c⟩, h40, hh⟩ := hh
 try dsimp only at hh
 refine ⟨[iA e39a, iA e39b, iA e39c], Nb h38, Gb h40, ?_⟩
 cbv
 replace hh := bind_some hh
 obtain ⟨x42, h41, hh⟩ := hh
 refine ae hF (pj hQ h41) ?_
 cbv
 replace hh := az hh
 rcases hh with ⟨b44, hh⟩ | ⟨b44, hh⟩
 have f45 : x42 = true := Tb b44
 have g := f45; cbv at g; try rw [f45]
 try rw [g]
 cbv
 refine bcs (fun f47 => ?_) (fun f47 => ?_)
 replace hh := ifT hh f47
 try rw [f47]
 cbv
 replace hh := aa hh
 obtain ⟨h48, hh⟩ := hh
 replace hh := bind_some hh
 obtain ⟨⟨e49a, e49b, e49c⟩, h50, hh⟩ := hh
 try dsimp only at hh
 refine ⟨[iA e49a, iA e49b, iA e49c], Nb h48, Gb h50, ?_⟩
 cbv
 replace hh := az hh
 rcases hh with ⟨b51, hh⟩ | ⟨b51, hh⟩
 have f52 : (lt e49b e39b) = true := Tb b51
 have g := f52; cbv at g; try rw [f52]
 try rw [g]
 cbv
 ·refine hN1 _ _ hh fun t0 e => ?_
  refine ah ?_
  cbv
  all_goals exact J1
 have f52 : (lt e49b e39b) = false := Fb b51
 have g := f52; cbv at g; try rw [f52]
 try rw [g]
 cbv
 cases hh
 have hh : some _ = some _ := hq1
 refine hQ1 _ _ ?_
 cbv
 exact Eb
 replace hh := ifF hh f47
 try rw [f47]
 cbv
 ·refine hN1 _ _ hh fun t0 e => ?_
  refine ah ?_
  cbv
  all_goals exact J1
 have f45 : x42 = false := Fb b44
 have g := f45; cbv at g; try rw [f45]
 try rw [g]
 cbv
 cases hh
 have hh : some _ = some _ := hq1
 refine hQ1 _ _ ?_
 cbv
 exact Eb
 replace hh := ifF hh f37
 try rw [f37]
 cbv
 ·refine hD1 () _ hh fun _ e => ?_
  refine ah ?_
  cbv
  all_goals exact J0

theorem lS {p0 : Int} {c0 : Int} {r : Bool} (hh : eN.f p0 c0 = some r) : ag P 226 [iA p0, .iptr [iA c0] 0] [hA, hA] (bA r) := by
 unfold eN.f at hh
 refine go (ts := [(3, none)]) (rm := [.own]) (pm := [.skip, .skip]) Tryz.func226 ?_
 intro Fn LW IN len cast toNat wrap add sub mul bin lt eq At set part app fz' rep nadd nmax ssize sext sget scat seq slt Wide Flat Ones Room r' post' hC hF hr hp
 cbv
 replace hh := bind_some hh
 obtain ⟨x2, h1, hh⟩ := hh
 refine ae hF (aR hQ h1) ?_
 cbv
 exact Eb

theorem eX {k : Nat} {g1 : Int → Option Bool} {cp1_0 : Int} (hg1 : ∀ {y0 : Int} {r : Bool}, g1 y0 = some r → ag P 226 [iA y0, .iptr [iA cp1_0] 0] [hA, hA] (bA r)) {p0 : List Int} {r : Int} (hh : bj.f g1 k p0 = some r) : ag P 150 [tA (qInt p0), .clo 226 [.iptr [iA cp1_0] 0]] [hA, hA] (iA r) := by
 unfold bj.f at hh
 refine go (ts := [(4, none)]) (rm := [.own]) (pm := [.skip, .skip]) Tryz.func150 ?_
 intro Fn LW IN len cast toNat wrap add sub mul bin lt eq At set part app fz' rep nadd nmax ssize sext sget scat seq slt Wide Flat Ones Room r' post' hC hF hr hp
 cbv
 replace hh := bind_some hh
 obtain ⟨o1, hl1, hq1⟩ := hh
 refine ap hC eok mixed (bj.l0 k g1 p0)
  (fun s11 => (⟨[(0, tA (qInt p0)), (1, .clo 226 [.iptr [iA cp1_0] 0]), (7, iA (cast (len (qInt p0)))), (8, iA s11)], []⟩ : St))
  (fun (_ : Unit) => (⟨[], []⟩ : St)) .ok (.exit 0)
  (i0 := _) hl1 (fun _ => rfl) ?_ ?_ ?_
 ·rintro t0 e
  refine ah ?_
  cbv
  all_goals exact J1
 rintro _ hx
 subst o1
 have hh := hq1
 cbv
 exact Eb
 rintro n s11 N1 D1 hh hN1 hD1 hQ1
 unfold bj.l0 at hh
 cbv
 refine bcs (fun f23 => ?_) (fun f23 => ?_)
 replace hh := ifT hh f23
 try rw [f23]
 cbv
 replace hh := aa hh
 obtain ⟨h24, hh⟩ := hh
 replace hh := bind_some hh
 obtain ⟨e25, h26, hh⟩ := hh
 refine ⟨[iA e25], Nb h24, Gb h26, ?_⟩
 cbv
 replace hh := bind_some hh
 obtain ⟨x28, h27, hh⟩ := hh
 refine ae hF (hg1 h27) ?_
 cbv
 refine bcs (fun f31 => ?_) (fun f31 => ?_)
 replace hh := ifT hh f31
 try rw [f31]
 cbv
 cases hh
 have hh : some _ = some _ := hq1
 refine hQ1 _ _ ?_
 cbv
 exact Eb
 replace hh := ifF hh f31
 try rw [f31]
 cbv
 ·refine hN1 _ _ hh fun t0 e => ?_
  refine ah ?_
  cbv
  all_goals exact J1
 replace hh := ifF hh f23
 try rw [f23]
 cbv
 ·refine hD1 () _ hh fun _ e => ?_
  refine ah ?_
  cbv
  all_goals exact J0

theorem eE {k : Nat} {g1 : Int → Option Bool} {cp1_0 : Int} (hg1 : ∀ {y0 : Int} {r : Bool}, g1 y0 = some r → ag P 226 [iA y0, .iptr [iA cp1_0] 0] [hA, hA] (bA r)) {p0 : List Int} {r : Bool} (hh : bD.f g1 k p0 = some r) : ag P 90 [tA (qInt p0), .clo 226 [.iptr [iA cp1_0] 0]] [hA, hA] (bA r) := by
 unfold bD.f at hh
 refine go (ts := [(4, none)]) (rm := [.own]) (pm := [.skip, .skip]) Tryz.func90 ?_
 intro Fn LW IN len cast toNat wrap add sub mul bin lt eq At set part app fz' rep nadd nmax ssize sext sget scat seq slt Wide Flat Ones Room r' post' hC hF hr hp
 cbv
 replace hh := bind_some hh
 obtain ⟨x2, h1, hh⟩ := hh
 refine ae hF (eX hQ (g1 := g1) hg1 h1) ?_
 cbv
 exact Eb

theorem kc {k : Nat} {p0 : GOcc} {r : Bool} (hh : cV.f k p0 = some r) : ag P 94 [.agg [iA p0.From, iA p0.To, tA (qInt p0.Ids)]] [hA] (bA r) := by
 obtain ⟨p0a, p0b, p0c⟩ := p0
 unfold cV.f at hh
 refine go (ts := [(2, none)]) (rm := [.own]) (pm := [.skip]) Tryz.func94 ?_
 intro Fn LW IN len cast toNat wrap add sub mul bin lt eq At set part app fz' rep nadd nmax ssize sext sget scat seq slt Wide Flat Ones Room r' post' hC hF hr hp
 cbv
 replace hh := bind_some hh
 obtain ⟨o1, hl1, hq1⟩ := hh
 refine ap hC eok mixed (fun n (i : Int × Int) => cV.l0 k (⟨p0a, p0b, p0c⟩ : GOcc) n i.1 i.2)
  (fun ⟨s11, s12⟩ => (⟨[(1, .mptr (1, 0) 1 0 0), (3, iA s11), (7, tA (qInt p0c)), (8, iA (cast (len (qInt p0c)))), (9, iA s12)], [((1, 0), .box 1 [iA p0a, iA p0b, tA (qInt p0c)])]⟩ : St))
  (fun (_ : Unit) => (⟨[(1, .mptr (1, 0) 1 0 0)], [((1, 0), .box 1 [iA p0a, iA p0b, tA (qInt p0c)])]⟩ : St)) .ok (.exit 0)
  (i0 := (_, _)) hl1 (fun _ => rfl) ?_ ?_ ?_
 ·rintro ⟨t0, t1⟩ e
  refine ah ?_
  cbv
  all_goals exact J2
 rintro _ hx
 subst o1
 have hh := hq1
 cbv
 replace hh := az hh
 rcases hh with ⟨b33, hh⟩ | ⟨b33, hh⟩
 have f34 : (lt p0a 1) = true := Tb b33
 have g := f34; cbv at g; try rw [f34]
 try rw [g]
 cbv
 exact Eb
 have f34 : (lt p0a 1) = false := Fb b33
 have g := f34; cbv at g; try rw [f34]
 try rw [g]
 cbv
 replace hh := bind_some hh
 obtain ⟨x36, h35, hh⟩ := hh
 refine ae hF (aR hQ h35) ?_
 cbv
 refine bcs (fun f39 => ?_) (fun f39 => ?_)
 replace hh := ifT hh f39
 try rw [f39]
 cbv
 exact Eb
 replace hh := ifF hh f39
 try rw [f39]
 cbv
 exact Eb
 rintro n ⟨s11, s12⟩ N1 D1 hh hN1 hD1 hQ1
 try dsimp only at hh
 unfold cV.l0 at hh
 cbv
 refine bcs (fun f24 => ?_) (fun f24 => ?_)
 replace hh := ifT hh f24
 try rw [f24]
 cbv
 replace hh := aa hh
 obtain ⟨h25, hh⟩ := hh
 replace hh := bind_some hh
 obtain ⟨e26, h27, hh⟩ := hh
 refine ⟨[iA e26], Nb h25, Gb h27, ?_⟩
 cbv
 replace hh := bind_some hh
 obtain ⟨x29, h28, hh⟩ := hh
 refine ae hF (aR hQ h28) ?_
 cbv
 replace hh := az hh
 rcases hh with ⟨b31, hh⟩ | ⟨b31, hh⟩
 have f32 : x29 = true := Tb b31
 have g := f32; cbv at g; try rw [f32]
 try rw [g]
 cbv
 ·refine hN1 (_, _) _ hh fun ⟨t0, t1⟩ e => ?_
  refine ah ?_
  cbv
  all_goals exact J2
 have f32 : x29 = false := Fb b31
 have g := f32; cbv at g; try rw [f32]
 try rw [g]
 cbv
 cases hh
 have hh : some _ = some _ := hq1
 refine hQ1 _ _ ?_
 cbv
 exact Eb
 replace hh := ifF hh f24
 try rw [f24]
 cbv
 ·refine hD1 () _ hh fun _ e => ?_
  refine ah ?_
  cbv
  all_goals exact J0

theorem lf {p0 : Int} {r : Bool} (hh : iH.f p0 = some r) : ag P 220 [iA p0] [hA] (bA r) := by
 unfold iH.f at hh
 refine go (ts := [(2, none)]) (rm := [.own]) (pm := [.skip]) Tryz.func220 ?_
 intro Fn LW IN len cast toNat wrap add sub mul bin lt eq At set part app fz' rep nadd nmax ssize sext sget scat seq slt Wide Flat Ones Room r' post' hC hF hr hp
 cbv
 exact Eb

theorem nZ {p0 : Int} {p1 : Int} {r : Int} (hh : jc.f p0 p1 = some r) : ag P 186 [iA p0, iA p1] [hA, hA] (iA r) := by
 unfold jc.f at hh
 refine go (ts := [(4, none)]) (rm := [.own]) (pm := [.skip, .skip]) Tryz.func186 ?_
 intro Fn LW IN len cast toNat wrap add sub mul bin lt eq At set part app fz' rep nadd nmax ssize sext sget scat seq slt Wide Flat Ones Room r' post' hC hF hr hp
 cbv
 replace hh := bind_some hh
 obtain ⟨x2, h1, hh⟩ := hh
 refine ae hF (lf hQ h1) ?_
 cbv
 replace hh := bind_some hh
 obtain ⟨x5, h4, hh⟩ := hh
 refine ae hF (lf hQ h4) ?_
 cbv
 refine bcs (fun f8 => ?_) (fun f8 => ?_)
 replace hh := ifT hh f8
 try rw [f8]
 cbv
 refine bcs (fun f10 => ?_) (fun f10 => ?_)
 replace hh := ifT hh f10
 try rw [f10]
 cbv
 exact Eb
 replace hh := ifF hh f10
 try rw [f10]
 cbv
 exact Eb
 replace hh := ifF hh f8
 try rw [f8]
 cbv
 refine bcs (fun f12 => ?_) (fun f12 => ?_)
 replace hh := ifT hh f12
 try rw [f12]
 cbv
 exact Eb
 replace hh := ifF hh f12
 try rw [f12]
 cbv
 refine bcs (fun f14 => ?_) (fun f14 => ?_)
 replace hh := ifT hh f14
 try rw [f14]
 cbv
 exact Eb
 replace hh := ifF hh f14
 try rw [f14]
 cbv
 refine bcs (fun f16 => ?_) (fun f16 => ?_)
 replace hh := ifT hh f16
 try rw [f16]
 cbv
 exact Eb
 replace hh := ifF hh f16
 try rw [f16]
 cbv
 exact Eb

theorem lB {k : Nat} {p0 : List Int} {p1 : List Int} {r : Int} (hh : cq.f k p0 p1 = some r) : ag P 133 [tA (qInt p0), tA (qInt p1)] [hA, hA] (iA r) := by
 unfold cq.f at hh
 refine go (ts := [(4, none)]) (rm := [.own]) (pm := [.skip, .skip]) Tryz.func133 ?_
 intro Fn LW IN len cast toNat wrap add sub mul bin lt eq At set part app fz' rep nadd nmax ssize sext sget scat seq slt Wide Flat Ones Room r' post' hC hF hr hp
 cbv
 replace hh := bind_some hh
 obtain ⟨o1, hl1, hq1⟩ := hh
 refine ap hC eok mixed (cq.l0 k p0 p1)
  (fun s16 => (⟨[(0, tA (qInt p0)), (1, tA (qInt p1)), (9, tA (qInt p0)), (10, iA (cast (len (qInt p0)))), (11, iA s16)], []⟩ : St))
  (fun (_ : Unit) => (⟨[(0, tA (qInt p0)), (1, tA (qInt p1))], []⟩ : St)) .ok (.exit 0)
  (i0 := _) hl1 (fun _ => rfl) ?_ ?_ ?_
 ·rintro t0 e
  refine ah ?_
  cbv
  all_goals exact J1
 rintro _ hx
 subst o1
 have hh := hq1
 cbv
 refine bcs (fun f48 => ?_) (fun f48 => ?_)
 replace hh := ifT hh f48
 try rw [f48]
 cbv
 exact Eb
 replace hh := ifF hh f48
 try rw [f48]
 cbv
 exact Eb
 rintro n s16 N1 D1 hh hN1 hD1 hQ1
 unfold cq.l0 at hh
 cbv
 refine bcs (fun f33 => ?_) (fun f33 => ?_)
 replace hh := ifT hh f33
 try rw [f33]
 cbv
 replace hh := aa hh
 obtain ⟨h34, hh⟩ := hh
 replace hh := bind_some hh
 obtain ⟨e35, h36, hh⟩ := hh
 refine ⟨[iA e35], Nb h34, Gb h36, ?_⟩
 cbv
 replace hh := az hh
 rcases hh with ⟨b37, hh⟩ | ⟨b37, hh⟩
 have f38 : (lt s16 (cast (len (qInt p1)))) = true := Tb b37
 have g := f38; cbv at g; try rw [f38]
 try rw [g]
 cbv
 replace hh := aa hh
 obtain ⟨h39, hh⟩ := hh
 replace hh := bind_some hh
 obtain ⟨e40, h41, hh⟩ := hh
 refine ⟨[iA e40], Nb h39, Gb h41, ?_⟩
 cbv
 replace hh := bind_some hh
 obtain ⟨x43, h42, hh⟩ := hh
 refine ae hF (nZ hQ h42) ?_
 cbv
 replace hh := az hh
 rcases hh with ⟨b45, hh⟩ | ⟨b45, hh⟩
 have f46 : (eq x43 0) = true := Tb b45
 have g := f46; cbv at g; try rw [f46]
 try rw [g]
 cbv
 ·refine hN1 _ _ hh fun t0 e => ?_
  refine ah ?_
  cbv
  all_goals exact J1
 have f46 : (eq x43 0) = false := Fb b45
 have g := f46; cbv at g; try rw [f46]
 try rw [g]
 cbv
 cases hh
 have hh : some _ = some _ := hq1
 refine hQ1 _ _ ?_
 cbv
 exact Eb
 have f38 : (lt s16 (cast (len (qInt p1)))) = false := Fb b37
 have g := f38; cbv at g; try rw [f38]
 try rw [g]
 cbv
 cases hh
 have hh : some _ = some _ := hq1
 refine hQ1 _ _ ?_
 cbv
 exact Eb
 replace hh := ifF hh f33
 try rw [f33]
 cbv
 ·refine hD1 () _ hh fun _ e => ?_
  refine ah ?_
  cbv
  all_goals exact J0

theorem la {p0 : Bool} {r : Int} (hh : iy.f p0 = some r) : ag P 132 [bA p0] [hA] (iA r) := by
 unfold iy.f at hh
 refine go (ts := [(2, none)]) (rm := [.own]) (pm := [.skip]) Tryz.func132 ?_
 intro Fn LW IN len cast toNat wrap add sub mul bin lt eq At set part app fz' rep nadd nmax ssize sext sget scat seq slt Wide Flat Ones Room r' post' hC hF hr hp
 cbv
 refine bcs (fun f2 => ?_) (fun f2 => ?_)
 replace hh := ifT hh f2
 try rw [f2]
 cbv
 exact Eb
 replace hh := ifF hh f2
 try rw [f2]
 cbv
 exact Eb

theorem fS {k : Nat} {p0 : GOcc} {p1 : GOcc} {r : Int} (hh : dg.f k p0 p1 = some r) : ag P 70 [.agg [iA p0.From, iA p0.To, tA (qInt p0.Ids)], .agg [iA p1.From, iA p1.To, tA (qInt p1.Ids)]] [hA, hA] (iA r) := by
 obtain ⟨p0a, p0b, p0c⟩ := p0
 obtain ⟨p1a, p1b, p1c⟩ := p1
 unfold dg.f at hh
 refine go (ts := [(4, none)]) (rm := [.own]) (pm := [.skip, .skip]) Tryz.func70 ?_
 intro Fn LW IN len cast toNat wrap add sub mul bin lt eq At set part app fz' rep nadd nmax ssize sext sget scat seq slt Wide Flat Ones Room r' post' hC hF hr hp
 cbv
 replace hh := az hh
 rcases hh with ⟨b1, hh⟩ | ⟨b1, hh⟩
 have f2 : (eq p0b p1b) = true := Tb b1
 have g := f2; cbv at g; try rw [f2]
 try rw [g]
 cbv
 replace hh := az hh
 rcases hh with ⟨b3, hh⟩ | ⟨b3, hh⟩
 have f4 : (eq p0a p1a) = true := Tb b3
 have g := f4; cbv at g; try rw [f4]
 try rw [g]
 cbv
 replace hh := bind_some hh
 obtain ⟨x6, h5, hh⟩ := hh
 refine ae hF (lB hQ h5) ?_
 cbv
 exact Eb
 have f4 : (eq p0a p1a) = false := Fb b3
 have g := f4; cbv at g; try rw [f4]
 try rw [g]
 cbv
 replace hh := bind_some hh
 obtain ⟨x9, h8, hh⟩ := hh
 refine ae hF (la hQ h8) ?_
 cbv
 exact Eb
 have f2 : (eq p0b p1b) = false := Fb b1
 have g := f2; cbv at g; try rw [f2]
 try rw [g]
 cbv
 replace hh := bind_some hh
 obtain ⟨x12, h11, hh⟩ := hh
 refine ae hF (la hQ h11) ?_
 cbv
 exact Eb

theorem nf {k : Nat} {p0 : GOcc} {p1 : GOcc} {r : Bool} (hh : ik.f k p0 p1 = some r) : ag P 46 [.agg [iA p0.From, iA p0.To, tA (qInt p0.Ids)], .agg [iA p1.From, iA p1.To, tA (qInt p1.Ids)]] [hA, hA] (bA r) := by
 obtain ⟨p0a, p0b, p0c⟩ := p0
 obtain ⟨p1a, p1b, p1c⟩ := p1
 unfold ik.f at hh
 refine go (ts := [(4, none)]) (rm := [.own]) (pm := [.skip, .skip]) Tryz.func46 ?_
 intro Fn LW IN len cast toNat wrap add sub mul bin lt eq At set part app fz' rep nadd nmax ssize sext sget scat seq slt Wide Flat Ones Room r' post' hC hF hr hp
 cbv
 replace hh := bind_some hh
 obtain ⟨x2, h1, hh⟩ := hh
 refine ae hF (fS hQ h1) ?_
 cbv
 exact Eb

theorem dn {k : Nat} {p0 : List GOcc} {r : Bool} (hh : bL.f k p0 = some r) : ag P 194 [tA (qGOcc p0)] [hA] (bA r) := by
 unfold bL.f at hh
 refine go (ts := [(2, none)]) (rm := [.own]) (pm := [.skip]) Tryz.func194 ?_
 intro Fn LW IN len cast toNat wrap add sub mul bin lt eq At set part app fz' rep nadd nmax ssize sext sget scat seq slt Wide Flat Ones Room r' post' hC hF hr hp
 cbv
 replace hh := bind_some hh
 obtain ⟨o1, hl1, hq1⟩ := hh
 refine ap hC eok mixed (bL.l0 k p0)
  (fun s21 => (⟨[(0, tA (qGOcc p0)), (5, tA (qGOcc p0)), (6, iA (cast (len (qGOcc p0)))), (7, iA s21)], []⟩ : St))
  (fun (_ : Unit) => (⟨[(0, tA (qGOcc p0))], []⟩ : St)) .ok (.exit 0)
  (i0 := _) hl1 (fun _ => rfl) ?_ ?_ ?_
 ·rintro t0 e
  refine ah ?_
  cbv
  all_goals exact J1
 rintro _ hx
 subst o1
 have hh := hq1
 cbv
 exact Eb
 rintro n s21 N1 D1 hh hN1 hD1 hQ1
 unfold bL.l0 at hh
 cbv
 refine bcs (fun f43 => ?_) (fun f43 => ?_)
 replace hh := ifT hh f43
 try rw [f43]
 cbv
 replace hh := aa hh
 obtain ⟨h44, hh⟩ := hh
 replace hh := bind_some hh
 obtain ⟨⟨e45a, e45b, e45c⟩, h46, hh⟩ := hh
 try dsimp only at hh
 refine ⟨[iA e45a, iA e45b, tA (qInt e45c)], Nb h44, Gb h46, ?_⟩
 cbv
 replace hh := bind_some hh
 obtain ⟨x48, h47, hh⟩ := hh
 refine ae hF (kc hQ h47) ?_
 cbv
 replace hh := az hh
 rcases hh with ⟨b50, hh⟩ | ⟨b50, hh⟩
 have f51 : x48 = true := Tb b50
 have g := f51; cbv at g; try rw [f51]
 try rw [g]
 cbv
 refine bcs (fun f53 => ?_) (fun f53 => ?_)
 replace hh := ifT hh f53
 try rw [f53]
 cbv
 replace hh := aa hh
 obtain ⟨h54, hh⟩ := hh
 replace hh := bind_some hh
 obtain ⟨⟨e55a, e55b, e55c⟩, h56, hh⟩ := hh
 try dsimp only at hh
 refine ⟨[iA e55a, iA e55b, tA (qInt e55c)], Nb h54, Gb h56, ?_⟩
 cbv
 replace hh := bind_some hh
 obtain ⟨x58, h57, hh⟩ := hh
 refine ae hF (nf hQ h57) ?_
 cbv
 replace hh := az hh
 rcases hh with ⟨b60, hh⟩ | ⟨b60, hh⟩
 have f61 : x58 = true := Tb b60
 have g := f61; cbv at g; try rw [f61]
 try rw [g]
 cbv
 ·refine hN1 _ _ hh fun t0 e => ?_
  refine ah ?_
  cbv
  all_goals exact J1
 have f61 : x58 = false := Fb b60
 have g := f61; cbv at g; try rw [f61]
 try rw [g]
 cbv
 cases hh
 have hh : some _ = some _ := hq1
 refine hQ1 _ _ ?_
 cbv
 exact Eb
 replace hh := ifF hh f53
 try rw [f53]
 cbv
 ·refine hN1 _ _ hh fun t0 e => ?_
  refine ah ?_
  cbv
  all_goals exact J1
 have f51 : x48 = false := Fb b50
 have g := f51; cbv at g; try rw [f51]
 try rw [g]
 cbv
 cases hh
 have hh : some _ = some _ := hq1
 refine hQ1 _ _ ?_
 cbv
 exact Eb
 replace hh := ifF hh f43
 try rw [f43]
 cbv
 ·refine hD1 () _ hh fun _ e => ?_
  refine ah ?_
  cbv
  all_goals exact J0

theorem jW {k : Nat} {p0 : GPair} {r : Bool} (hh : gd.f k p0 = some r) : ag P 227 [.agg [tA (qGOcc p0.Left), tA (qGOcc p0.Right)]] [hA] (bA r) := by
 obtain ⟨p0a, p0b⟩ := p0
 unfold gd.f at hh
 refine go (ts := [(2, none)]) (rm := [.own]) (pm := [.skip]) Tryz.func227 ?_
 intro Fn LW IN len cast toNat wrap add sub mul bin lt eq At set part app fz' rep nadd nmax ssize sext sget scat seq slt Wide Flat Ones Room r' post' hC hF hr hp
 cbv
 replace hh := bind_some hh
 obtain ⟨x2, h1, hh⟩ := hh
 refine ae hF (dn hQ h1) ?_
 cbv
 refine bcs (fun f5 => ?_) (fun f5 => ?_)
 replace hh := ifT hh f5
 try rw [f5]
 cbv
 replace hh := bind_some hh
 obtain ⟨x7, h6, hh⟩ := hh
 refine ae hF (dn hQ h6) ?_
 cbv
 exact Eb
 replace hh := ifF hh f5
 try rw [f5]
 cbv
 exact Eb

theorem jX {k : Nat} {p0 : GSpan} {r : Bool} (hh : gb.f k p0 = some r) : ag P 228 [.agg [tA (qGOcc p0.Left), tA (qGOcc p0.Mid)]] [hA] (bA r) := by
 obtain ⟨p0a, p0b⟩ := p0
 unfold gb.f at hh
 refine go (ts := [(2, none)]) (rm := [.own]) (pm := [.skip]) Tryz.func228 ?_
 intro Fn LW IN len cast toNat wrap add sub mul bin lt eq At set part app fz' rep nadd nmax ssize sext sget scat seq slt Wide Flat Ones Room r' post' hC hF hr hp
 cbv
 replace hh := bind_some hh
 obtain ⟨x2, h1, hh⟩ := hh
 refine ae hF (dn hQ h1) ?_
 cbv
 refine bcs (fun f5 => ?_) (fun f5 => ?_)
 replace hh := ifT hh f5
 try rw [f5]
 cbv
 replace hh := bind_some hh
 obtain ⟨x7, h6, hh⟩ := hh
 refine ae hF (dn hQ h6) ?_
 cbv
 exact Eb
 replace hh := ifF hh f5
 try rw [f5]
 cbv
 exact Eb

theorem hG {p0 : GOcc} {c0 : Int} {r : Bool} (hh : da.f p0 c0 = some r) : ag P 229 [.agg [iA p0.From, iA p0.To, tA (qInt p0.Ids)], .iptr [iA c0] 0] [hA, hA] (bA r) := by
 obtain ⟨p0a, p0b, p0c⟩ := p0
 unfold da.f at hh
 refine go (ts := [(3, none)]) (rm := [.own]) (pm := [.skip, .skip]) Tryz.func229 ?_
 intro Fn LW IN len cast toNat wrap add sub mul bin lt eq At set part app fz' rep nadd nmax ssize sext sget scat seq slt Wide Flat Ones Room r' post' hC hF hr hp
 cbv
 exact Eb

theorem ek {k : Nat} {g1 : GOcc → Option Bool} {cp1_0 : Int} (hg1 : ∀ {y0 : GOcc} {r : Bool}, g1 y0 = some r → ag P 229 [.agg [iA y0.From, iA y0.To, tA (qInt y0.Ids)], .iptr [iA cp1_0] 0] [hA, hA] (bA r)) {p0 : List GOcc} {r : Int} (hh : aF.f g1 k p0 = some r) : ag P 230 [tA (qGOcc p0), .clo 229 [.iptr [iA cp1_0] 0]] [hA, hA] (iA r) := by
 unfold aF.f at hh
 refine go (ts := [(4, none)]) (rm := [.own]) (pm := [.skip, .skip]) Tryz.func230 ?_
 intro Fn LW IN len cast toNat wrap add sub mul bin lt eq At set part app fz' rep nadd nmax ssize sext sget scat seq slt Wide Flat Ones Room r' post' hC hF hr hp
 cbv
 replace hh := bind_some hh
 obtain ⟨o1, hl1, hq1⟩ := hh
 refine ap hC eok mixed (aF.l0 k g1 p0)
  (fun s11 => (⟨[(0, tA (qGOcc p0)), (1, .clo 229 [.iptr [iA cp1_0] 0]), (7, iA (cast (len (qGOcc p0)))), (8, iA s11)], []⟩ : St))
  (fun (_ : Unit) => (⟨[], []⟩ : St)) .ok (.exit 0)
  (i0 := _) hl1 (fun _ => rfl) ?_ ?_ ?_
 ·rintro t0 e
  refine ah ?_
  cbv
  all_goals exact J1
 rintro _ hx
 subst o1
 have hh := hq1
 cbv
 exact Eb
 rintro n s11 N1 D1 hh hN1 hD1 hQ1
 unfold aF.l0 at hh
 cbv
 refine bcs (fun f23 => ?_) (fun f23 => ?_)
 replace hh := ifT hh f23
 try rw [f23]
 cbv
 replace hh := aa hh
 obtain ⟨h24, hh⟩ := hh
 replace hh := bind_some hh
 obtain ⟨⟨e25a, e25b, e25c⟩, h26, hh⟩ := hh
 try dsimp only at hh
 refine ⟨[iA e25a, iA e25b, tA (qInt e25c)], Nb h24, Gb h26, ?_⟩
 cbv
 replace hh := bind_some hh
 obtain ⟨x28, h27, hh⟩ := hh
 refine ae hF (hg1 h27) ?_
 cbv
 refine bcs (fun f31 => ?_) (fun f31 => ?_)
 replace hh := ifT hh f31
 try rw [f31]
 cbv
 cases hh
 have hh : some _ = some _ := hq1
 refine hQ1 _ _ ?_
 cbv
 exact Eb
 replace hh := ifF hh f31
 try rw [f31]
 cbv
 ·refine hN1 _ _ hh fun t0 e => ?_
  refine ah ?_
  cbv
  all_goals exact J1
 replace hh := ifF hh f23
 try rw [f23]
 cbv
 ·refine hD1 () _ hh fun _ e => ?_
  refine ah ?_
  cbv
  all_goals exact J0

theorem cx {k : Nat} {g1 : GOcc → Option Bool} {cp1_0 : Int} (hg1 : ∀ {y0 : GOcc} {r : Bool}, g1 y0 = some r → ag P 229 [.agg [iA y0.From, iA y0.To, tA (qInt y0.Ids)], .iptr [iA cp1_0] 0] [hA, hA] (bA r)) {p0 : List GOcc} {r : Bool} (hh : aU.f g1 k p0 = some r) : ag P 192 [tA (qGOcc p0), .clo 229 [.iptr [iA cp1_0] 0]] [hA, hA] (bA r) := by
 unfold aU.f at hh
 refine go (ts := [(4, none)]) (rm := [.own]) (pm := [.skip, .skip]) Tryz.func192 ?_
 intro Fn LW IN len cast toNat wrap add sub mul bin lt eq At set part app fz' rep nadd nmax ssize sext sget scat seq slt Wide Flat Ones Room r' post' hC hF hr hp
 cbv
 replace hh := bind_some hh
 obtain ⟨x2, h1, hh⟩ := hh
 refine ae hF (ek hQ (g1 := g1) hg1 h1) ?_
 cbv
 exact Eb

theorem mV {k : Nat} {p0 : GNode} {p1 : Int} {p2 : Int} {r : Bool} (hh : ib.f k p0 p1 p2 = some r) : ag P 191 [.agg [iA p0.Kind, iA p0.Sym, iA p0.N, tA (qInt p0.Kids), tA (qGOcc p0.Pair.Left), tA (qGOcc p0.Pair.Right), tA (qGOcc p0.Span.Left), tA (qGOcc p0.Span.Mid), tA (qGOcc p0.Due), iA p0.Many], iA p1, iA p2] [hA, hA, hA] (bA r) := by
 obtain ⟨p0a, p0b, p0c, p0d, ⟨p0e, p0f⟩, ⟨p0g, p0h⟩, p0i, p0j⟩ := p0
 unfold ib.f at hh
 refine go (ts := [(6, none)]) (rm := [.own]) (pm := [.skip, .skip, .skip]) Tryz.func191 ?_
 intro Fn LW IN len cast toNat wrap add sub mul bin lt eq At set part app fz' rep nadd nmax ssize sext sget scat seq slt Wide Flat Ones Room r' post' hC hF hr hp
 cbv
 replace hh := bind_some hh
 obtain ⟨x2, h1, hh⟩ := hh
 refine ae hF (j3 hQ h1) ?_
 cbv
 replace hh := az hh
 rcases hh with ⟨b4, hh⟩ | ⟨b4, hh⟩
 have f5 : x2 = true := Tb b4
 have g := f5; cbv at g; try rw [f5]
 try rw [g]
 cbv
 replace hh := bind_some hh
 obtain ⟨x7, h6, hh⟩ := hh
 refine ae hF (lh hQ h6) ?_
 cbv
 replace hh := az hh
 rcases hh with ⟨b9, hh⟩ | ⟨b9, hh⟩
 have f10 : (eq (cast (len (qInt p0d))) x7) = true := Tb b9
 have g := f10; cbv at g; try rw [f10]
 try rw [g]
 cbv
 replace hh := bind_some hh
 obtain ⟨x12, h11, hh⟩ := hh
 refine ae hF (eE hQ (g1 := fun y0 => eN.f y0 p1) (fun h => lS hQ h) h11) ?_
 cbv
 refine bcs (fun f15 => ?_) (fun f15 => ?_)
 replace hh := ifT hh f15
 try rw [f15]
 cbv
 exact Eb
 replace hh := ifF hh f15
 try rw [f15]
 cbv
 refine bcs (fun f17 => ?_) (fun f17 => ?_)
 replace hh := ifT hh f17
 try rw [f17]
 cbv
 replace hh := bind_some hh
 obtain ⟨x19, h18, hh⟩ := hh
 refine ae hF (aR hQ h18) ?_
 cbv
 replace hh := az hh
 rcases hh with ⟨b21, hh⟩ | ⟨b21, hh⟩
 have f22 : x19 = true := Tb b21
 have g := f22; cbv at g; try rw [f22]
 try rw [g]
 cbv
 first | rw [f17] | (have g := f17; cbv at g; rw [g])
 cbv
 replace hh := bind_some hh
 obtain ⟨x24, h23, hh⟩ := hh
 refine ae hF (ez hQ h23) ?_
 cbv
 refine bcs (fun f27 => ?_) (fun f27 => ?_)
 replace hh := ifT hh f27
 try rw [f27]
 cbv
 replace hh := bind_some hh
 obtain ⟨x29, h28, hh⟩ := hh
 refine ae hF (aR hQ h28) ?_
 cbv
 refine bcs (fun f32 => ?_) (fun f32 => ?_)
 replace hh := ifT hh f32
 try rw [f32]
 cbv
 replace hh := bind_some hh
 obtain ⟨x34, h33, hh⟩ := hh
 refine ae hF (jW hQ h33) ?_
 cbv
 refine bcs (fun f37 => ?_) (fun f37 => ?_)
 replace hh := ifT hh f37
 try rw [f37]
 cbv
 replace hh := bind_some hh
 obtain ⟨x39, h38, hh⟩ := hh
 refine ae hF (jX hQ h38) ?_
 cbv
 refine bcs (fun f42 => ?_) (fun f42 => ?_)
 replace hh := ifT hh f42
 try rw [f42]
 cbv
 replace hh := bind_some hh
 obtain ⟨x44, h43, hh⟩ := hh
 refine ae hF (dn hQ h43) ?_
 cbv
 refine bcs (fun f47 => ?_) (fun f47 => ?_)
 replace hh := ifT hh f47
 try rw [f47]
 cbv
 replace hh := bind_some hh
 obtain ⟨x49, h48, hh⟩ := hh
 refine ae hF (cx hQ (g1 := fun y0 => da.f y0 p2) (fun h => hG hQ h) h48) ?_
 cbv
 exact Eb
 replace hh := ifF hh f47
 try rw [f47]
 cbv
 exact Eb
 replace hh := ifF hh f42
 try rw [f42]
 cbv
 exact Eb
 replace hh := ifF hh f37
 try rw [f37]
 cbv
 exact Eb
 replace hh := ifF hh f32
 try rw [f32]
 cbv
 exact Eb
 replace hh := ifF hh f27
 try rw [f27]
 cbv
 exact Eb
 have f22 : x19 = false := Fb b21
 have g := f22; cbv at g; try rw [f22]
 try rw [g]
 cbv
 exact Eb
 replace hh := ifF hh f17
 try rw [f17]
 cbv
 first | rw [f17] | (have g := f17; cbv at g; rw [g])
 cbv
 replace hh := az hh
 rcases hh with ⟨b51, hh⟩ | ⟨b51, hh⟩
 have f52 : (eq p0c 0) = true := Tb b51
 have g := f52; cbv at g; try rw [f52]
 try rw [g]
 cbv
 refine bcs (fun f54 => ?_) (fun f54 => ?_)
 replace hh := ifT hh f54
 try rw [f54]
 cbv
 exact Eb
 replace hh := ifF hh f54
 try rw [f54]
 cbv
 replace hh := bind_some hh
 obtain ⟨x56, h55, hh⟩ := hh
 refine ae hF (ez hQ h55) ?_
 cbv
 refine bcs (fun f59 => ?_) (fun f59 => ?_)
 replace hh := ifT hh f59
 try rw [f59]
 cbv
 replace hh := bind_some hh
 obtain ⟨x61, h60, hh⟩ := hh
 refine ae hF (aR hQ h60) ?_
 cbv
 refine bcs (fun f64 => ?_) (fun f64 => ?_)
 replace hh := ifT hh f64
 try rw [f64]
 cbv
 replace hh := bind_some hh
 obtain ⟨x66, h65, hh⟩ := hh
 refine ae hF (jW hQ h65) ?_
 cbv
 refine bcs (fun f69 => ?_) (fun f69 => ?_)
 replace hh := ifT hh f69
 try rw [f69]
 cbv
 replace hh := bind_some hh
 obtain ⟨x71, h70, hh⟩ := hh
 refine ae hF (jX hQ h70) ?_
 cbv
 refine bcs (fun f74 => ?_) (fun f74 => ?_)
 replace hh := ifT hh f74
 try rw [f74]
 cbv
 replace hh := bind_some hh
 obtain ⟨x76, h75, hh⟩ := hh
 refine ae hF (dn hQ h75) ?_
 cbv
 refine bcs (fun f79 => ?_) (fun f79 => ?_)
 replace hh := ifT hh f79
 try rw [f79]
 cbv
 replace hh := bind_some hh
 obtain ⟨x81, h80, hh⟩ := hh
 refine ae hF (cx hQ (g1 := fun y0 => da.f y0 p2) (fun h => hG hQ h) h80) ?_
 cbv
 exact Eb
 replace hh := ifF hh f79
 try rw [f79]
 cbv
 exact Eb
 replace hh := ifF hh f74
 try rw [f74]
 cbv
 exact Eb
 replace hh := ifF hh f69
 try rw [f69]
 cbv
 exact Eb
 replace hh := ifF hh f64
 try rw [f64]
 cbv
 exact Eb
 replace hh := ifF hh f59
 try rw [f59]
 cbv
 exact Eb
 have f52 : (eq p0c 0) = false := Fb b51
 have g := f52; cbv at g; try rw [f52]
 try rw [g]
 cbv
 exact Eb
 have f10 : (eq (cast (len (qInt p0d))) x7) = false := Fb b9
 have g := f10; cbv at g; try rw [f10]
 try rw [g]
 cbv
 exact Eb
 have f5 : x2 = false := Fb b4
 have g := f5; cbv at g; try rw [f5]
 try rw [g]
 cbv
 exact Eb

theorem mZ {k : Nat} {p0 : GGraph} {r : Bool} (hh : cN.f k p0 = some r) : ag P 146 [.agg [iA p0.Mode, tA (qGNode p0.Nodes), iA p0.Seen, iA p0.Now, bA p0.Full]] [hA] (bA r) := by
 obtain ⟨p0a, p0b, p0c, p0d, p0e⟩ := p0
 unfold cN.f at hh
 refine go (ts := [(2, none)]) (rm := [.own]) (pm := [.skip]) Tryz.func146 ?_
 intro Fn LW IN len cast toNat wrap add sub mul bin lt eq At set part app fz' rep nadd nmax ssize sext sget scat seq slt Wide Flat Ones Room r' post' hC hF hr hp
 cbv
 replace hh := bind_some hh
 obtain ⟨o1, hl1, hq1⟩ := hh
 refine ap hC eok mixed (cN.l0 k (⟨p0a, p0b, p0c, p0d, p0e⟩ : GGraph))
  (fun s11 => (⟨[(1, .mptr (1, 0) 1 0 0), (6, tA (qGNode p0b)), (7, iA (cast (len (qGNode p0b)))), (8, iA s11)], [((1, 0), .box 1 [iA p0a, tA (qGNode p0b), iA p0c, iA p0d, bA p0e])]⟩ : St))
  (fun (_ : Unit) => (⟨[(1, .mptr (1, 0) 1 0 0)], [((1, 0), .box 1 [iA p0a, tA (qGNode p0b), iA p0c, iA p0d, bA p0e])]⟩ : St)) .ok (.exit 0)
  (i0 := _) hl1 (fun _ => rfl) ?_ ?_ ?_
 ·rintro t0 e
  refine ah ?_
  cbv
  all_goals exact J1
 rintro _ hx
 subst o1
 have hh := hq1
 cbv
 replace hh := bind_some hh
 obtain ⟨x33, h32, hh⟩ := hh
 refine ae hF (gz hQ h32) ?_
 cbv
 refine bcs (fun f36 => ?_) (fun f36 => ?_)
 replace hh := ifT hh f36
 try rw [f36]
 cbv
 replace hh := bind_some hh
 obtain ⟨x38, h37, hh⟩ := hh
 refine ae hF (aR hQ h37) ?_
 cbv
 refine bcs (fun f41 => ?_) (fun f41 => ?_)
 replace hh := ifT hh f41
 try rw [f41]
 cbv
 replace hh := bind_some hh
 obtain ⟨x43, h42, hh⟩ := hh
 refine ae hF (aR hQ h42) ?_
 cbv
 refine bcs (fun f46 => ?_) (fun f46 => ?_)
 replace hh := ifT hh f46
 try rw [f46]
 cbv
 replace hh := bind_some hh
 obtain ⟨x48, h47, hh⟩ := hh
 refine ae hF (aR hQ h47) ?_
 cbv
 exact Eb
 replace hh := ifF hh f46
 try rw [f46]
 cbv
 exact Eb
 replace hh := ifF hh f41
 try rw [f41]
 cbv
 exact Eb
 replace hh := ifF hh f36
 try rw [f36]
 cbv
 exact Eb
 rintro n s11 N1 D1 hh hN1 hD1 hQ1
 unfold cN.l0 at hh
 cbv
 refine bcs (fun f23 => ?_) (fun f23 => ?_)
 replace hh := ifT hh f23
 try rw [f23]
 cbv
 replace hh := aa hh
 obtain ⟨h24, hh⟩ := hh
 replace hh := bind_some hh
 obtain ⟨⟨e25a, e25b, e25c, e25d, ⟨e25e, e25f⟩, ⟨e25g, e25h⟩, e25i, e25j⟩, h26, hh⟩ := hh
 try dsimp only at hh
 refine ⟨[iA e25a, iA e25b, iA e25c, tA (qInt e25d), tA (qGOcc e25e), tA (qGOcc e25f), tA (qGOcc e25g), tA (qGOcc e25h), tA (qGOcc e25i), iA e25j], Nb h24, Gb h26, ?_⟩
 cbv
 replace hh := bind_some hh
 obtain ⟨x28, h27, hh⟩ := hh
 refine ae hF (mV hQ h27) ?_
 cbv
 replace hh := az hh
 rcases hh with ⟨b30, hh⟩ | ⟨b30, hh⟩
 have f31 : x28 = true := Tb b30
 have g := f31; cbv at g; try rw [f31]
 try rw [g]
 cbv
 ·refine hN1 _ _ hh fun t0 e => ?_
  refine ah ?_
  cbv
  all_goals exact J1
 have f31 : x28 = false := Fb b30
 have g := f31; cbv at g; try rw [f31]
 try rw [g]
 cbv
 cases hh
 have hh : some _ = some _ := hq1
 refine hQ1 _ _ ?_
 cbv
 exact Eb
 replace hh := ifF hh f23
 try rw [f23]
 cbv
 ·refine hD1 () _ hh fun _ e => ?_
  refine ah ?_
  cbv
  all_goals exact J0

theorem mK {p0 : List GEv} {r : Int} (hh : fp.f p0 = some r) : ag P 142 [tA (qGEv p0)] [hA] (iA r) := by
 unfold fp.f at hh
 refine go (ts := [(2, none)]) (rm := [.own]) (pm := [.skip]) Tryz.func142 ?_
 intro Fn LW IN len cast toNat wrap add sub mul bin lt eq At set part app fz' rep nadd nmax ssize sext sget scat seq slt Wide Flat Ones Room r' post' hC hF hr hp
 cbv
 refine bcs (fun f2 => ?_) (fun f2 => ?_)
 replace hh := ifT hh f2
 try rw [f2]
 cbv
 exact Eb
 replace hh := ifF hh f2
 try rw [f2]
 cbv
 replace hh := aa hh
 obtain ⟨h3, hh⟩ := hh
 replace hh := bind_some hh
 obtain ⟨⟨e4a, e4b, e4c⟩, h5, hh⟩ := hh
 try dsimp only at hh
 refine ⟨[iA e4a, iA e4b, iA e4c], Nb h3, Gb h5, ?_⟩
 cbv
 exact Eb
theorem nU {p0 : List GEv} {r : Int} (hh : fp.f p0 = some r) : ag P 142 [oA 3 (qGEv p0)] [oA 3 (qGEv p0)] (iA r) := by
  cases hQ; exact (mK .mk hh).lend (rfl) (.lend (congrArg A.tree (oX _).symm) .nil)

theorem fH {p0 : GOcc} {r : Int} (hh : ee.f p0 = some r) : ag P 95 [.agg [iA p0.From, iA p0.To, tA (qInt p0.Ids)]] [hA] (iA r) := by
 obtain ⟨p0a, p0b, p0c⟩ := p0
 unfold ee.f at hh
 refine go (ts := [(2, none)]) (rm := [.own]) (pm := [.skip]) Tryz.func95 ?_
 intro Fn LW IN len cast toNat wrap add sub mul bin lt eq At set part app fz' rep nadd nmax ssize sext sget scat seq slt Wide Flat Ones Room r' post' hC hF hr hp
 cbv
 replace hh := aa hh
 obtain ⟨h1, hh⟩ := hh
 try dsimp only at h1
 replace hh := bind_some hh
 obtain ⟨e2, h3, hh⟩ := hh
 refine ⟨[iA e2], Nb h1, Gb h3, ?_⟩
 cbv
 exact Eb

theorem kg {p0 : GOcc} {c0 : GEng} {r : Bool} (hh : dZ.f p0 c0 = some r) : ag P 193 [.agg [iA p0.From, iA p0.To, tA (qInt p0.Ids)], .iptr [tA (qGRule c0.Rules), tA (qGGraph c0.Graphs), tA (qGEv c0.Events), tA (qInt c0.Keys), tA (qGFire c0.Fired)] 0] [hA, hA] (bA r) := by
 obtain ⟨p0a, p0b, p0c⟩ := p0
 obtain ⟨c0a, c0b, c0c, c0d, c0e⟩ := c0
 unfold dZ.f at hh
 refine go (ts := [(3, none)]) (rm := [.own]) (pm := [.skip, .skip]) Tryz.func193 ?_
 intro Fn LW IN len cast toNat wrap add sub mul bin lt eq At set part app fz' rep nadd nmax ssize sext sget scat seq slt Wide Flat Ones Room r' post' hC hF hr hp
 cbv
 replace hh := bind_some hh
 obtain ⟨x2, h1, hh⟩ := hh
 refine ae hF (fH hQ h1) ?_
 cbv
 exact Eb

theorem ef {k : Nat} {g1 : GOcc → Option Bool} {cp1_0 : GEng} (hg1 : ∀ {y0 : GOcc} {r : Bool}, g1 y0 = some r → ag P 193 [.agg [iA y0.From, iA y0.To, tA (qInt y0.Ids)], .iptr [tA (qGRule cp1_0.Rules), tA (qGGraph cp1_0.Graphs), tA (qGEv cp1_0.Events), tA (qInt cp1_0.Keys), tA (qGFire cp1_0.Fired)] 0] [hA, hA] (bA r)) {p0 : List GOcc} {r : Int} (hh : aF.f g1 k p0 = some r) : ag P 230 [tA (qGOcc p0), .clo 193 [.iptr [tA (qGRule cp1_0.Rules), tA (qGGraph cp1_0.Graphs), tA (qGEv cp1_0.Events), tA (qInt cp1_0.Keys), tA (qGFire cp1_0.Fired)] 0]] [hA, hA] (iA r) := by
 obtain ⟨cp1_0a, cp1_0b, cp1_0c, cp1_0d, cp1_0e⟩ := cp1_0
 unfold aF.f at hh
 refine go (ts := [(4, none)]) (rm := [.own]) (pm := [.skip, .skip]) Tryz.func230 ?_
 intro Fn LW IN len cast toNat wrap add sub mul bin lt eq At set part app fz' rep nadd nmax ssize sext sget scat seq slt Wide Flat Ones Room r' post' hC hF hr hp
 cbv
 replace hh := bind_some hh
 obtain ⟨o1, hl1, hq1⟩ := hh
 refine ap hC eok mixed (aF.l0 k g1 p0)
  (fun s11 => (⟨[(0, tA (qGOcc p0)), (1, .clo 193 [.iptr [tA (qGRule cp1_0a), tA (qGGraph cp1_0b), tA (qGEv cp1_0c), tA (qInt cp1_0d), tA (qGFire cp1_0e)] 0]), (7, iA (cast (len (qGOcc p0)))), (8, iA s11)], []⟩ : St))
  (fun (_ : Unit) => (⟨[], []⟩ : St)) .ok (.exit 0)
  (i0 := _) hl1 (fun _ => rfl) ?_ ?_ ?_
 ·rintro t0 e
  refine ah ?_
  cbv
  all_goals exact J1
 rintro _ hx
 subst o1
 have hh := hq1
 cbv
 exact Eb
 rintro n s11 N1 D1 hh hN1 hD1 hQ1
 unfold aF.l0 at hh
 cbv
 refine bcs (fun f23 => ?_) (fun f23 => ?_)
 replace hh := ifT hh f23
 try rw [f23]
 cbv
 replace hh := aa hh
 obtain ⟨h24, hh⟩ := hh
 replace hh := bind_some hh
 obtain ⟨⟨e25a, e25b, e25c⟩, h26, hh⟩ := hh
 try dsimp only at hh
 refine ⟨[iA e25a, iA e25b, tA (qInt e25c)], Nb h24, Gb h26, ?_⟩
 cbv
 replace hh := bind_some hh
 obtain ⟨x28, h27, hh⟩ := hh
 refine ae hF (hg1 h27) ?_
 cbv
 refine bcs (fun f31 => ?_) (fun f31 => ?_)
 replace hh := ifT hh f31
 try rw [f31]
 cbv
 cases hh
 have hh : some _ = some _ := hq1
 refine hQ1 _ _ ?_
 cbv
 exact Eb
 replace hh := ifF hh f31
 try rw [f31]
 cbv
 ·refine hN1 _ _ hh fun t0 e => ?_
  refine ah ?_
  cbv
  all_goals exact J1
 replace hh := ifF hh f23
 try rw [f23]
 cbv
 ·refine hD1 () _ hh fun _ e => ?_
  refine ah ?_
  cbv
  all_goals exact J0

theorem dH {k : Nat} {g1 : GOcc → Option Bool} {cp1_0 : GEng} (hg1 : ∀ {y0 : GOcc} {r : Bool}, g1 y0 = some r → ag P 193 [.agg [iA y0.From, iA y0.To, tA (qInt y0.Ids)], .iptr [tA (qGRule cp1_0.Rules), tA (qGGraph cp1_0.Graphs), tA (qGEv cp1_0.Events), tA (qInt cp1_0.Keys), tA (qGFire cp1_0.Fired)] 0] [hA, hA] (bA r)) {p0 : List GOcc} {r : Bool} (hh : aU.f g1 k p0 = some r) : ag P 192 [tA (qGOcc p0), .clo 193 [.iptr [tA (qGRule cp1_0.Rules), tA (qGGraph cp1_0.Graphs), tA (qGEv cp1_0.Events), tA (qInt cp1_0.Keys), tA (qGFire cp1_0.Fired)] 0]] [hA, hA] (bA r) := by
 obtain ⟨cp1_0a, cp1_0b, cp1_0c, cp1_0d, cp1_0e⟩ := cp1_0
 unfold aU.f at hh
 refine go (ts := [(4, none)]) (rm := [.own]) (pm := [.skip, .skip]) Tryz.func192 ?_
 intro Fn LW IN len cast toNat wrap add sub mul bin lt eq At set part app fz' rep nadd nmax ssize sext sget scat seq slt Wide Flat Ones Room r' post' hC hF hr hp
 cbv
 replace hh := bind_some hh
 obtain ⟨x2, h1, hh⟩ := hh
 refine ae hF (ef hQ (g1 := g1) hg1 h1) ?_
 cbv
 exact Eb

theorem lM {k : Nat} {p0 : GEng} {p1 : List (List GOcc)} {r : Bool} (hh : bX.f k p0 p1 = some r) : ag P 149 [.agg [tA (qGRule p0.Rules), tA (qGGraph p0.Graphs), tA (qGEv p0.Events), tA (qInt p0.Keys), tA (qGFire p0.Fired)], tA (qLGOcc p1)] [hA, hA] (bA r) := by
 obtain ⟨p0a, p0b, p0c, p0d, p0e⟩ := p0
 unfold bX.f at hh
 refine go (ts := [(4, none)]) (rm := [.own]) (pm := [.skip, .skip]) Tryz.func149 ?_
 intro Fn LW IN len cast toNat wrap add sub mul bin lt eq At set part app fz' rep nadd nmax ssize sext sget scat seq slt Wide Flat Ones Room r' post' hC hF hr hp
 cbv
 replace hh := bind_some hh
 obtain ⟨o1, hl1, hq1⟩ := hh
 refine ap hC eok mixed (bX.l0 k (⟨p0a, p0b, p0c, p0d, p0e⟩ : GEng) p1)
  (fun s11 => (⟨[(2, .mptr (2, 0) 1 0 0), (7, tA (qLGOcc p1)), (8, iA (cast (len (qLGOcc p1)))), (9, iA s11)], [((2, 0), .fbox 1 [tA (qGRule p0a), tA (qGGraph p0b), tA (qGEv p0c), tA (qInt p0d), tA (qGFire p0e)])]⟩ : St))
  (fun (_ : Unit) => (⟨[], []⟩ : St)) .ok (.exit 0)
  (i0 := _) hl1 (fun _ => rfl) ?_ ?_ ?_
 ·rintro t0 e
  refine ah ?_
  cbv
  all_goals exact J1
 rintro _ hx
 subst o1
 have hh := hq1
 cbv
 exact Eb
 rintro n s11 N1 D1 hh hN1 hD1 hQ1
 unfold bX.l0 at hh
 cbv
 refine bcs (fun f23 => ?_) (fun f23 => ?_)
 replace hh := ifT hh f23
 try rw [f23]
 cbv
 replace hh := aa hh
 obtain ⟨h24, hh⟩ := hh
 replace hh := bind_some hh
 obtain ⟨e25, h26, hh⟩ := hh
 refine ⟨[tA (qGOcc e25)], Nb h24, Gb h26, ?_⟩
 cbv
 replace hh := bind_some hh
 obtain ⟨x28, h27, hh⟩ := hh
 refine ae hF (dH hQ (g1 := fun y0 => dZ.f y0 ((⟨p0a, p0b, p0c, p0d, p0e⟩ : GEng))) (fun h => kg hQ h) h27) ?_
 cbv
 refine bcs (fun f31 => ?_) (fun f31 => ?_)
 replace hh := ifT hh f31
 try rw [f31]
 cbv
 cases hh
 have hh : some _ = some _ := hq1
 refine hQ1 _ _ ?_
 cbv
 exact Eb
 replace hh := ifF hh f31
 try rw [f31]
 cbv
 ·refine hN1 _ _ hh fun t0 e => ?_
  refine ah ?_
  cbv
  all_goals exact J1
 replace hh := ifF hh f23
 try rw [f23]
 cbv
 ·refine hD1 () _ hh fun _ e => ?_
  refine ah ?_
  cbv
  all_goals exact J0
theorem jQ {k : Nat} {p0 : GEng} {p1 : List (List GOcc)} {r : Bool} (hh : bX.f k p0 p1 = some r) : ag P 149 [.agg [tA (qGRule p0.Rules), tA (qGGraph p0.Graphs), tA (qGEv p0.Events), tA (qInt p0.Keys), tA (qGFire p0.Fired)], oA 1 (qLGOcc p1)] [hA, oA 1 (qLGOcc p1)] (bA r) := by
  cases hQ; exact (lM .mk hh).lend (rfl) (.same rfl (.lend (congrArg A.tree (l8 _).symm) .nil))

theorem jO {k : Nat} {p0 : GNode} {c0 : GEng} {r : Bool} (hh : dr.f k p0 c0 = some r) : ag P 148 [.agg [iA p0.Kind, iA p0.Sym, iA p0.N, tA (qInt p0.Kids), tA (qGOcc p0.Pair.Left), tA (qGOcc p0.Pair.Right), tA (qGOcc p0.Span.Left), tA (qGOcc p0.Span.Mid), tA (qGOcc p0.Due), iA p0.Many], .iptr [tA (qGRule c0.Rules), tA (qGGraph c0.Graphs), tA (qGEv c0.Events), tA (qInt c0.Keys), tA (qGFire c0.Fired)] 0] [hA, hA] (bA r) := by
 obtain ⟨p0a, p0b, p0c, p0d, ⟨p0e, p0f⟩, ⟨p0g, p0h⟩, p0i, p0j⟩ := p0
 obtain ⟨c0a, c0b, c0c, c0d, c0e⟩ := c0
 unfold dr.f at hh
 refine go (ts := [(3, none)]) (rm := [.own]) (pm := [.skip, .skip]) Tryz.func148 ?_
 intro Fn LW IN len cast toNat wrap add sub mul bin lt eq At set part app fz' rep nadd nmax ssize sext sget scat seq slt Wide Flat Ones Room r' post' hC hF hr hp
 cbv
 replace hh := bind_some hh
 obtain ⟨x2, h1, hh⟩ := hh
 refine ⟨Ob, ?_⟩
 refine ae hF (jQ hQ h1) ?_
 cbv
 exact Eb

theorem dK {k : Nat} {g1 : GNode → Option Bool} {cp1_0 : GEng} (hg1 : ∀ {y0 : GNode} {r : Bool}, g1 y0 = some r → ag P 148 [.agg [iA y0.Kind, iA y0.Sym, iA y0.N, tA (qInt y0.Kids), tA (qGOcc y0.Pair.Left), tA (qGOcc y0.Pair.Right), tA (qGOcc y0.Span.Left), tA (qGOcc y0.Span.Mid), tA (qGOcc y0.Due), iA y0.Many], .iptr [tA (qGRule cp1_0.Rules), tA (qGGraph cp1_0.Graphs), tA (qGEv cp1_0.Events), tA (qInt cp1_0.Keys), tA (qGFire cp1_0.Fired)] 0] [hA, hA] (bA r)) {p0 : List GNode} {r : Int} (hh : aI.f g1 k p0 = some r) : ag P 180 [tA (qGNode p0), .clo 148 [.iptr [tA (qGRule cp1_0.Rules), tA (qGGraph cp1_0.Graphs), tA (qGEv cp1_0.Events), tA (qInt cp1_0.Keys), tA (qGFire cp1_0.Fired)] 0]] [hA, hA] (iA r) := by
 obtain ⟨cp1_0a, cp1_0b, cp1_0c, cp1_0d, cp1_0e⟩ := cp1_0
 unfold aI.f at hh
 refine go (ts := [(4, none)]) (rm := [.own]) (pm := [.skip, .skip]) Tryz.func180 ?_
 intro Fn LW IN len cast toNat wrap add sub mul bin lt eq At set part app fz' rep nadd nmax ssize sext sget scat seq slt Wide Flat Ones Room r' post' hC hF hr hp
 cbv
 replace hh := bind_some hh
 obtain ⟨o1, hl1, hq1⟩ := hh
 refine ap hC eok mixed (aI.l0 k g1 p0)
  (fun s11 => (⟨[(0, tA (qGNode p0)), (1, .clo 148 [.iptr [tA (qGRule cp1_0a), tA (qGGraph cp1_0b), tA (qGEv cp1_0c), tA (qInt cp1_0d), tA (qGFire cp1_0e)] 0]), (7, iA (cast (len (qGNode p0)))), (8, iA s11)], []⟩ : St))
  (fun (_ : Unit) => (⟨[], []⟩ : St)) .ok (.exit 0)
  (i0 := _) hl1 (fun _ => rfl) ?_ ?_ ?_
 ·rintro t0 e
  refine ah ?_
  cbv
  all_goals exact J1
 rintro _ hx
 subst o1
 have hh := hq1
 cbv
 exact Eb
 rintro n s11 N1 D1 hh hN1 hD1 hQ1
 unfold aI.l0 at hh
 cbv
 refine bcs (fun f23 => ?_) (fun f23 => ?_)
 replace hh := ifT hh f23
 try rw [f23]
 cbv
 replace hh := aa hh
 obtain ⟨h24, hh⟩ := hh
 replace hh := bind_some hh
 obtain ⟨⟨e25a, e25b, e25c, e25d, ⟨e25e, e25f⟩, ⟨e25g, e25h⟩, e25i, e25j⟩, h26, hh⟩ := hh
 try dsimp only at hh
 refine ⟨[iA e25a, iA e25b, iA e25c, tA (qInt e25d), tA (qGOcc e25e), tA (qGOcc e25f), tA (qGOcc e25g), tA (qGOcc e25h), tA (qGOcc e25i), iA e25j], Nb h24, Gb h26, ?_⟩
 cbv
 replace hh := bind_some hh
 obtain ⟨x28, h27, hh⟩ := hh
 refine ae hF (hg1 h27) ?_
 cbv
 refine bcs (fun f31 => ?_) (fun f31 => ?_)
 replace hh := ifT hh f31
 try rw [f31]
 cbv
 cases hh
 have hh : some _ = some _ := hq1
 refine hQ1 _ _ ?_
 cbv
 exact Eb
 replace hh := ifF hh f31
 try rw [f31]
 cbv
 ·refine hN1 _ _ hh fun t0 e => ?_
  refine ah ?_
  cbv
  all_goals exact J1
 replace hh := ifF hh f23
 try rw [f23]
 cbv
 ·refine hD1 () _ hh fun _ e => ?_
  refine ah ?_
  cbv
  all_goals exact J0

theorem du {k : Nat} {g1 : GNode → Option Bool} {cp1_0 : GEng} (hg1 : ∀ {y0 : GNode} {r : Bool}, g1 y0 = some r → ag P 148 [.agg [iA y0.Kind, iA y0.Sym, iA y0.N, tA (qInt y0.Kids), tA (qGOcc y0.Pair.Left), tA (qGOcc y0.Pair.Right), tA (qGOcc y0.Span.Left), tA (qGOcc y0.Span.Mid), tA (qGOcc y0.Due), iA y0.Many], .iptr [tA (qGRule cp1_0.Rules), tA (qGGraph cp1_0.Graphs), tA (qGEv cp1_0.Events), tA (qInt cp1_0.Keys), tA (qGFire cp1_0.Fired)] 0] [hA, hA] (bA r)) {p0 : List GNode} {r : Bool} (hh : di.f g1 k p0 = some r) : ag P 147 [tA (qGNode p0), .clo 148 [.iptr [tA (qGRule cp1_0.Rules), tA (qGGraph cp1_0.Graphs), tA (qGEv cp1_0.Events), tA (qInt cp1_0.Keys), tA (qGFire cp1_0.Fired)] 0]] [hA, hA] (bA r) := by
 obtain ⟨cp1_0a, cp1_0b, cp1_0c, cp1_0d, cp1_0e⟩ := cp1_0
 unfold di.f at hh
 refine go (ts := [(4, none)]) (rm := [.own]) (pm := [.skip, .skip]) Tryz.func147 ?_
 intro Fn LW IN len cast toNat wrap add sub mul bin lt eq At set part app fz' rep nadd nmax ssize sext sget scat seq slt Wide Flat Ones Room r' post' hC hF hr hp
 cbv
 replace hh := bind_some hh
 obtain ⟨x2, h1, hh⟩ := hh
 refine ae hF (dK hQ (g1 := g1) hg1 h1) ?_
 cbv
 exact Eb

theorem j5 {k : Nat} {p0 : GEng} {p1 : GGraph} {r : Bool} (hh : fi.f k p0 p1 = some r) : ag P 89 [.agg [tA (qGRule p0.Rules), tA (qGGraph p0.Graphs), tA (qGEv p0.Events), tA (qInt p0.Keys), tA (qGFire p0.Fired)], .agg [iA p1.Mode, tA (qGNode p1.Nodes), iA p1.Seen, iA p1.Now, bA p1.Full]] [hA, hA] (bA r) := by
 obtain ⟨p0a, p0b, p0c, p0d, p0e⟩ := p0
 obtain ⟨p1a, p1b, p1c, p1d, p1e⟩ := p1
 unfold fi.f at hh
 refine go (ts := [(4, none)]) (rm := [.own]) (pm := [.skip, .skip]) Tryz.func89 ?_
 intro Fn LW IN len cast toNat wrap add sub mul bin lt eq At set part app fz' rep nadd nmax ssize sext sget scat seq slt Wide Flat Ones Room r' post' hC hF hr hp
 cbv
 replace hh := bind_some hh
 obtain ⟨x2, h1, hh⟩ := hh
 refine ae hF (mZ hQ h1) ?_
 cbv
 replace hh := az hh
 rcases hh with ⟨b4, hh⟩ | ⟨b4, hh⟩
 have f5 : x2 = true := Tb b4
 have g := f5; cbv at g; try rw [f5]
 try rw [g]
 cbv
 refine bcs (fun f7 => ?_) (fun f7 => ?_)
 replace hh := ifT hh f7
 try rw [f7]
 cbv
 exact Eb
 replace hh := ifF hh f7
 try rw [f7]
 cbv
 replace hh := az hh
 rcases hh with ⟨b8, hh⟩ | ⟨b8, hh⟩
 have f9 : (eq p1c (cast (len (qGEv p0c)))) = true := Tb b8
 have g := f9; cbv at g; try rw [f9]
 try rw [g]
 cbv
 replace hh := bind_some hh
 obtain ⟨x11, h10, hh⟩ := hh
 refine ae hF (mK hQ h10) ?_
 cbv
 replace hh := az hh
 rcases hh with ⟨b13, hh⟩ | ⟨b13, hh⟩
 have f14 : (eq p1d x11) = true := Tb b13
 have g := f14; cbv at g; try rw [f14]
 try rw [g]
 cbv
 replace hh := bind_some hh
 obtain ⟨x16, h15, hh⟩ := hh
 refine ae hF (du hQ (g1 := fun y0 => dr.f k y0 ((⟨p0a, p0b, p0c, p0d, p0e⟩ : GEng))) (fun h => jO hQ h) h15) ?_
 cbv
 exact Eb
 have f14 : (eq p1d x11) = false := Fb b13
 have g := f14; cbv at g; try rw [f14]
 try rw [g]
 cbv
 exact Eb
 have f9 : (eq p1c (cast (len (qGEv p0c)))) = false := Fb b8
 have g := f9; cbv at g; try rw [f9]
 try rw [g]
 cbv
 exact Eb
 have f5 : x2 = false := Fb b4
 have g := f5; cbv at g; try rw [f5]
 try rw [g]
 cbv
 exact Eb

theorem m8 {k : Nat} {p0 : GGraph} {c0 : GEng} {r : Bool} (hh : eG.f k p0 c0 = some r) : ag P 88 [.agg [iA p0.Mode, tA (qGNode p0.Nodes), iA p0.Seen, iA p0.Now, bA p0.Full], .iptr [tA (qGRule c0.Rules), tA (qGGraph c0.Graphs), tA (qGEv c0.Events), tA (qInt c0.Keys), tA (qGFire c0.Fired)] 0] [hA, hA] (bA r) := by
 obtain ⟨p0a, p0b, p0c, p0d, p0e⟩ := p0
 obtain ⟨c0a, c0b, c0c, c0d, c0e⟩ := c0
 unfold eG.f at hh
 refine go (ts := [(3, none)]) (rm := [.own]) (pm := [.skip, .skip]) Tryz.func88 ?_
 intro Fn LW IN len cast toNat wrap add sub mul bin lt eq At set part app fz' rep nadd nmax ssize sext sget scat seq slt Wide Flat Ones Room r' post' hC hF hr hp
 cbv
 replace hh := bind_some hh
 obtain ⟨x2, h1, hh⟩ := hh
 refine ae hF (j5 hQ h1) ?_
 cbv
 exact Eb

theorem en {k : Nat} {g1 : GGraph → Option Bool} {cp1_0 : GEng} (hg1 : ∀ {y0 : GGraph} {r : Bool}, g1 y0 = some r → ag P 88 [.agg [iA y0.Mode, tA (qGNode y0.Nodes), iA y0.Seen, iA y0.Now, bA y0.Full], .iptr [tA (qGRule cp1_0.Rules), tA (qGGraph cp1_0.Graphs), tA (qGEv cp1_0.Events), tA (qInt cp1_0.Keys), tA (qGFire cp1_0.Fired)] 0] [hA, hA] (bA r)) {p0 : List GGraph} {r : Int} (hh : aW.f g1 k p0 = some r) : ag P 145 [tA (qGGraph p0), .clo 88 [.iptr [tA (qGRule cp1_0.Rules), tA (qGGraph cp1_0.Graphs), tA (qGEv cp1_0.Events), tA (qInt cp1_0.Keys), tA (qGFire cp1_0.Fired)] 0]] [hA, hA] (iA r) := by
 obtain ⟨cp1_0a, cp1_0b, cp1_0c, cp1_0d, cp1_0e⟩ := cp1_0
 unfold aW.f at hh
 refine go (ts := [(4, none)]) (rm := [.own]) (pm := [.skip, .skip]) Tryz.func145 ?_
 intro Fn LW IN len cast toNat wrap add sub mul bin lt eq At set part app fz' rep nadd nmax ssize sext sget scat seq slt Wide Flat Ones Room r' post' hC hF hr hp
 cbv
 replace hh := bind_some hh
 obtain ⟨o1, hl1, hq1⟩ := hh
 refine ap hC eok mixed (aW.l0 k g1 p0)
  (fun s11 => (⟨[(0, tA (qGGraph p0)), (1, .clo 88 [.iptr [tA (qGRule cp1_0a), tA (qGGraph cp1_0b), tA (qGEv cp1_0c), tA (qInt cp1_0d), tA (qGFire cp1_0e)] 0]), (7, iA (cast (len (qGGraph p0)))), (8, iA s11)], []⟩ : St))
  (fun (_ : Unit) => (⟨[], []⟩ : St)) .ok (.exit 0)
  (i0 := _) hl1 (fun _ => rfl) ?_ ?_ ?_
 ·rintro t0 e
  refine ah ?_
  cbv
  all_goals exact J1
 rintro _ hx
 subst o1
 have hh := hq1
 cbv
 exact Eb
 rintro n s11 N1 D1 hh hN1 hD1 hQ1
 unfold aW.l0 at hh
 cbv
 refine bcs (fun f23 => ?_) (fun f23 => ?_)
 replace hh := ifT hh f23
 try rw [f23]
 cbv
 replace hh := aa hh
 obtain ⟨h24, hh⟩ := hh
 replace hh := bind_some hh
 obtain ⟨⟨e25a, e25b, e25c, e25d, e25e⟩, h26, hh⟩ := hh
 try dsimp only at hh
 refine ⟨[iA e25a, tA (qGNode e25b), iA e25c, iA e25d, bA e25e], Nb h24, Gb h26, ?_⟩
 cbv
 replace hh := bind_some hh
 obtain ⟨x28, h27, hh⟩ := hh
 refine ae hF (hg1 h27) ?_
 cbv
 refine bcs (fun f31 => ?_) (fun f31 => ?_)
 replace hh := ifT hh f31
 try rw [f31]
 cbv
 cases hh
 have hh : some _ = some _ := hq1
 refine hQ1 _ _ ?_
 cbv
 exact Eb
 replace hh := ifF hh f31
 try rw [f31]
 cbv
 ·refine hN1 _ _ hh fun t0 e => ?_
  refine ah ?_
  cbv
  all_goals exact J1
 replace hh := ifF hh f23
 try rw [f23]
 cbv
 ·refine hD1 () _ hh fun _ e => ?_
  refine ah ?_
  cbv
  all_goals exact J0

theorem dY {k : Nat} {g1 : GGraph → Option Bool} {cp1_0 : GEng} (hg1 : ∀ {y0 : GGraph} {r : Bool}, g1 y0 = some r → ag P 88 [.agg [iA y0.Mode, tA (qGNode y0.Nodes), iA y0.Seen, iA y0.Now, bA y0.Full], .iptr [tA (qGRule cp1_0.Rules), tA (qGGraph cp1_0.Graphs), tA (qGEv cp1_0.Events), tA (qInt cp1_0.Keys), tA (qGFire cp1_0.Fired)] 0] [hA, hA] (bA r)) {p0 : List GGraph} {r : Bool} (hh : bB.f g1 k p0 = some r) : ag P 87 [tA (qGGraph p0), .clo 88 [.iptr [tA (qGRule cp1_0.Rules), tA (qGGraph cp1_0.Graphs), tA (qGEv cp1_0.Events), tA (qInt cp1_0.Keys), tA (qGFire cp1_0.Fired)] 0]] [hA, hA] (bA r) := by
 obtain ⟨cp1_0a, cp1_0b, cp1_0c, cp1_0d, cp1_0e⟩ := cp1_0
 unfold bB.f at hh
 refine go (ts := [(4, none)]) (rm := [.own]) (pm := [.skip, .skip]) Tryz.func87 ?_
 intro Fn LW IN len cast toNat wrap add sub mul bin lt eq At set part app fz' rep nadd nmax ssize sext sget scat seq slt Wide Flat Ones Room r' post' hC hF hr hp
 cbv
 replace hh := bind_some hh
 obtain ⟨x2, h1, hh⟩ := hh
 refine ae hF (en hQ (g1 := g1) hg1 h1) ?_
 cbv
 exact Eb

theorem mP {p0 : Int} {r : Bool} (hh : er.f p0 = some r) : ag P 91 [iA p0] [hA] (bA r) := by
 unfold er.f at hh
 refine go (ts := [(2, none)]) (rm := [.own]) (pm := [.skip]) Tryz.func91 ?_
 intro Fn LW IN len cast toNat wrap add sub mul bin lt eq At set part app fz' rep nadd nmax ssize sext sget scat seq slt Wide Flat Ones Room r' post' hC hF hr hp
 cbv
 replace hh := bind_some hh
 obtain ⟨x2, h1, hh⟩ := hh
 refine ae hF (aR hQ h1) ?_
 cbv
 exact Eb

theorem fx {k : Nat} {g1 : Int → Option Bool} (hg1 : ∀ {y0 : Int} {r : Bool}, g1 y0 = some r → ag P 91 [iA y0] [hA] (bA r)) {p0 : List Int} {r : Int} (hh : bj.f g1 k p0 = some r) : ag P 150 [tA (qInt p0), .clo 91 []] [hA, hA] (iA r) := by
 unfold bj.f at hh
 refine go (ts := [(4, none)]) (rm := [.own]) (pm := [.skip, .skip]) Tryz.func150 ?_
 intro Fn LW IN len cast toNat wrap add sub mul bin lt eq At set part app fz' rep nadd nmax ssize sext sget scat seq slt Wide Flat Ones Room r' post' hC hF hr hp
 cbv
 replace hh := bind_some hh
 obtain ⟨o1, hl1, hq1⟩ := hh
 refine ap hC eok mixed (bj.l0 k g1 p0)
  (fun s11 => (⟨[(0, tA (qInt p0)), (1, .clo 91 []), (7, iA (cast (len (qInt p0)))), (8, iA s11)], []⟩ : St))
  (fun (_ : Unit) => (⟨[], []⟩ : St)) .ok (.exit 0)
  (i0 := _) hl1 (fun _ => rfl) ?_ ?_ ?_
 ·rintro t0 e
  refine ah ?_
  cbv
  all_goals exact J1
 rintro _ hx
 subst o1
 have hh := hq1
 cbv
 exact Eb
 rintro n s11 N1 D1 hh hN1 hD1 hQ1
 unfold bj.l0 at hh
 cbv
 refine bcs (fun f23 => ?_) (fun f23 => ?_)
 replace hh := ifT hh f23
 try rw [f23]
 cbv
 replace hh := aa hh
 obtain ⟨h24, hh⟩ := hh
 replace hh := bind_some hh
 obtain ⟨e25, h26, hh⟩ := hh
 refine ⟨[iA e25], Nb h24, Gb h26, ?_⟩
 cbv
 replace hh := bind_some hh
 obtain ⟨x28, h27, hh⟩ := hh
 refine ae hF (hg1 h27) ?_
 cbv
 refine bcs (fun f31 => ?_) (fun f31 => ?_)
 replace hh := ifT hh f31
 try rw [f31]
 cbv
 cases hh
 have hh : some _ = some _ := hq1
 refine hQ1 _ _ ?_
 cbv
 exact Eb
 replace hh := ifF hh f31
 try rw [f31]
 cbv
 ·refine hN1 _ _ hh fun t0 e => ?_
  refine ah ?_
  cbv
  all_goals exact J1
 replace hh := ifF hh f23
 try rw [f23]
 cbv
 ·refine hD1 () _ hh fun _ e => ?_
  refine ah ?_
  cbv
  all_goals exact J0

theorem eW {k : Nat} {g1 : Int → Option Bool} (hg1 : ∀ {y0 : Int} {r : Bool}, g1 y0 = some r → ag P 91 [iA y0] [hA] (bA r)) {p0 : List Int} {r : Bool} (hh : bD.f g1 k p0 = some r) : ag P 90 [tA (qInt p0), .clo 91 []] [hA, hA] (bA r) := by
 unfold bD.f at hh
 refine go (ts := [(4, none)]) (rm := [.own]) (pm := [.skip, .skip]) Tryz.func90 ?_
 intro Fn LW IN len cast toNat wrap add sub mul bin lt eq At set part app fz' rep nadd nmax ssize sext sget scat seq slt Wide Flat Ones Room r' post' hC hF hr hp
 cbv
 replace hh := bind_some hh
 obtain ⟨x2, h1, hh⟩ := hh
 refine ae hF (fx hQ (g1 := g1) hg1 h1) ?_
 cbv
 exact Eb

theorem mQ {k : Nat} {p0 : aH} {c0 : GEng} {r : Bool} (hh : eH.f k p0 c0 = some r) : ag P 93 [.agg [iA p0.Rule, iA p0.Occ.From, iA p0.Occ.To, tA (qInt p0.Occ.Ids)], .iptr [tA (qGRule c0.Rules), tA (qGGraph c0.Graphs), tA (qGEv c0.Events), tA (qInt c0.Keys), tA (qGFire c0.Fired)] 0] [hA, hA] (bA r) := by
 obtain ⟨p0a, ⟨p0b, p0c, p0d⟩⟩ := p0
 obtain ⟨c0a, c0b, c0c, c0d, c0e⟩ := c0
 unfold eH.f at hh
 refine go (ts := [(3, none)]) (rm := [.own]) (pm := [.skip, .skip]) Tryz.func93 ?_
 intro Fn LW IN len cast toNat wrap add sub mul bin lt eq At set part app fz' rep nadd nmax ssize sext sget scat seq slt Wide Flat Ones Room r' post' hC hF hr hp
 cbv
 replace hh := bind_some hh
 obtain ⟨x2, h1, hh⟩ := hh
 refine ae hF (aR hQ h1) ?_
 cbv
 replace hh := az hh
 rcases hh with ⟨b4, hh⟩ | ⟨b4, hh⟩
 have f5 : x2 = true := Tb b4
 have g := f5; cbv at g; try rw [f5]
 try rw [g]
 cbv
 replace hh := bind_some hh
 obtain ⟨x7, h6, hh⟩ := hh
 refine ae hF (kc hQ h6) ?_
 cbv
 replace hh := az hh
 rcases hh with ⟨b9, hh⟩ | ⟨b9, hh⟩
 have f10 : x7 = true := Tb b9
 have g := f10; cbv at g; try rw [f10]
 try rw [g]
 cbv
 replace hh := bind_some hh
 obtain ⟨x12, h11, hh⟩ := hh
 refine ae hF (fH hQ h11) ?_
 cbv
 exact Eb
 have f10 : x7 = false := Fb b9
 have g := f10; cbv at g; try rw [f10]
 try rw [g]
 cbv
 exact Eb
 have f5 : x2 = false := Fb b4
 have g := f5; cbv at g; try rw [f5]
 try rw [g]
 cbv
 exact Eb

theorem eB {k : Nat} {g1 : aH → Option Bool} {cp1_0 : GEng} (hg1 : ∀ {y0 : aH} {r : Bool}, g1 y0 = some r → ag P 93 [.agg [iA y0.Rule, iA y0.Occ.From, iA y0.Occ.To, tA (qInt y0.Occ.Ids)], .iptr [tA (qGRule cp1_0.Rules), tA (qGGraph cp1_0.Graphs), tA (qGEv cp1_0.Events), tA (qInt cp1_0.Keys), tA (qGFire cp1_0.Fired)] 0] [hA, hA] (bA r)) {p0 : List aH} {r : Int} (hh : aZ.f g1 k p0 = some r) : ag P 151 [tA (qGFire p0), .clo 93 [.iptr [tA (qGRule cp1_0.Rules), tA (qGGraph cp1_0.Graphs), tA (qGEv cp1_0.Events), tA (qInt cp1_0.Keys), tA (qGFire cp1_0.Fired)] 0]] [hA, hA] (iA r) := by
 obtain ⟨cp1_0a, cp1_0b, cp1_0c, cp1_0d, cp1_0e⟩ := cp1_0
 unfold aZ.f at hh
 refine go (ts := [(4, none)]) (rm := [.own]) (pm := [.skip, .skip]) Tryz.func151 ?_
 intro Fn LW IN len cast toNat wrap add sub mul bin lt eq At set part app fz' rep nadd nmax ssize sext sget scat seq slt Wide Flat Ones Room r' post' hC hF hr hp
 cbv
 replace hh := bind_some hh
 obtain ⟨o1, hl1, hq1⟩ := hh
 refine ap hC eok mixed (aZ.l0 k g1 p0)
  (fun s11 => (⟨[(0, tA (qGFire p0)), (1, .clo 93 [.iptr [tA (qGRule cp1_0a), tA (qGGraph cp1_0b), tA (qGEv cp1_0c), tA (qInt cp1_0d), tA (qGFire cp1_0e)] 0]), (7, iA (cast (len (qGFire p0)))), (8, iA s11)], []⟩ : St))
  (fun (_ : Unit) => (⟨[], []⟩ : St)) .ok (.exit 0)
  (i0 := _) hl1 (fun _ => rfl) ?_ ?_ ?_
 ·rintro t0 e
  refine ah ?_
  cbv
  all_goals exact J1
 rintro _ hx
 subst o1
 have hh := hq1
 cbv
 exact Eb
 rintro n s11 N1 D1 hh hN1 hD1 hQ1
 unfold aZ.l0 at hh
 cbv
 refine bcs (fun f23 => ?_) (fun f23 => ?_)
 replace hh := ifT hh f23
 try rw [f23]
 cbv
 replace hh := aa hh
 obtain ⟨h24, hh⟩ := hh
 replace hh := bind_some hh
 obtain ⟨⟨e25a, ⟨e25b, e25c, e25d⟩⟩, h26, hh⟩ := hh
 try dsimp only at hh
 refine ⟨[iA e25a, iA e25b, iA e25c, tA (qInt e25d)], Nb h24, Gb h26, ?_⟩
 cbv
 replace hh := bind_some hh
 obtain ⟨x28, h27, hh⟩ := hh
 refine ae hF (hg1 h27) ?_
 cbv
 refine bcs (fun f31 => ?_) (fun f31 => ?_)
 replace hh := ifT hh f31
 try rw [f31]
 cbv
 cases hh
 have hh : some _ = some _ := hq1
 refine hQ1 _ _ ?_
 cbv
 exact Eb
 replace hh := ifF hh f31
 try rw [f31]
 cbv
 ·refine hN1 _ _ hh fun t0 e => ?_
  refine ah ?_
  cbv
  all_goals exact J1
 replace hh := ifF hh f23
 try rw [f23]
 cbv
 ·refine hD1 () _ hh fun _ e => ?_
  refine ah ?_
  cbv
  all_goals exact J0

theorem ec {k : Nat} {g1 : aH → Option Bool} {cp1_0 : GEng} (hg1 : ∀ {y0 : aH} {r : Bool}, g1 y0 = some r → ag P 93 [.agg [iA y0.Rule, iA y0.Occ.From, iA y0.Occ.To, tA (qInt y0.Occ.Ids)], .iptr [tA (qGRule cp1_0.Rules), tA (qGGraph cp1_0.Graphs), tA (qGEv cp1_0.Events), tA (qInt cp1_0.Keys), tA (qGFire cp1_0.Fired)] 0] [hA, hA] (bA r)) {p0 : List aH} {r : Bool} (hh : bH.f g1 k p0 = some r) : ag P 92 [tA (qGFire p0), .clo 93 [.iptr [tA (qGRule cp1_0.Rules), tA (qGGraph cp1_0.Graphs), tA (qGEv cp1_0.Events), tA (qInt cp1_0.Keys), tA (qGFire cp1_0.Fired)] 0]] [hA, hA] (bA r) := by
 obtain ⟨cp1_0a, cp1_0b, cp1_0c, cp1_0d, cp1_0e⟩ := cp1_0
 unfold bH.f at hh
 refine go (ts := [(4, none)]) (rm := [.own]) (pm := [.skip, .skip]) Tryz.func92 ?_
 intro Fn LW IN len cast toNat wrap add sub mul bin lt eq At set part app fz' rep nadd nmax ssize sext sget scat seq slt Wide Flat Ones Room r' post' hC hF hr hp
 cbv
 replace hh := bind_some hh
 obtain ⟨x2, h1, hh⟩ := hh
 refine ae hF (eB hQ (g1 := g1) hg1 h1) ?_
 cbv
 exact Eb

theorem oZ {k : Nat} {p0 : GEng} {r : Bool} (hh : fF.f k p0 = some r) : ag P 39 [.agg [tA (qGRule p0.Rules), tA (qGGraph p0.Graphs), tA (qGEv p0.Events), tA (qInt p0.Keys), tA (qGFire p0.Fired)]] [hA] (bA r) := by
 obtain ⟨p0a, p0b, p0c, p0d, p0e⟩ := p0
 unfold fF.f at hh
 refine go (ts := [(2, none)]) (rm := [.own]) (pm := [.skip]) Tryz.func39 ?_
 intro Fn LW IN len cast toNat wrap add sub mul bin lt eq At set part app fz' rep nadd nmax ssize sext sget scat seq slt Wide Flat Ones Room r' post' hC hF hr hp
 cbv
 replace hh := bind_some hh
 obtain ⟨x2, h1, hh⟩ := hh
 refine ae hF (fM hQ h1) ?_
 cbv
 replace hh := az hh
 rcases hh with ⟨b4, hh⟩ | ⟨b4, hh⟩
 have f5 : x2 = true := Tb b4
 have g := f5; cbv at g; try rw [f5]
 try rw [g]
 cbv
 replace hh := az hh
 rcases hh with ⟨b6, hh⟩ | ⟨b6, hh⟩
 have f7 : (eq (cast (len (qGGraph p0b))) (cast (len (qGRule p0a)))) = true := Tb b6
 have g := f7; cbv at g; try rw [f7]
 try rw [g]
 cbv
 replace hh := bind_some hh
 obtain ⟨x9, h8, hh⟩ := hh
 refine ae hF (oJ hQ h8) ?_
 cbv
 replace hh := az hh
 rcases hh with ⟨b11, hh⟩ | ⟨b11, hh⟩
 have f12 : x9 = true := Tb b11
 have g := f12; cbv at g; try rw [f12]
 try rw [g]
 cbv
 replace hh := az hh
 rcases hh with ⟨b13, hh⟩ | ⟨b13, hh⟩
 have f14 : (eq (cast (len (qInt p0d))) 4) = true := Tb b13
 have g := f14; cbv at g; try rw [f14]
 try rw [g]
 cbv
 replace hh := bind_some hh
 obtain ⟨x16, h15, hh⟩ := hh
 refine ae hF (dY hQ (g1 := fun y0 => eG.f k y0 ((⟨p0a, p0b, p0c, p0d, p0e⟩ : GEng))) (fun h => m8 hQ h) h15) ?_
 cbv
 replace hh := az hh
 rcases hh with ⟨b18, hh⟩ | ⟨b18, hh⟩
 have f19 : x16 = true := Tb b18
 have g := f19; cbv at g; try rw [f19]
 try rw [g]
 cbv
 exact Eb
 have f19 : x16 = false := Fb b18
 have g := f19; cbv at g; try rw [f19]
 try rw [g]
 cbv
 replace hh := bind_some hh
 obtain ⟨x21, h20, hh⟩ := hh
 refine ae hF (eW hQ (g1 := fun y0 => er.f y0) (fun h => mP hQ h) h20) ?_
 cbv
 replace hh := az hh
 rcases hh with ⟨b23, hh⟩ | ⟨b23, hh⟩
 have f24 : x21 = true := Tb b23
 have g := f24; cbv at g; try rw [f24]
 try rw [g]
 cbv
 exact Eb
 have f24 : x21 = false := Fb b23
 have g := f24; cbv at g; try rw [f24]
 try rw [g]
 cbv
 replace hh := bind_some hh
 obtain ⟨x26, h25, hh⟩ := hh
 refine ae hF (ec hQ (g1 := fun y0 => eH.f k y0 ((⟨p0a, p0b, p0c, p0d, p0e⟩ : GEng))) (fun h => mQ hQ h) h25) ?_
 cbv
 exact Eb
 have f14 : (eq (cast (len (qInt p0d))) 4) = false := Fb b13
 have g := f14; cbv at g; try rw [f14]
 try rw [g]
 cbv
 exact Eb
 have f12 : x9 = false := Fb b11
 have g := f12; cbv at g; try rw [f12]
 try rw [g]
 cbv
 exact Eb
 have f7 : (eq (cast (len (qGGraph p0b))) (cast (len (qGRule p0a)))) = false := Fb b6
 have g := f7; cbv at g; try rw [f7]
 try rw [g]
 cbv
 exact Eb
 have f5 : x2 = false := Fb b4
 have g := f5; cbv at g; try rw [f5]
 try rw [g]
 cbv
 exact Eb

theorem mq {p0 : List GEv} {r : List GEv} (hh : ed.f p0 = some r) : ag P 64 [tA (qGEv p0)] [hA] (oA 3 (qGEv r)) := by
 unfold ed.f at hh
 refine go (ts := [(2, none)]) (rm := [.own]) (pm := [.skip]) Tryz.func64 ?_
 intro Fn LW IN len cast toNat wrap add sub mul bin lt eq At set part app fz' rep nadd nmax ssize sext sget scat seq slt Wide Flat Ones Room r' post' hC hF hr hp
 cbv
 replace hh := aa hh
 obtain ⟨h1, hh⟩ := hh
 refine ⟨⟨Ab, Ab⟩, ?_⟩
 refine ⟨Wb h1, ?_⟩
 exact Eb

theorem fm {p0 : GOcc} {r : GOcc} (hh : dJ.f p0 = some r) : ag P 131 [.agg [iA p0.From, iA p0.To, tA (qInt p0.Ids)]] [hA] (.agg [iA r.From, iA r.To, oA 1 (qInt r.Ids)]) := by
 obtain ⟨p0a, p0b, p0c⟩ := p0
 unfold dJ.f at hh
 refine go (ts := [(2, some 67)]) (rm := [.own]) (pm := [.skip]) Tryz.func131 ?_
 intro Fn LW IN len cast toNat wrap add sub mul bin lt eq At set part app fz' rep nadd nmax ssize sext sget scat seq slt Wide Flat Ones Room r' post' hC hF hr hp
 cbv
 replace hh := aa hh
 obtain ⟨h1, hh⟩ := hh
 try dsimp only at h1
 refine ⟨⟨Ab, Ab⟩, ?_⟩
 refine ⟨Wb h1, ?_⟩
 exact Eb

theorem gD {k : Nat} {p0 : List aH} {r : List aH} (hh : ba.f k p0 = some r) : ag P 140 [tA (qGFire p0)] [hA] (oA 4 (qGFire r)) := by
 unfold ba.f at hh
 refine go (ts := [(2, none)]) (rm := [.own]) (pm := [.skip]) Tryz.func140 ?_
 intro Fn LW IN len cast toNat wrap add sub mul bin lt eq At set part app fz' rep nadd nmax ssize sext sget scat seq slt Wide Flat Ones Room r' post' hC hF hr hp
 cbv
 replace hh := bind_some hh
 obtain ⟨o1, hl1, hq1⟩ := hh
 refine ap hC eok mixed (fun n (i : (List aH) × Int) => ba.l0 k p0 n i.1 i.2)
  (fun ⟨s10, s11⟩ => (⟨[(3, .ref (3, 50) 1 0 (len (qGFire s10))), (6, tA (qGFire p0)), (7, iA (cast (len (qGFire p0)))), (8, iA s11)], [((3, 50), .arr 1 4 (qGFire s10))]⟩ : St))
  (fun (x21 : List aH) => (⟨[(3, .ref (3, 50) 1 0 (len (qGFire x21)))], [((3, 50), .arr 1 4 (qGFire x21))]⟩ : St)) (fun x => x) (.exit 0)
  (i0 := (_, _)) hl1 (fun _ => rfl) ?_ ?_ ?_
 ·rintro ⟨t0, t1⟩ e
  refine aq [] ?_
  cbv
  all_goals exact J2
 rintro x21 hx
 subst o1
 have hh := hq1
 cbv
 exact Eb
 rintro n ⟨s10, s11⟩ N1 D1 hh hN1 hD1 hQ1
 try dsimp only at hh
 unfold ba.l0 at hh
 cbv
 refine bcs (fun f23 => ?_) (fun f23 => ?_)
 replace hh := ifT hh f23
 try rw [f23]
 cbv
 replace hh := aa hh
 obtain ⟨h24, hh⟩ := hh
 replace hh := bind_some hh
 obtain ⟨⟨e25a, ⟨e25b, e25c, e25d⟩⟩, h26, hh⟩ := hh
 try dsimp only at hh
 refine ⟨[iA e25a, iA e25b, iA e25c, tA (qInt e25d)], Nb h24, Gb h26, ?_⟩
 cbv
 replace hh := bind_some hh
 obtain ⟨⟨x28a, x28b, x28c⟩, h27, hh⟩ := hh
 try dsimp only at hh
 have fc := ag.frz (r' := .agg [iA x28a, iA x28b, tA (qInt x28c)]) (fm hQ h27) (by cases hQ; simp)
 try dsimp only at fc
 refine ae hF fc ?_
 cbv
 replace hh := aa hh
 obtain ⟨h30, hh⟩ := hh
 refine ⟨⟨Ob, Ab⟩, ?_⟩
 refine ⟨⟨Ob, Wb h30⟩, ?_⟩
 ·refine hN1 (_, _) _ hh fun ⟨t0, t1⟩ e => ?_
  refine aq [((3, 50), (20, 0))] ?_
  cbv
  all_goals exact J2
 replace hh := ifF hh f23
 try rw [f23]
 cbv
 ·refine hD1 _ _ hh fun t0 e => ?_
  refine ah ?_
  cbv
  all_goals exact J1

theorem dd {k : Nat} {p0 : List GOcc} {r : List GOcc} (hh : bv.f k p0 = some r) : ag P 63 [tA (qGOcc p0)] [hA] (oA 3 (qGOccO r)) := by
 unfold bv.f at hh
 refine go (ts := [(2, none)]) (rm := [.own]) (pm := [.skip]) Tryz.func63 ?_
 intro Fn LW IN len cast toNat wrap add sub mul bin lt eq At set part app fz' rep nadd nmax ssize sext sget scat seq slt Wide Flat Ones Room r' post' hC hF hr hp
 cbv
 replace hh := bind_some hh
 obtain ⟨o1, hl1, hq1⟩ := hh
 refine ap hC eok mixed (fun n (i : (List GOcc) × Int) => bv.l0 k p0 n i.1 i.2)
  (fun ⟨s10, s11⟩ => (⟨[(3, .ref (3, 50) 1 0 (len (qGOccO s10))), (6, tA (qGOcc p0)), (7, iA (cast (len (qGOcc p0)))), (8, iA s11)], [((3, 50), .arr 1 3 (qGOccO s10))]⟩ : St))
  (fun (x21 : List GOcc) => (⟨[(3, .ref (3, 50) 1 0 (len (qGOccO x21)))], [((3, 50), .arr 1 3 (qGOccO x21))]⟩ : St)) (fun x => x) (.exit 0)
  (i0 := (_, _)) hl1 (fun _ => rfl) ?_ ?_ ?_
 ·rintro ⟨t0, t1⟩ e
  refine aq [] ?_
  cbv
  all_goals exact J2
 rintro x21 hx
 subst o1
 have hh := hq1
 cbv
 exact Eb
 rintro n ⟨s10, s11⟩ N1 D1 hh hN1 hD1 hQ1
 try dsimp only at hh
 unfold bv.l0 at hh
 cbv
 refine bcs (fun f23 => ?_) (fun f23 => ?_)
 replace hh := ifT hh f23
 try rw [f23]
 cbv
 replace hh := aa hh
 obtain ⟨h24, hh⟩ := hh
 replace hh := bind_some hh
 obtain ⟨⟨e25a, e25b, e25c⟩, h26, hh⟩ := hh
 try dsimp only at hh
 refine ⟨[iA e25a, iA e25b, tA (qInt e25c)], Nb h24, Gb h26, ?_⟩
 cbv
 replace hh := bind_some hh
 obtain ⟨⟨x28a, x28b, x28c⟩, h27, hh⟩ := hh
 try dsimp only at hh
 have fc := fm hQ h27
 try dsimp only at fc
 refine ae hF fc ?_
 cbv
 replace hh := aa hh
 obtain ⟨h30, hh⟩ := hh
 refine ⟨⟨Ob, Ab⟩, ?_⟩
 refine ⟨⟨Ob, Wb h30⟩, ?_⟩
 ·refine hN1 (_, _) _ hh fun ⟨t0, t1⟩ e => ?_
  refine aq [((3, 50), (16, 0))] ?_
  cbv
  all_goals exact J2
 replace hh := ifF hh f23
 try rw [f23]
 cbv
 ·refine hD1 _ _ hh fun t0 e => ?_
  refine ah ?_
  cbv
  all_goals exact J1

theorem kR {k : Nat} {p0 : GPair} {r : GPair} (hh : fE.f k p0 = some r) : ag P 221 [.agg [tA (qGOcc p0.Left), tA (qGOcc p0.Right)]] [hA] (.agg [oA 3 (qGOccO r.Left), oA 3 (qGOccO r.Right)]) := by
 obtain ⟨p0a, p0b⟩ := p0
 unfold fE.f at hh
 refine go (ts := [(2, some 171)]) (rm := [.own]) (pm := [.skip]) Tryz.func221 ?_
 intro Fn LW IN len cast toNat wrap add sub mul bin lt eq At set part app fz' rep nadd nmax ssize sext sget scat seq slt Wide Flat Ones Room r' post' hC hF hr hp
 cbv
 replace hh := bind_some hh
 obtain ⟨x2, h1, hh⟩ := hh
 refine ae hF (dd hQ h1) ?_
 cbv
 replace hh := bind_some hh
 obtain ⟨x5, h4, hh⟩ := hh
 refine ae hF (dd hQ h4) ?_
 cbv
 exact Eb

theorem kQ {k : Nat} {p0 : GSpan} {r : GSpan} (hh : fG.f k p0 = some r) : ag P 222 [.agg [tA (qGOcc p0.Left), tA (qGOcc p0.Mid)]] [hA] (.agg [oA 3 (qGOccO r.Left), oA 3 (qGOccO r.Mid)]) := by
 obtain ⟨p0a, p0b⟩ := p0
 unfold fG.f at hh
 refine go (ts := [(2, some 173)]) (rm := [.own]) (pm := [.skip]) Tryz.func222 ?_
 intro Fn LW IN len cast toNat wrap add sub mul bin lt eq At set part app fz' rep nadd nmax ssize sext sget scat seq slt Wide Flat Ones Room r' post' hC hF hr hp
 cbv
 replace hh := bind_some hh
 obtain ⟨x2, h1, hh⟩ := hh
 refine ae hF (dd hQ h1) ?_
 cbv
 replace hh := bind_some hh
 obtain ⟨x5, h4, hh⟩ := hh
 refine ae hF (dd hQ h4) ?_
 cbv
 exact Eb

theorem kS {k : Nat} {p0 : GNode} {r : GNode} (hh : fA.f k p0 = some r) : ag P 188 [.agg [iA p0.Kind, iA p0.Sym, iA p0.N, tA (qInt p0.Kids), tA (qGOcc p0.Pair.Left), tA (qGOcc p0.Pair.Right), tA (qGOcc p0.Span.Left), tA (qGOcc p0.Span.Mid), tA (qGOcc p0.Due), iA p0.Many]] [hA] (.agg [iA r.Kind, iA r.Sym, iA r.N, oA 1 (qInt r.Kids), oA 3 (qGOccO r.Pair.Left), oA 3 (qGOccO r.Pair.Right), oA 3 (qGOccO r.Span.Left), oA 3 (qGOccO r.Span.Mid), oA 3 (qGOccO r.Due), iA r.Many]) := by
 obtain ⟨p0a, p0b, p0c, p0d, ⟨p0e, p0f⟩, ⟨p0g, p0h⟩, p0i, p0j⟩ := p0
 unfold fA.f at hh
 refine go (ts := [(2, some 175)]) (rm := [.own]) (pm := [.skip]) Tryz.func188 ?_
 intro Fn LW IN len cast toNat wrap add sub mul bin lt eq At set part app fz' rep nadd nmax ssize sext sget scat seq slt Wide Flat Ones Room r' post' hC hF hr hp
 cbv
 replace hh := aa hh
 obtain ⟨h1, hh⟩ := hh
 try dsimp only at h1
 refine ⟨⟨Ab, Ab⟩, ?_⟩
 refine ⟨Wb h1, ?_⟩
 replace hh := bind_some hh
 obtain ⟨⟨x3a, x3b⟩, h2, hh⟩ := hh
 try dsimp only at hh
 have fc := kR hQ h2
 try dsimp only at fc
 refine ae hF fc ?_
 cbv
 replace hh := bind_some hh
 obtain ⟨⟨x6a, x6b⟩, h5, hh⟩ := hh
 try dsimp only at hh
 have fc := kQ hQ h5
 try dsimp only at fc
 refine ae hF fc ?_
 cbv
 replace hh := bind_some hh
 obtain ⟨x9, h8, hh⟩ := hh
 refine ae hF (dd hQ h8) ?_
 cbv
 exact Eb

theorem j8 {k : Nat} {p0 : GGraph} {r : GGraph} (hh : bU.f k p0 = some r) : ag P 141 [.agg [iA p0.Mode, tA (qGNode p0.Nodes), iA p0.Seen, iA p0.Now, bA p0.Full]] [hA] (.agg [iA r.Mode, oA 10 (qGNode r.Nodes), iA r.Seen, iA r.Now, bA r.Full]) := by
 obtain ⟨p0a, p0b, p0c, p0d, p0e⟩ := p0
 unfold bU.f at hh
 refine go (ts := [(2, some 91)]) (rm := [.own]) (pm := [.skip]) Tryz.func141 ?_
 intro Fn LW IN len cast toNat wrap add sub mul bin lt eq At set part app fz' rep nadd nmax ssize sext sget scat seq slt Wide Flat Ones Room r' post' hC hF hr hp
 cbv
 replace hh := bind_some hh
 obtain ⟨o1, hl1, hq1⟩ := hh
 refine ap hC eok mixed (fun n (i : (List GNode) × Int) => bU.l0 k (⟨p0a, p0b, p0c, p0d, p0e⟩ : GGraph) n i.1 i.2)
  (fun ⟨s10, s11⟩ => (⟨[(1, .mptr (1, 0) 1 0 0), (2, .mptr (2, 0) 1 0 0), (3, .ref (3, 50) 1 0 (len (qGNode s10))), (7, tA (qGNode p0b)), (8, iA (cast (len (qGNode p0b)))), (9, iA s11)], [((1, 0), .box 1 [iA p0a, tA (qGNode p0b), iA p0c, iA p0d, bA p0e]), ((2, 0), .box 1 [iA 0, .lit (.slice none 0 0), iA 0, iA 0, bA false]), ((3, 50), .arr 1 10 (qGNode s10))]⟩ : St))
  (fun (x21 : List GNode) => (⟨[(1, .mptr (1, 0) 1 0 0), (2, .mptr (2, 0) 1 0 0), (3, .ref (3, 50) 1 0 (len (qGNode x21)))], [((1, 0), .box 1 [iA p0a, tA (qGNode p0b), iA p0c, iA p0d, bA p0e]), ((2, 0), .box 1 [iA 0, .lit (.slice none 0 0), iA 0, iA 0, bA false]), ((3, 50), .arr 1 10 (qGNode x21))]⟩ : St)) (fun x => x) (.exit 0)
  (i0 := (_, _)) hl1 (fun _ => rfl) ?_ ?_ ?_
 ·rintro ⟨t0, t1⟩ e
  refine aq [((1, 0), (1, 0)), ((2, 0), (2, 0))] ?_
  cbv
  all_goals exact J2
 rintro x21 hx
 subst o1
 have hh := hq1
 cbv
 exact Eb
 rintro n ⟨s10, s11⟩ N1 D1 hh hN1 hD1 hQ1
 try dsimp only at hh
 unfold bU.l0 at hh
 cbv
 refine bcs (fun f23 => ?_) (fun f23 => ?_)
 replace hh := ifT hh f23
 try rw [f23]
 cbv
 replace hh := aa hh
 obtain ⟨h24, hh⟩ := hh
 replace hh := bind_some hh
 obtain ⟨⟨e25a, e25b, e25c, e25d, ⟨e25e, e25f⟩, ⟨e25g, e25h⟩, e25i, e25j⟩, h26, hh⟩ := hh
 try dsimp only at hh
 refine ⟨[iA e25a, iA e25b, iA e25c, tA (qInt e25d), tA (qGOcc e25e), tA (qGOcc e25f), tA (qGOcc e25g), tA (qGOcc e25h), tA (qGOcc e25i), iA e25j], Nb h24, Gb h26, ?_⟩
 cbv
 replace hh := bind_some hh
 obtain ⟨⟨x28a, x28b, x28c, x28d, ⟨x28e, x28f⟩, ⟨x28g, x28h⟩, x28i, x28j⟩, h27, hh⟩ := hh
 try dsimp only at hh
 have fc := ag.frz (r' := .agg [iA x28a, iA x28b, iA x28c, tA (qInt x28d), tA (qGOcc x28e), tA (qGOcc x28f), tA (qGOcc x28g), tA (qGOcc x28h), tA (qGOcc x28i), iA x28j]) (kS hQ h27) (by cases hQ; simp)
 try dsimp only at fc
 refine ae hF fc ?_
 cbv
 replace hh := aa hh
 obtain ⟨h30, hh⟩ := hh
 refine ⟨⟨Ob, Ab⟩, ?_⟩
 refine ⟨⟨Ob, Wb h30⟩, ?_⟩
 ·refine hN1 (_, _) _ hh fun ⟨t0, t1⟩ e => ?_
  refine aq [((1, 0), (1, 0)), ((2, 0), (2, 0)), ((3, 50), (17, 0))] ?_
  cbv
  all_goals exact J2
 replace hh := ifF hh f23
 try rw [f23]
 cbv
 ·refine hD1 _ _ hh fun t0 e => ?_
  refine ah ?_
  cbv
  all_goals exact J1

end Go.Proofs.YtlbnmldopjadoaaGreat
