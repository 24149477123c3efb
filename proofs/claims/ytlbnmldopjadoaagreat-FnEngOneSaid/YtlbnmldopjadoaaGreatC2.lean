/- The functions of this program do what the plain ones do. -/
import Derived.Test.YtlbnmldopjadoaaGreatC1
namespace Go.Proofs.YtlbnmldopjadoaaGreat
open Go Go.Vm
set_option linter.unusedVariables false
set_option maxHeartbeats 4000000
set_option maxRecDepth 4000
variable {qIu8 : List Int → Vm.Rows} {qGEx : List GEx → Vm.Rows} {qGRule : List GRule → Vm.Rows} {qStr : List ByteArray → Vm.Rows} {qInt : List Int → Vm.Rows} {qGExO : List GEx → Vm.Rows} {qGOcc : List GOcc → Vm.Rows} {qGNode : List GNode → Vm.Rows} {qGGraphS : List GGraph → Vm.Rows} {qGGraph : List GGraph → Vm.Rows} {qGEv : List GEv → Vm.Rows} {qGFire : List GFire → Vm.Rows} {qLGOcc : List (List GOcc) → Vm.Rows} {qGOccO : List GOcc → Vm.Rows} {qLInt : List (List Int) → Vm.Rows} (hQ : EQ qIu8 qGEx qGRule qStr qInt qGExO qGOcc qGNode qGGraphS qGGraph qGEv qGFire qLGOcc qGOccO qLInt)
include hQ
theorem jp {p0 : GOcc} {r : Int} (hh : dg.f p0 = some r) : ah P 95 [.agg [iA p0.From, iA p0.To, tA (qInt p0.Ids)]] [hA] (iA r) := by
 obtain ⟨p0a, p0b, p0c⟩ := p0
 unfold dg.f at hh
 refine go (ts := [(2, none)]) (rm := [.own]) (pm := [.skip]) Tryz.func95 ?_
 intro Fn LW IN len cast toNat wrap add sub mul bin lt eq At set part app fz' rep nadd nmax ssize sext sget scat seq slt Wide Flat Ones Room r' post' hC hF hr hp
 cbv
 replace hh := aa hh
 obtain ⟨b, hh⟩ := hh
 try dsimp only at b
 replace hh := bind_some hh
 obtain ⟨c, d, hh⟩ := hh
 refine ⟨[iA c], Nb b, Gb d, ?_⟩
 cbv
 exact Eb

theorem oX {p0 : GOcc} {c0 : GEng} {r : Bool} (hh : dO.f p0 c0 = some r) : ah P 193 [.agg [iA p0.From, iA p0.To, tA (qInt p0.Ids)], .iptr [tA (qGRule c0.Rules), tA (qGGraph c0.Graphs), tA (qGEv c0.Events), tA (qInt c0.Keys), tA (qGFire c0.Fired)] 0] [hA, hA] (bA r) := by
 obtain ⟨p0a, p0b, p0c⟩ := p0
 obtain ⟨c0a, c0b, c0c, c0d, c0e⟩ := c0
 unfold dO.f at hh
 refine go (ts := [(3, none)]) (rm := [.own]) (pm := [.skip, .skip]) Tryz.func193 ?_
 intro Fn LW IN len cast toNat wrap add sub mul bin lt eq At set part app fz' rep nadd nmax ssize sext sget scat seq slt Wide Flat Ones Room r' post' hC hF hr hp
 cbv
 replace hh := bind_some hh
 obtain ⟨c, b, hh⟩ := hh
 refine ac hF (jp hQ b) ?_
 cbv
 exact Eb

theorem gk {k : Nat} {g1 : GOcc → Option Bool} {cp1_0 : GEng} (hg1 : ∀ {y0 : GOcc} {r : Bool}, g1 y0 = some r → ah P 193 [.agg [iA y0.From, iA y0.To, tA (qInt y0.Ids)], .iptr [tA (qGRule cp1_0.Rules), tA (qGGraph cp1_0.Graphs), tA (qGEv cp1_0.Events), tA (qInt cp1_0.Keys), tA (qGFire cp1_0.Fired)] 0] [hA, hA] (bA r)) {p0 : List GOcc} {r : Int} (hh : aA.f g1 k p0 = some r) : ah P 230 [tA (qGOcc p0), .clo 193 [.iptr [tA (qGRule cp1_0.Rules), tA (qGGraph cp1_0.Graphs), tA (qGEv cp1_0.Events), tA (qInt cp1_0.Keys), tA (qGFire cp1_0.Fired)] 0]] [hA, hA] (iA r) := by
 obtain ⟨cp1_0a, cp1_0b, cp1_0c, cp1_0d, cp1_0e⟩ := cp1_0
 unfold aA.f at hh
 refine go (ts := [(4, none)]) (rm := [.own]) (pm := [.skip, .skip]) Tryz.func230 ?_
 intro Fn LW IN len cast toNat wrap add sub mul bin lt eq At set part app fz' rep nadd nmax ssize sext sget scat seq slt Wide Flat Ones Room r' post' hC hF hr hp
 cbv
 replace hh := bind_some hh
 obtain ⟨B, t, d⟩ := hh
 refine au hC eok mixed (aA.l0 k g1 p0)
  (fun j => (⟨[(0, tA (qGOcc p0)), (1, .clo 193 [.iptr [tA (qGRule cp1_0a), tA (qGGraph cp1_0b), tA (qGEv cp1_0c), tA (qInt cp1_0d), tA (qGFire cp1_0e)] 0]), (7, iA (cast (len (qGOcc p0)))), (8, iA j)], []⟩ : St))
  (fun (_ : Unit) => (⟨[], []⟩ : St)) .ok (.exit 0)
  (i0 := _) t (fun _ => rfl) ?_ ?_ ?_
 ·rintro C e
  refine ai ?_
  cbv
  all_goals exact J1
 rintro _ hx
 subst B
 have hh := d
 cbv
 exact Eb
 rintro n j F G hh u v w
 unfold aA.l0 at hh
 cbv
 refine bcs (fun b => ?_) (fun b => ?_)
 replace hh := ifT hh b
 try rw [b]
 cbv
 replace hh := aa hh
 obtain ⟨y, hh⟩ := hh
 replace hh := bind_some hh
 obtain ⟨⟨o, p, s⟩, z, hh⟩ := hh
 try dsimp only at hh
 refine ⟨[iA o, iA p, tA (qInt s)], Nb y, Gb z, ?_⟩
 cbv
 replace hh := bind_some hh
 obtain ⟨D, A, hh⟩ := hh
 refine ac hF (hg1 A) ?_
 cbv
 refine bcs (fun c => ?_) (fun c => ?_)
 replace hh := ifT hh c
 try rw [c]
 cbv
 cases hh
 have hh : some _ = some _ := d
 refine w _ _ ?_
 cbv
 exact Eb
 replace hh := ifF hh c
 try rw [c]
 cbv
 ·refine u _ _ hh fun C e => ?_
  refine ai ?_
  cbv
  all_goals exact J1
 replace hh := ifF hh b
 try rw [b]
 cbv
 ·refine v () _ hh fun _ e => ?_
  refine ai ?_
  cbv
  all_goals exact J0

theorem fD {k : Nat} {g1 : GOcc → Option Bool} {cp1_0 : GEng} (hg1 : ∀ {y0 : GOcc} {r : Bool}, g1 y0 = some r → ah P 193 [.agg [iA y0.From, iA y0.To, tA (qInt y0.Ids)], .iptr [tA (qGRule cp1_0.Rules), tA (qGGraph cp1_0.Graphs), tA (qGEv cp1_0.Events), tA (qInt cp1_0.Keys), tA (qGFire cp1_0.Fired)] 0] [hA, hA] (bA r)) {p0 : List GOcc} {r : Bool} (hh : aS.f g1 k p0 = some r) : ah P 192 [tA (qGOcc p0), .clo 193 [.iptr [tA (qGRule cp1_0.Rules), tA (qGGraph cp1_0.Graphs), tA (qGEv cp1_0.Events), tA (qInt cp1_0.Keys), tA (qGFire cp1_0.Fired)] 0]] [hA, hA] (bA r) := by
 obtain ⟨cp1_0a, cp1_0b, cp1_0c, cp1_0d, cp1_0e⟩ := cp1_0
 unfold aS.f at hh
 refine go (ts := [(4, none)]) (rm := [.own]) (pm := [.skip, .skip]) Tryz.func192 ?_
 intro Fn LW IN len cast toNat wrap add sub mul bin lt eq At set part app fz' rep nadd nmax ssize sext sget scat seq slt Wide Flat Ones Room r' post' hC hF hr hp
 cbv
 replace hh := bind_some hh
 obtain ⟨c, b, hh⟩ := hh
 refine ac hF (gk hQ (g1 := g1) hg1 b) ?_
 cbv
 exact Eb

theorem rt {k : Nat} {p0 : GEng} {p1 : List (List GOcc)} {r : Bool} (hh : bP.f k p0 p1 = some r) : ah P 149 [.agg [tA (qGRule p0.Rules), tA (qGGraph p0.Graphs), tA (qGEv p0.Events), tA (qInt p0.Keys), tA (qGFire p0.Fired)], tA (qLGOcc p1)] [hA, hA] (bA r) := by
 obtain ⟨p0a, p0b, p0c, p0d, p0e⟩ := p0
 unfold bP.f at hh
 refine go (ts := [(4, none)]) (rm := [.own]) (pm := [.skip, .skip]) Tryz.func149 ?_
 intro Fn LW IN len cast toNat wrap add sub mul bin lt eq At set part app fz' rep nadd nmax ssize sext sget scat seq slt Wide Flat Ones Room r' post' hC hF hr hp
 cbv
 replace hh := bind_some hh
 obtain ⟨z, o, d⟩ := hh
 refine au hC eok mixed (bP.l0 k (⟨p0a, p0b, p0c, p0d, p0e⟩ : GEng) p1)
  (fun j => (⟨[(2, .mptr (2, 0) 1 0 0), (7, tA (qLGOcc p1)), (8, iA (cast (len (qLGOcc p1)))), (9, iA j)], [((2, 0), .fbox 1 [tA (qGRule p0a), tA (qGGraph p0b), tA (qGEv p0c), tA (qInt p0d), tA (qGFire p0e)])]⟩ : St))
  (fun (_ : Unit) => (⟨[], []⟩ : St)) .ok (.exit 0)
  (i0 := _) o (fun _ => rfl) ?_ ?_ ?_
 ·rintro A e
  refine ai ?_
  cbv
  all_goals exact J1
 rintro _ hx
 subst z
 have hh := d
 cbv
 exact Eb
 rintro n j C D hh p s t
 unfold bP.l0 at hh
 cbv
 refine bcs (fun b => ?_) (fun b => ?_)
 replace hh := ifT hh b
 try rw [b]
 cbv
 replace hh := aa hh
 obtain ⟨u, hh⟩ := hh
 replace hh := bind_some hh
 obtain ⟨v, w, hh⟩ := hh
 refine ⟨[tA (qGOcc v)], Nb u, Gb w, ?_⟩
 cbv
 replace hh := bind_some hh
 obtain ⟨B, y, hh⟩ := hh
 refine ac hF (fD hQ (g1 := fun y0 => dO.f y0 ((⟨p0a, p0b, p0c, p0d, p0e⟩ : GEng))) (fun h => oX hQ h) y) ?_
 cbv
 refine bcs (fun c => ?_) (fun c => ?_)
 replace hh := ifT hh c
 try rw [c]
 cbv
 cases hh
 have hh : some _ = some _ := d
 refine t _ _ ?_
 cbv
 exact Eb
 replace hh := ifF hh c
 try rw [c]
 cbv
 ·refine p _ _ hh fun A e => ?_
  refine ai ?_
  cbv
  all_goals exact J1
 replace hh := ifF hh b
 try rw [b]
 cbv
 ·refine s () _ hh fun _ e => ?_
  refine ai ?_
  cbv
  all_goals exact J0
theorem nF {k : Nat} {p0 : GEng} {p1 : List (List GOcc)} {r : Bool} (hh : bP.f k p0 p1 = some r) : ah P 149 [.agg [tA (qGRule p0.Rules), tA (qGGraph p0.Graphs), tA (qGEv p0.Events), tA (qInt p0.Keys), tA (qGFire p0.Fired)], oA 1 (qLGOcc p1)] [hA, oA 1 (qLGOcc p1)] (bA r) := by
  cases hQ; exact (rt .mk hh).lend (rfl) (.same rfl (.lend (congrArg A.tree (sP _).symm) .nil))

theorem nD {k : Nat} {p0 : GNode} {c0 : GEng} {r : Bool} (hh : dx.f k p0 c0 = some r) : ah P 148 [.agg [iA p0.Kind, iA p0.Sym, iA p0.N, tA (qInt p0.Kids), tA (qGOcc p0.Pair.Left), tA (qGOcc p0.Pair.Right), tA (qGOcc p0.Span.Left), tA (qGOcc p0.Span.Mid), tA (qGOcc p0.Due), iA p0.Many], .iptr [tA (qGRule c0.Rules), tA (qGGraph c0.Graphs), tA (qGEv c0.Events), tA (qInt c0.Keys), tA (qGFire c0.Fired)] 0] [hA, hA] (bA r) := by
 obtain ⟨p0a, p0b, p0c, p0d, ⟨p0e, p0f⟩, ⟨p0g, p0h⟩, p0i, p0j⟩ := p0
 obtain ⟨c0a, c0b, c0c, c0d, c0e⟩ := c0
 unfold dx.f at hh
 refine go (ts := [(3, none)]) (rm := [.own]) (pm := [.skip, .skip]) Tryz.func148 ?_
 intro Fn LW IN len cast toNat wrap add sub mul bin lt eq At set part app fz' rep nadd nmax ssize sext sget scat seq slt Wide Flat Ones Room r' post' hC hF hr hp
 cbv
 replace hh := bind_some hh
 obtain ⟨c, b, hh⟩ := hh
 refine ⟨Ob, ?_⟩
 refine ac hF (nF hQ b) ?_
 cbv
 exact Eb

theorem fI {k : Nat} {g1 : GNode → Option Bool} {cp1_0 : GEng} (hg1 : ∀ {y0 : GNode} {r : Bool}, g1 y0 = some r → ah P 148 [.agg [iA y0.Kind, iA y0.Sym, iA y0.N, tA (qInt y0.Kids), tA (qGOcc y0.Pair.Left), tA (qGOcc y0.Pair.Right), tA (qGOcc y0.Span.Left), tA (qGOcc y0.Span.Mid), tA (qGOcc y0.Due), iA y0.Many], .iptr [tA (qGRule cp1_0.Rules), tA (qGGraph cp1_0.Graphs), tA (qGEv cp1_0.Events), tA (qInt cp1_0.Keys), tA (qGFire cp1_0.Fired)] 0] [hA, hA] (bA r)) {p0 : List GNode} {r : Int} (hh : az.f g1 k p0 = some r) : ah P 180 [tA (qGNode p0), .clo 148 [.iptr [tA (qGRule cp1_0.Rules), tA (qGGraph cp1_0.Graphs), tA (qGEv cp1_0.Events), tA (qInt cp1_0.Keys), tA (qGFire cp1_0.Fired)] 0]] [hA, hA] (iA r) := by
 obtain ⟨cp1_0a, cp1_0b, cp1_0c, cp1_0d, cp1_0e⟩ := cp1_0
 unfold az.f at hh
 refine go (ts := [(4, none)]) (rm := [.own]) (pm := [.skip, .skip]) Tryz.func180 ?_
 intro Fn LW IN len cast toNat wrap add sub mul bin lt eq At set part app fz' rep nadd nmax ssize sext sget scat seq slt Wide Flat Ones Room r' post' hC hF hr hp
 cbv
 replace hh := bind_some hh
 obtain ⟨J, B, d⟩ := hh
 refine au hC eok mixed (az.l0 k g1 p0)
  (fun j => (⟨[(0, tA (qGNode p0)), (1, .clo 148 [.iptr [tA (qGRule cp1_0a), tA (qGGraph cp1_0b), tA (qGEv cp1_0c), tA (qInt cp1_0d), tA (qGFire cp1_0e)] 0]), (7, iA (cast (len (qGNode p0)))), (8, iA j)], []⟩ : St))
  (fun (_ : Unit) => (⟨[], []⟩ : St)) .ok (.exit 0)
  (i0 := _) B (fun _ => rfl) ?_ ?_ ?_
 ·rintro K e
  refine ai ?_
  cbv
  all_goals exact J1
 rintro _ hx
 subst J
 have hh := d
 cbv
 exact Eb
 rintro n j M O hh C D F
 unfold az.l0 at hh
 cbv
 refine bcs (fun b => ?_) (fun b => ?_)
 replace hh := ifT hh b
 try rw [b]
 cbv
 replace hh := aa hh
 obtain ⟨G, hh⟩ := hh
 replace hh := bind_some hh
 obtain ⟨⟨o, p, s, t, ⟨u, v⟩, ⟨w, y⟩, z, A⟩, H, hh⟩ := hh
 try dsimp only at hh
 refine ⟨[iA o, iA p, iA s, tA (qInt t), tA (qGOcc u), tA (qGOcc v), tA (qGOcc w), tA (qGOcc y), tA (qGOcc z), iA A], Nb G, Gb H, ?_⟩
 cbv
 replace hh := bind_some hh
 obtain ⟨L, I, hh⟩ := hh
 refine ac hF (hg1 I) ?_
 cbv
 refine bcs (fun c => ?_) (fun c => ?_)
 replace hh := ifT hh c
 try rw [c]
 cbv
 cases hh
 have hh : some _ = some _ := d
 refine F _ _ ?_
 cbv
 exact Eb
 replace hh := ifF hh c
 try rw [c]
 cbv
 ·refine C _ _ hh fun K e => ?_
  refine ai ?_
  cbv
  all_goals exact J1
 replace hh := ifF hh b
 try rw [b]
 cbv
 ·refine D () _ hh fun _ e => ?_
  refine ai ?_
  cbv
  all_goals exact J0

theorem eW {k : Nat} {g1 : GNode → Option Bool} {cp1_0 : GEng} (hg1 : ∀ {y0 : GNode} {r : Bool}, g1 y0 = some r → ah P 148 [.agg [iA y0.Kind, iA y0.Sym, iA y0.N, tA (qInt y0.Kids), tA (qGOcc y0.Pair.Left), tA (qGOcc y0.Pair.Right), tA (qGOcc y0.Span.Left), tA (qGOcc y0.Span.Mid), tA (qGOcc y0.Due), iA y0.Many], .iptr [tA (qGRule cp1_0.Rules), tA (qGGraph cp1_0.Graphs), tA (qGEv cp1_0.Events), tA (qInt cp1_0.Keys), tA (qGFire cp1_0.Fired)] 0] [hA, hA] (bA r)) {p0 : List GNode} {r : Bool} (hh : cW.f g1 k p0 = some r) : ah P 147 [tA (qGNode p0), .clo 148 [.iptr [tA (qGRule cp1_0.Rules), tA (qGGraph cp1_0.Graphs), tA (qGEv cp1_0.Events), tA (qInt cp1_0.Keys), tA (qGFire cp1_0.Fired)] 0]] [hA, hA] (bA r) := by
 obtain ⟨cp1_0a, cp1_0b, cp1_0c, cp1_0d, cp1_0e⟩ := cp1_0
 unfold cW.f at hh
 refine go (ts := [(4, none)]) (rm := [.own]) (pm := [.skip, .skip]) Tryz.func147 ?_
 intro Fn LW IN len cast toNat wrap add sub mul bin lt eq At set part app fz' rep nadd nmax ssize sext sget scat seq slt Wide Flat Ones Room r' post' hC hF hr hp
 cbv
 replace hh := bind_some hh
 obtain ⟨c, b, hh⟩ := hh
 refine ac hF (fI hQ (g1 := g1) hg1 b) ?_
 cbv
 exact Eb

theorem pE {k : Nat} {p0 : GEng} {p1 : GGraph} {r : Bool} (hh : eH.f k p0 p1 = some r) : ah P 89 [.agg [tA (qGRule p0.Rules), tA (qGGraph p0.Graphs), tA (qGEv p0.Events), tA (qInt p0.Keys), tA (qGFire p0.Fired)], .agg [iA p1.Mode, tA (qGNode p1.Nodes), iA p1.Seen, iA p1.Now, bA p1.Full]] [hA, hA] (bA r) := by
 obtain ⟨p0a, p0b, p0c, p0d, p0e⟩ := p0
 obtain ⟨p1a, p1b, p1c, p1d, p1e⟩ := p1
 unfold eH.f at hh
 refine go (ts := [(4, none)]) (rm := [.own]) (pm := [.skip, .skip]) Tryz.func89 ?_
 intro Fn LW IN len cast toNat wrap add sub mul bin lt eq At set part app fz' rep nadd nmax ssize sext sget scat seq slt Wide Flat Ones Room r' post' hC hF hr hp
 cbv
 replace hh := bind_some hh
 obtain ⟨u, y, hh⟩ := hh
 refine ac hF (tl hQ y) ?_
 cbv
 replace hh := aD hh
 rcases hh with ⟨s, hh⟩ | ⟨s, hh⟩
 have c : u = true := Tb s
 have g := c; cbv at g; try rw [c]
 try rw [g]
 cbv
 refine bcs (fun d => ?_) (fun d => ?_)
 replace hh := ifT hh d
 try rw [d]
 cbv
 exact Eb
 replace hh := ifF hh d
 try rw [d]
 cbv
 replace hh := aD hh
 rcases hh with ⟨t, hh⟩ | ⟨t, hh⟩
 have j : (eq p1c (cast (len (qGEv p0c)))) = true := Tb t
 have g := j; cbv at g; try rw [j]
 try rw [g]
 cbv
 replace hh := bind_some hh
 obtain ⟨p, v, hh⟩ := hh
 refine ac hF (rL hQ v) ?_
 cbv
 replace hh := aD hh
 rcases hh with ⟨o, hh⟩ | ⟨o, hh⟩
 have b : (eq p1d p) = true := Tb o
 have g := b; cbv at g; try rw [b]
 try rw [g]
 cbv
 replace hh := bind_some hh
 obtain ⟨z, w, hh⟩ := hh
 refine ac hF (eW hQ (g1 := fun y0 => dx.f k y0 ((⟨p0a, p0b, p0c, p0d, p0e⟩ : GEng))) (fun h => nD hQ h) w) ?_
 cbv
 exact Eb
 have b : (eq p1d p) = false := Fb o
 have g := b; cbv at g; try rw [b]
 try rw [g]
 cbv
 exact Eb
 have j : (eq p1c (cast (len (qGEv p0c)))) = false := Fb t
 have g := j; cbv at g; try rw [j]
 try rw [g]
 cbv
 exact Eb
 have c : u = false := Fb s
 have g := c; cbv at g; try rw [c]
 try rw [g]
 cbv
 exact Eb

theorem s6 {k : Nat} {p0 : GGraph} {c0 : GEng} {r : Bool} (hh : fA.f k p0 c0 = some r) : ah P 88 [.agg [iA p0.Mode, tA (qGNode p0.Nodes), iA p0.Seen, iA p0.Now, bA p0.Full], .iptr [tA (qGRule c0.Rules), tA (qGGraph c0.Graphs), tA (qGEv c0.Events), tA (qInt c0.Keys), tA (qGFire c0.Fired)] 0] [hA, hA] (bA r) := by
 obtain ⟨p0a, p0b, p0c, p0d, p0e⟩ := p0
 obtain ⟨c0a, c0b, c0c, c0d, c0e⟩ := c0
 unfold fA.f at hh
 refine go (ts := [(3, none)]) (rm := [.own]) (pm := [.skip, .skip]) Tryz.func88 ?_
 intro Fn LW IN len cast toNat wrap add sub mul bin lt eq At set part app fz' rep nadd nmax ssize sext sget scat seq slt Wide Flat Ones Room r' post' hC hF hr hp
 cbv
 replace hh := bind_some hh
 obtain ⟨c, b, hh⟩ := hh
 refine ac hF (pE hQ b) ?_
 cbv
 exact Eb

theorem gL {k : Nat} {g1 : GGraph → Option Bool} {cp1_0 : GEng} (hg1 : ∀ {y0 : GGraph} {r : Bool}, g1 y0 = some r → ah P 88 [.agg [iA y0.Mode, tA (qGNode y0.Nodes), iA y0.Seen, iA y0.Now, bA y0.Full], .iptr [tA (qGRule cp1_0.Rules), tA (qGGraph cp1_0.Graphs), tA (qGEv cp1_0.Events), tA (qInt cp1_0.Keys), tA (qGFire cp1_0.Fired)] 0] [hA, hA] (bA r)) {p0 : List GGraph} {r : Int} (hh : a8.f g1 k p0 = some r) : ah P 145 [tA (qGGraph p0), .clo 88 [.iptr [tA (qGRule cp1_0.Rules), tA (qGGraph cp1_0.Graphs), tA (qGEv cp1_0.Events), tA (qInt cp1_0.Keys), tA (qGFire cp1_0.Fired)] 0]] [hA, hA] (iA r) := by
 obtain ⟨cp1_0a, cp1_0b, cp1_0c, cp1_0d, cp1_0e⟩ := cp1_0
 unfold a8.f at hh
 refine go (ts := [(4, none)]) (rm := [.own]) (pm := [.skip, .skip]) Tryz.func145 ?_
 intro Fn LW IN len cast toNat wrap add sub mul bin lt eq At set part app fz' rep nadd nmax ssize sext sget scat seq slt Wide Flat Ones Room r' post' hC hF hr hp
 cbv
 replace hh := bind_some hh
 obtain ⟨D, v, d⟩ := hh
 refine au hC eok mixed (a8.l0 k g1 p0)
  (fun j => (⟨[(0, tA (qGGraph p0)), (1, .clo 88 [.iptr [tA (qGRule cp1_0a), tA (qGGraph cp1_0b), tA (qGEv cp1_0c), tA (qInt cp1_0d), tA (qGFire cp1_0e)] 0]), (7, iA (cast (len (qGGraph p0)))), (8, iA j)], []⟩ : St))
  (fun (_ : Unit) => (⟨[], []⟩ : St)) .ok (.exit 0)
  (i0 := _) v (fun _ => rfl) ?_ ?_ ?_
 ·rintro F e
  refine ai ?_
  cbv
  all_goals exact J1
 rintro _ hx
 subst D
 have hh := d
 cbv
 exact Eb
 rintro n j H I hh w y z
 unfold a8.l0 at hh
 cbv
 refine bcs (fun b => ?_) (fun b => ?_)
 replace hh := ifT hh b
 try rw [b]
 cbv
 replace hh := aa hh
 obtain ⟨A, hh⟩ := hh
 replace hh := bind_some hh
 obtain ⟨⟨o, p, s, t, u⟩, B, hh⟩ := hh
 try dsimp only at hh
 refine ⟨[iA o, tA (qGNode p), iA s, iA t, bA u], Nb A, Gb B, ?_⟩
 cbv
 replace hh := bind_some hh
 obtain ⟨G, C, hh⟩ := hh
 refine ac hF (hg1 C) ?_
 cbv
 refine bcs (fun c => ?_) (fun c => ?_)
 replace hh := ifT hh c
 try rw [c]
 cbv
 cases hh
 have hh : some _ = some _ := d
 refine z _ _ ?_
 cbv
 exact Eb
 replace hh := ifF hh c
 try rw [c]
 cbv
 ·refine w _ _ hh fun F e => ?_
  refine ai ?_
  cbv
  all_goals exact J1
 replace hh := ifF hh b
 try rw [b]
 cbv
 ·refine y () _ hh fun _ e => ?_
  refine ai ?_
  cbv
  all_goals exact J0

theorem fW {k : Nat} {g1 : GGraph → Option Bool} {cp1_0 : GEng} (hg1 : ∀ {y0 : GGraph} {r : Bool}, g1 y0 = some r → ah P 88 [.agg [iA y0.Mode, tA (qGNode y0.Nodes), iA y0.Seen, iA y0.Now, bA y0.Full], .iptr [tA (qGRule cp1_0.Rules), tA (qGGraph cp1_0.Graphs), tA (qGEv cp1_0.Events), tA (qInt cp1_0.Keys), tA (qGFire cp1_0.Fired)] 0] [hA, hA] (bA r)) {p0 : List GGraph} {r : Bool} (hh : cO.f g1 k p0 = some r) : ah P 87 [tA (qGGraph p0), .clo 88 [.iptr [tA (qGRule cp1_0.Rules), tA (qGGraph cp1_0.Graphs), tA (qGEv cp1_0.Events), tA (qInt cp1_0.Keys), tA (qGFire cp1_0.Fired)] 0]] [hA, hA] (bA r) := by
 obtain ⟨cp1_0a, cp1_0b, cp1_0c, cp1_0d, cp1_0e⟩ := cp1_0
 unfold cO.f at hh
 refine go (ts := [(4, none)]) (rm := [.own]) (pm := [.skip, .skip]) Tryz.func87 ?_
 intro Fn LW IN len cast toNat wrap add sub mul bin lt eq At set part app fz' rep nadd nmax ssize sext sget scat seq slt Wide Flat Ones Room r' post' hC hF hr hp
 cbv
 replace hh := bind_some hh
 obtain ⟨c, b, hh⟩ := hh
 refine ac hF (gL hQ (g1 := g1) hg1 b) ?_
 cbv
 exact Eb

theorem te {p0 : Int} {r : Bool} (hh : fv.f p0 = some r) : ah P 91 [iA p0] [hA] (bA r) := by
 unfold fv.f at hh
 refine go (ts := [(2, none)]) (rm := [.own]) (pm := [.skip]) Tryz.func91 ?_
 intro Fn LW IN len cast toNat wrap add sub mul bin lt eq At set part app fz' rep nadd nmax ssize sext sget scat seq slt Wide Flat Ones Room r' post' hC hF hr hp
 cbv
 replace hh := bind_some hh
 obtain ⟨c, b, hh⟩ := hh
 refine ac hF (bo hQ b) ?_
 cbv
 exact Eb

theorem jh {k : Nat} {g1 : Int → Option Bool} (hg1 : ∀ {y0 : Int} {r : Bool}, g1 y0 = some r → ah P 91 [iA y0] [hA] (bA r)) {p0 : List Int} {r : Int} (hh : bi.f g1 k p0 = some r) : ah P 150 [tA (qInt p0), .clo 91 []] [hA, hA] (iA r) := by
 unfold bi.f at hh
 refine go (ts := [(4, none)]) (rm := [.own]) (pm := [.skip, .skip]) Tryz.func150 ?_
 intro Fn LW IN len cast toNat wrap add sub mul bin lt eq At set part app fz' rep nadd nmax ssize sext sget scat seq slt Wide Flat Ones Room r' post' hC hF hr hp
 cbv
 replace hh := bind_some hh
 obtain ⟨z, o, d⟩ := hh
 refine au hC eok mixed (bi.l0 k g1 p0)
  (fun j => (⟨[(0, tA (qInt p0)), (1, .clo 91 []), (7, iA (cast (len (qInt p0)))), (8, iA j)], []⟩ : St))
  (fun (_ : Unit) => (⟨[], []⟩ : St)) .ok (.exit 0)
  (i0 := _) o (fun _ => rfl) ?_ ?_ ?_
 ·rintro A e
  refine ai ?_
  cbv
  all_goals exact J1
 rintro _ hx
 subst z
 have hh := d
 cbv
 exact Eb
 rintro n j C D hh p s t
 unfold bi.l0 at hh
 cbv
 refine bcs (fun b => ?_) (fun b => ?_)
 replace hh := ifT hh b
 try rw [b]
 cbv
 replace hh := aa hh
 obtain ⟨u, hh⟩ := hh
 replace hh := bind_some hh
 obtain ⟨v, w, hh⟩ := hh
 refine ⟨[iA v], Nb u, Gb w, ?_⟩
 cbv
 replace hh := bind_some hh
 obtain ⟨B, y, hh⟩ := hh
 refine ac hF (hg1 y) ?_
 cbv
 refine bcs (fun c => ?_) (fun c => ?_)
 replace hh := ifT hh c
 try rw [c]
 cbv
 cases hh
 have hh : some _ = some _ := d
 refine t _ _ ?_
 cbv
 exact Eb
 replace hh := ifF hh c
 try rw [c]
 cbv
 ·refine p _ _ hh fun A e => ?_
  refine ai ?_
  cbv
  all_goals exact J1
 replace hh := ifF hh b
 try rw [b]
 cbv
 ·refine s () _ hh fun _ e => ?_
  refine ai ?_
  cbv
  all_goals exact J0

theorem ix {k : Nat} {g1 : Int → Option Bool} (hg1 : ∀ {y0 : Int} {r : Bool}, g1 y0 = some r → ah P 91 [iA y0] [hA] (bA r)) {p0 : List Int} {r : Bool} (hh : cp.f g1 k p0 = some r) : ah P 90 [tA (qInt p0), .clo 91 []] [hA, hA] (bA r) := by
 unfold cp.f at hh
 refine go (ts := [(4, none)]) (rm := [.own]) (pm := [.skip, .skip]) Tryz.func90 ?_
 intro Fn LW IN len cast toNat wrap add sub mul bin lt eq At set part app fz' rep nadd nmax ssize sext sget scat seq slt Wide Flat Ones Room r' post' hC hF hr hp
 cbv
 replace hh := bind_some hh
 obtain ⟨c, b, hh⟩ := hh
 refine ac hF (jh hQ (g1 := g1) hg1 b) ?_
 cbv
 exact Eb

theorem tC {k : Nat} {p0 : GFire} {c0 : GEng} {r : Bool} (hh : fx.f k p0 c0 = some r) : ah P 93 [.agg [iA p0.Rule, iA p0.Occ.From, iA p0.Occ.To, tA (qInt p0.Occ.Ids)], .iptr [tA (qGRule c0.Rules), tA (qGGraph c0.Graphs), tA (qGEv c0.Events), tA (qInt c0.Keys), tA (qGFire c0.Fired)] 0] [hA, hA] (bA r) := by
 obtain ⟨p0a, ⟨p0b, p0c, p0d⟩⟩ := p0
 obtain ⟨c0a, c0b, c0c, c0d, c0e⟩ := c0
 unfold fx.f at hh
 refine go (ts := [(3, none)]) (rm := [.own]) (pm := [.skip, .skip]) Tryz.func93 ?_
 intro Fn LW IN len cast toNat wrap add sub mul bin lt eq At set part app fz' rep nadd nmax ssize sext sget scat seq slt Wide Flat Ones Room r' post' hC hF hr hp
 cbv
 replace hh := bind_some hh
 obtain ⟨o, t, hh⟩ := hh
 refine ac hF (bo hQ t) ?_
 cbv
 replace hh := aD hh
 rcases hh with ⟨d, hh⟩ | ⟨d, hh⟩
 have c : o = true := Tb d
 have g := c; cbv at g; try rw [c]
 try rw [g]
 cbv
 replace hh := bind_some hh
 obtain ⟨p, u, hh⟩ := hh
 refine ac hF (ph hQ u) ?_
 cbv
 replace hh := aD hh
 rcases hh with ⟨j, hh⟩ | ⟨j, hh⟩
 have b : p = true := Tb j
 have g := b; cbv at g; try rw [b]
 try rw [g]
 cbv
 replace hh := bind_some hh
 obtain ⟨v, s, hh⟩ := hh
 refine ac hF (jp hQ s) ?_
 cbv
 exact Eb
 have b : p = false := Fb j
 have g := b; cbv at g; try rw [b]
 try rw [g]
 cbv
 exact Eb
 have c : o = false := Fb d
 have g := c; cbv at g; try rw [c]
 try rw [g]
 cbv
 exact Eb

theorem gN {k : Nat} {g1 : GFire → Option Bool} {cp1_0 : GEng} (hg1 : ∀ {y0 : GFire} {r : Bool}, g1 y0 = some r → ah P 93 [.agg [iA y0.Rule, iA y0.Occ.From, iA y0.Occ.To, tA (qInt y0.Occ.Ids)], .iptr [tA (qGRule cp1_0.Rules), tA (qGGraph cp1_0.Graphs), tA (qGEv cp1_0.Events), tA (qInt cp1_0.Keys), tA (qGFire cp1_0.Fired)] 0] [hA, hA] (bA r)) {p0 : List GFire} {r : Int} (hh : bg.f g1 k p0 = some r) : ah P 151 [tA (qGFire p0), .clo 93 [.iptr [tA (qGRule cp1_0.Rules), tA (qGGraph cp1_0.Graphs), tA (qGEv cp1_0.Events), tA (qInt cp1_0.Keys), tA (qGFire cp1_0.Fired)] 0]] [hA, hA] (iA r) := by
 obtain ⟨cp1_0a, cp1_0b, cp1_0c, cp1_0d, cp1_0e⟩ := cp1_0
 unfold bg.f at hh
 refine go (ts := [(4, none)]) (rm := [.own]) (pm := [.skip, .skip]) Tryz.func151 ?_
 intro Fn LW IN len cast toNat wrap add sub mul bin lt eq At set part app fz' rep nadd nmax ssize sext sget scat seq slt Wide Flat Ones Room r' post' hC hF hr hp
 cbv
 replace hh := bind_some hh
 obtain ⟨C, u, d⟩ := hh
 refine au hC eok mixed (bg.l0 k g1 p0)
  (fun j => (⟨[(0, tA (qGFire p0)), (1, .clo 93 [.iptr [tA (qGRule cp1_0a), tA (qGGraph cp1_0b), tA (qGEv cp1_0c), tA (qInt cp1_0d), tA (qGFire cp1_0e)] 0]), (7, iA (cast (len (qGFire p0)))), (8, iA j)], []⟩ : St))
  (fun (_ : Unit) => (⟨[], []⟩ : St)) .ok (.exit 0)
  (i0 := _) u (fun _ => rfl) ?_ ?_ ?_
 ·rintro D e
  refine ai ?_
  cbv
  all_goals exact J1
 rintro _ hx
 subst C
 have hh := d
 cbv
 exact Eb
 rintro n j G H hh v w y
 unfold bg.l0 at hh
 cbv
 refine bcs (fun b => ?_) (fun b => ?_)
 replace hh := ifT hh b
 try rw [b]
 cbv
 replace hh := aa hh
 obtain ⟨z, hh⟩ := hh
 replace hh := bind_some hh
 obtain ⟨⟨o, ⟨p, s, t⟩⟩, A, hh⟩ := hh
 try dsimp only at hh
 refine ⟨[iA o, iA p, iA s, tA (qInt t)], Nb z, Gb A, ?_⟩
 cbv
 replace hh := bind_some hh
 obtain ⟨F, B, hh⟩ := hh
 refine ac hF (hg1 B) ?_
 cbv
 refine bcs (fun c => ?_) (fun c => ?_)
 replace hh := ifT hh c
 try rw [c]
 cbv
 cases hh
 have hh : some _ = some _ := d
 refine y _ _ ?_
 cbv
 exact Eb
 replace hh := ifF hh c
 try rw [c]
 cbv
 ·refine v _ _ hh fun D e => ?_
  refine ai ?_
  cbv
  all_goals exact J1
 replace hh := ifF hh b
 try rw [b]
 cbv
 ·refine w () _ hh fun _ e => ?_
  refine ai ?_
  cbv
  all_goals exact J0

theorem gj {k : Nat} {g1 : GFire → Option Bool} {cp1_0 : GEng} (hg1 : ∀ {y0 : GFire} {r : Bool}, g1 y0 = some r → ah P 93 [.agg [iA y0.Rule, iA y0.Occ.From, iA y0.Occ.To, tA (qInt y0.Occ.Ids)], .iptr [tA (qGRule cp1_0.Rules), tA (qGGraph cp1_0.Graphs), tA (qGEv cp1_0.Events), tA (qInt cp1_0.Keys), tA (qGFire cp1_0.Fired)] 0] [hA, hA] (bA r)) {p0 : List GFire} {r : Bool} (hh : cV.f g1 k p0 = some r) : ah P 92 [tA (qGFire p0), .clo 93 [.iptr [tA (qGRule cp1_0.Rules), tA (qGGraph cp1_0.Graphs), tA (qGEv cp1_0.Events), tA (qInt cp1_0.Keys), tA (qGFire cp1_0.Fired)] 0]] [hA, hA] (bA r) := by
 obtain ⟨cp1_0a, cp1_0b, cp1_0c, cp1_0d, cp1_0e⟩ := cp1_0
 unfold cV.f at hh
 refine go (ts := [(4, none)]) (rm := [.own]) (pm := [.skip, .skip]) Tryz.func92 ?_
 intro Fn LW IN len cast toNat wrap add sub mul bin lt eq At set part app fz' rep nadd nmax ssize sext sget scat seq slt Wide Flat Ones Room r' post' hC hF hr hp
 cbv
 replace hh := bind_some hh
 obtain ⟨c, b, hh⟩ := hh
 refine ac hF (gN hQ (g1 := g1) hg1 b) ?_
 cbv
 exact Eb

theorem vq {k : Nat} {p0 : GEng} {r : Bool} (hh : ji.f k p0 = some r) : ah P 39 [.agg [tA (qGRule p0.Rules), tA (qGGraph p0.Graphs), tA (qGEv p0.Events), tA (qInt p0.Keys), tA (qGFire p0.Fired)]] [hA] (bA r) := by
 obtain ⟨p0a, p0b, p0c, p0d, p0e⟩ := p0
 unfold ji.f at hh
 refine go (ts := [(2, none)]) (rm := [.own]) (pm := [.skip]) Tryz.func39 ?_
 intro Fn LW IN len cast toNat wrap add sub mul bin lt eq At set part app fz' rep nadd nmax ssize sext sget scat seq slt Wide Flat Ones Room r' post' hC hF hr hp
 cbv
 replace hh := bind_some hh
 obtain ⟨B, H, hh⟩ := hh
 refine ac hF (nz hQ H) ?_
 cbv
 replace hh := aD hh
 rcases hh with ⟨z, hh⟩ | ⟨z, hh⟩
 have o : B = true := Tb z
 have g := o; cbv at g; try rw [o]
 try rw [g]
 cbv
 replace hh := aD hh
 rcases hh with ⟨A, hh⟩ | ⟨A, hh⟩
 have p : (eq (cast (len (qGGraph p0b))) (cast (len (qGRule p0a)))) = true := Tb A
 have g := p; cbv at g; try rw [p]
 try rw [g]
 cbv
 replace hh := bind_some hh
 obtain ⟨C, I, hh⟩ := hh
 refine ac hF (oZ hQ I) ?_
 cbv
 replace hh := aD hh
 rcases hh with ⟨s, hh⟩ | ⟨s, hh⟩
 have b : C = true := Tb s
 have g := b; cbv at g; try rw [b]
 try rw [g]
 cbv
 replace hh := aD hh
 rcases hh with ⟨t, hh⟩ | ⟨t, hh⟩
 have c : (eq (cast (len (qInt p0d))) 4) = true := Tb t
 have g := c; cbv at g; try rw [c]
 try rw [g]
 cbv
 replace hh := bind_some hh
 obtain ⟨w, D, hh⟩ := hh
 refine ac hF (fW hQ (g1 := fun y0 => fA.f k y0 ((⟨p0a, p0b, p0c, p0d, p0e⟩ : GEng))) (fun h => s6 hQ h) D) ?_
 cbv
 replace hh := aD hh
 rcases hh with ⟨u, hh⟩ | ⟨u, hh⟩
 have d : w = true := Tb u
 have g := d; cbv at g; try rw [d]
 try rw [g]
 cbv
 exact Eb
 have d : w = false := Fb u
 have g := d; cbv at g; try rw [d]
 try rw [g]
 cbv
 replace hh := bind_some hh
 obtain ⟨y, F, hh⟩ := hh
 refine ac hF (ix hQ (g1 := fun y0 => fv.f y0) (fun h => te hQ h) F) ?_
 cbv
 replace hh := aD hh
 rcases hh with ⟨v, hh⟩ | ⟨v, hh⟩
 have j : y = true := Tb v
 have g := j; cbv at g; try rw [j]
 try rw [g]
 cbv
 exact Eb
 have j : y = false := Fb v
 have g := j; cbv at g; try rw [j]
 try rw [g]
 cbv
 replace hh := bind_some hh
 obtain ⟨J, G, hh⟩ := hh
 refine ac hF (gj hQ (g1 := fun y0 => fx.f k y0 ((⟨p0a, p0b, p0c, p0d, p0e⟩ : GEng))) (fun h => tC hQ h) G) ?_
 cbv
 exact Eb
 have c : (eq (cast (len (qInt p0d))) 4) = false := Fb t
 have g := c; cbv at g; try rw [c]
 try rw [g]
 cbv
 exact Eb
 have b : C = false := Fb s
 have g := b; cbv at g; try rw [b]
 try rw [g]
 cbv
 exact Eb
 have p : (eq (cast (len (qGGraph p0b))) (cast (len (qGRule p0a)))) = false := Fb A
 have g := p; cbv at g; try rw [p]
 try rw [g]
 cbv
 exact Eb
 have o : B = false := Fb z
 have g := o; cbv at g; try rw [o]
 try rw [g]
 cbv
 exact Eb

theorem u5 {p0 : sH} {r : Bool} (hh : iz.f p0 = some r) : ah P 74 [.agg [iA p0.Sym, iA p0.Gap, iA p0.Val]] [hA] (bA r) := by
 obtain ⟨p0a, p0b, p0c⟩ := p0
 unfold iz.f at hh
 refine go (ts := [(2, none)]) (rm := [.own]) (pm := [.skip]) Tryz.func74 ?_
 intro Fn LW IN len cast toNat wrap add sub mul bin lt eq At set part app fz' rep nadd nmax ssize sext sget scat seq slt Wide Flat Ones Room r' post' hC hF hr hp
 cbv
 replace hh := bind_some hh
 obtain ⟨s, j, hh⟩ := hh
 refine ac hF (hJ hQ j) ?_
 cbv
 refine bcs (fun c => ?_) (fun c => ?_)
 replace hh := ifT hh c
 try rw [c]
 cbv
 replace hh := bind_some hh
 obtain ⟨t, o, hh⟩ := hh
 refine ac hF (bo hQ o) ?_
 cbv
 refine bcs (fun b => ?_) (fun b => ?_)
 replace hh := ifT hh b
 try rw [b]
 cbv
 replace hh := bind_some hh
 obtain ⟨p, d, hh⟩ := hh
 refine ac hF (bo hQ d) ?_
 cbv
 exact Eb
 replace hh := ifF hh b
 try rw [b]
 cbv
 exact Eb
 replace hh := ifF hh c
 try rw [c]
 cbv
 exact Eb

theorem sf {p0 : List GEv} {r : List GEv} (hh : gl.f p0 = some r) : ah P 64 [tA (qGEv p0)] [hA] (oA 3 (qGEv r)) := by
 unfold gl.f at hh
 refine go (ts := [(2, none)]) (rm := [.own]) (pm := [.skip]) Tryz.func64 ?_
 intro Fn LW IN len cast toNat wrap add sub mul bin lt eq At set part app fz' rep nadd nmax ssize sext sget scat seq slt Wide Flat Ones Room r' post' hC hF hr hp
 cbv
 replace hh := aa hh
 obtain ⟨b, hh⟩ := hh
 refine ⟨⟨Ab, Ab⟩, ?_⟩
 refine ⟨Wb b, ?_⟩
 exact Eb

theorem iT {p0 : GOcc} {r : GOcc} (hh : dr.f p0 = some r) : ah P 131 [.agg [iA p0.From, iA p0.To, tA (qInt p0.Ids)]] [hA] (.agg [iA r.From, iA r.To, oA 1 (qInt r.Ids)]) := by
 obtain ⟨p0a, p0b, p0c⟩ := p0
 unfold dr.f at hh
 refine go (ts := [(2, some 67)]) (rm := [.own]) (pm := [.skip]) Tryz.func131 ?_
 intro Fn LW IN len cast toNat wrap add sub mul bin lt eq At set part app fz' rep nadd nmax ssize sext sget scat seq slt Wide Flat Ones Room r' post' hC hF hr hp
 cbv
 replace hh := aa hh
 obtain ⟨b, hh⟩ := hh
 try dsimp only at b
 refine ⟨⟨Ab, Ab⟩, ?_⟩
 refine ⟨Wb b, ?_⟩
 exact Eb

theorem kO {k : Nat} {p0 : List GFire} {r : List GFire} (hh : bH.f k p0 = some r) : ah P 140 [tA (qGFire p0)] [hA] (oA 4 (qGFire r)) := by
 unfold bH.f at hh
 refine go (ts := [(2, none)]) (rm := [.own]) (pm := [.skip]) Tryz.func140 ?_
 intro Fn LW IN len cast toNat wrap add sub mul bin lt eq At set part app fz' rep nadd nmax ssize sext sget scat seq slt Wide Flat Ones Room r' post' hC hF hr hp
 cbv
 replace hh := bind_some hh
 obtain ⟨I, y, z⟩ := hh
 refine au hC eok mixed (fun n (i : (List GFire) × Int) => bH.l0 k p0 n i.1 i.2)
  (fun ⟨c, j⟩ => (⟨[(3, .ref (3, 50) 1 0 (len (qGFire c))), (6, tA (qGFire p0)), (7, iA (cast (len (qGFire p0)))), (8, iA j)], [((3, 50), .arr 1 4 (qGFire c))]⟩ : St))
  (fun (d : List GFire) => (⟨[(3, .ref (3, 50) 1 0 (len (qGFire d)))], [((3, 50), .arr 1 4 (qGFire d))]⟩ : St)) (fun x => x) (.exit 0)
  (i0 := (_, _)) y (fun _ => rfl) ?_ ?_ ?_
 ·rintro ⟨A, J⟩ e
  refine aw [] ?_
  cbv
  all_goals exact J2
 rintro d hx
 subst I
 have hh := z
 cbv
 exact Eb
 rintro n ⟨c, j⟩ L M hh B C K
 try dsimp only at hh
 unfold bH.l0 at hh
 cbv
 refine bcs (fun b => ?_) (fun b => ?_)
 replace hh := ifT hh b
 try rw [b]
 cbv
 replace hh := aa hh
 obtain ⟨D, hh⟩ := hh
 replace hh := bind_some hh
 obtain ⟨⟨o, ⟨p, s, t⟩⟩, F, hh⟩ := hh
 try dsimp only at hh
 refine ⟨[iA o, iA p, iA s, tA (qInt t)], Nb D, Gb F, ?_⟩
 cbv
 replace hh := bind_some hh
 obtain ⟨⟨u, v, w⟩, G, hh⟩ := hh
 try dsimp only at hh
 have fc := ah.frz (r' := .agg [iA u, iA v, tA (qInt w)]) (iT hQ G) (by cases hQ; simp)
 try dsimp only at fc
 refine ac hF fc ?_
 cbv
 replace hh := aa hh
 obtain ⟨H, hh⟩ := hh
 refine ⟨⟨Ob, Ab⟩, ?_⟩
 refine ⟨⟨Ob, Wb H⟩, ?_⟩
 ·refine B (_, _) _ hh fun ⟨A, J⟩ e => ?_
  refine aw [((3, 50), (20, 0))] ?_
  cbv
  all_goals exact J2
 replace hh := ifF hh b
 try rw [b]
 cbv
 ·refine C _ _ hh fun A e => ?_
  refine ai ?_
  cbv
  all_goals exact J1

theorem dN {k : Nat} {p0 : List GOcc} {r : List GOcc} (hh : bc.f k p0 = some r) : ah P 63 [tA (qGOcc p0)] [hA] (oA 3 (qGOccO r)) := by
 unfold bc.f at hh
 refine go (ts := [(2, none)]) (rm := [.own]) (pm := [.skip]) Tryz.func63 ?_
 intro Fn LW IN len cast toNat wrap add sub mul bin lt eq At set part app fz' rep nadd nmax ssize sext sget scat seq slt Wide Flat Ones Room r' post' hC hF hr hp
 cbv
 replace hh := bind_some hh
 obtain ⟨D, t, u⟩ := hh
 refine au hC eok mixed (fun n (i : (List GOcc) × Int) => bc.l0 k p0 n i.1 i.2)
  (fun ⟨c, j⟩ => (⟨[(3, .ref (3, 50) 1 0 (len (qGOccO c))), (6, tA (qGOcc p0)), (7, iA (cast (len (qGOcc p0)))), (8, iA j)], [((3, 50), .arr 1 3 (qGOccO c))]⟩ : St))
  (fun (d : List GOcc) => (⟨[(3, .ref (3, 50) 1 0 (len (qGOccO d)))], [((3, 50), .arr 1 3 (qGOccO d))]⟩ : St)) (fun x => x) (.exit 0)
  (i0 := (_, _)) t (fun _ => rfl) ?_ ?_ ?_
 ·rintro ⟨v, F⟩ e
  refine aw [] ?_
  cbv
  all_goals exact J2
 rintro d hx
 subst D
 have hh := u
 cbv
 exact Eb
 rintro n ⟨c, j⟩ K L hh w y J
 try dsimp only at hh
 unfold bc.l0 at hh
 cbv
 refine bcs (fun b => ?_) (fun b => ?_)
 replace hh := ifT hh b
 try rw [b]
 cbv
 replace hh := aa hh
 obtain ⟨z, hh⟩ := hh
 replace hh := bind_some hh
 obtain ⟨⟨o, p, s⟩, A, hh⟩ := hh
 try dsimp only at hh
 refine ⟨[iA o, iA p, tA (qInt s)], Nb z, Gb A, ?_⟩
 cbv
 replace hh := bind_some hh
 obtain ⟨⟨G, H, I⟩, B, hh⟩ := hh
 try dsimp only at hh
 have fc := iT hQ B
 try dsimp only at fc
 refine ac hF fc ?_
 cbv
 replace hh := aa hh
 obtain ⟨C, hh⟩ := hh
 refine ⟨⟨Ob, Ab⟩, ?_⟩
 refine ⟨⟨Ob, Wb C⟩, ?_⟩
 ·refine w (_, _) _ hh fun ⟨v, F⟩ e => ?_
  refine aw [((3, 50), (16, 0))] ?_
  cbv
  all_goals exact J2
 replace hh := ifF hh b
 try rw [b]
 cbv
 ·refine y _ _ hh fun v e => ?_
  refine ai ?_
  cbv
  all_goals exact J1

theorem pZ {k : Nat} {p0 : GPair} {r : GPair} (hh : gG.f k p0 = some r) : ah P 221 [.agg [tA (qGOcc p0.Left), tA (qGOcc p0.Right)]] [hA] (.agg [oA 3 (qGOccO r.Left), oA 3 (qGOccO r.Right)]) := by
 obtain ⟨p0a, p0b⟩ := p0
 unfold gG.f at hh
 refine go (ts := [(2, some 171)]) (rm := [.own]) (pm := [.skip]) Tryz.func221 ?_
 intro Fn LW IN len cast toNat wrap add sub mul bin lt eq At set part app fz' rep nadd nmax ssize sext sget scat seq slt Wide Flat Ones Room r' post' hC hF hr hp
 cbv
 replace hh := bind_some hh
 obtain ⟨d, b, hh⟩ := hh
 refine ac hF (dN hQ b) ?_
 cbv
 replace hh := bind_some hh
 obtain ⟨j, c, hh⟩ := hh
 refine ac hF (dN hQ c) ?_
 cbv
 exact Eb

theorem qb {k : Nat} {p0 : GSpan} {r : GSpan} (hh : gJ.f k p0 = some r) : ah P 222 [.agg [tA (qGOcc p0.Left), tA (qGOcc p0.Mid)]] [hA] (.agg [oA 3 (qGOccO r.Left), oA 3 (qGOccO r.Mid)]) := by
 obtain ⟨p0a, p0b⟩ := p0
 unfold gJ.f at hh
 refine go (ts := [(2, some 173)]) (rm := [.own]) (pm := [.skip]) Tryz.func222 ?_
 intro Fn LW IN len cast toNat wrap add sub mul bin lt eq At set part app fz' rep nadd nmax ssize sext sget scat seq slt Wide Flat Ones Room r' post' hC hF hr hp
 cbv
 replace hh := bind_some hh
 obtain ⟨d, b, hh⟩ := hh
 refine ac hF (dN hQ b) ?_
 cbv
 replace hh := bind_some hh
 obtain ⟨j, c, hh⟩ := hh
 refine ac hF (dN hQ c) ?_
 cbv
 exact Eb

theorem qc {k : Nat} {p0 : GNode} {r : GNode} (hh : eT.f k p0 = some r) : ah P 188 [.agg [iA p0.Kind, iA p0.Sym, iA p0.N, tA (qInt p0.Kids), tA (qGOcc p0.Pair.Left), tA (qGOcc p0.Pair.Right), tA (qGOcc p0.Span.Left), tA (qGOcc p0.Span.Mid), tA (qGOcc p0.Due), iA p0.Many]] [hA] (.agg [iA r.Kind, iA r.Sym, iA r.N, oA 1 (qInt r.Kids), oA 3 (qGOccO r.Pair.Left), oA 3 (qGOccO r.Pair.Right), oA 3 (qGOccO r.Span.Left), oA 3 (qGOccO r.Span.Mid), oA 3 (qGOccO r.Due), iA r.Many]) := by
 obtain ⟨p0a, p0b, p0c, p0d, ⟨p0e, p0f⟩, ⟨p0g, p0h⟩, p0i, p0j⟩ := p0
 unfold eT.f at hh
 refine go (ts := [(2, some 175)]) (rm := [.own]) (pm := [.skip]) Tryz.func188 ?_
 intro Fn LW IN len cast toNat wrap add sub mul bin lt eq At set part app fz' rep nadd nmax ssize sext sget scat seq slt Wide Flat Ones Room r' post' hC hF hr hp
 cbv
 replace hh := aa hh
 obtain ⟨b, hh⟩ := hh
 try dsimp only at b
 refine ⟨⟨Ab, Ab⟩, ?_⟩
 refine ⟨Wb b, ?_⟩
 replace hh := bind_some hh
 obtain ⟨⟨o, p⟩, c, hh⟩ := hh
 try dsimp only at hh
 have fc := pZ hQ c
 try dsimp only at fc
 refine ac hF fc ?_
 cbv
 replace hh := bind_some hh
 obtain ⟨⟨s, t⟩, d, hh⟩ := hh
 try dsimp only at hh
 have fc := qb hQ d
 try dsimp only at fc
 refine ac hF fc ?_
 cbv
 replace hh := bind_some hh
 obtain ⟨u, j, hh⟩ := hh
 refine ac hF (dN hQ j) ?_
 cbv
 exact Eb

theorem oN {k : Nat} {p0 : GGraph} {r : GGraph} (hh : bK.f k p0 = some r) : ah P 141 [.agg [iA p0.Mode, tA (qGNode p0.Nodes), iA p0.Seen, iA p0.Now, bA p0.Full]] [hA] (.agg [iA r.Mode, oA 10 (qGNode r.Nodes), iA r.Seen, iA r.Now, bA r.Full]) := by
 obtain ⟨p0a, p0b, p0c, p0d, p0e⟩ := p0
 unfold bK.f at hh
 refine go (ts := [(2, some 91)]) (rm := [.own]) (pm := [.skip]) Tryz.func141 ?_
 intro Fn LW IN len cast toNat wrap add sub mul bin lt eq At set part app fz' rep nadd nmax ssize sext sget scat seq slt Wide Flat Ones Room r' post' hC hF hr hp
 cbv
 replace hh := bind_some hh
 obtain ⟨W, M, N⟩ := hh
 refine au hC eok mixed (fun n (i : (List GNode) × Int) => bK.l0 k (⟨p0a, p0b, p0c, p0d, p0e⟩ : GGraph) n i.1 i.2)
  (fun ⟨c, j⟩ => (⟨[(1, .mptr (1, 0) 1 0 0), (2, .mptr (2, 0) 1 0 0), (3, .ref (3, 50) 1 0 (len (qGNode c))), (7, tA (qGNode p0b)), (8, iA (cast (len (qGNode p0b)))), (9, iA j)], [((1, 0), .box 1 [iA p0a, tA (qGNode p0b), iA p0c, iA p0d, bA p0e]), ((2, 0), .box 1 [iA 0, .lit (.slice none 0 0), iA 0, iA 0, bA false]), ((3, 50), .arr 1 10 (qGNode c))]⟩ : St))
  (fun (d : List GNode) => (⟨[(1, .mptr (1, 0) 1 0 0), (2, .mptr (2, 0) 1 0 0), (3, .ref (3, 50) 1 0 (len (qGNode d)))], [((1, 0), .box 1 [iA p0a, tA (qGNode p0b), iA p0c, iA p0d, bA p0e]), ((2, 0), .box 1 [iA 0, .lit (.slice none 0 0), iA 0, iA 0, bA false]), ((3, 50), .arr 1 10 (qGNode d))]⟩ : St)) (fun x => x) (.exit 0)
  (i0 := (_, _)) M (fun _ => rfl) ?_ ?_ ?_
 ·rintro ⟨O, X⟩ e
  refine aw [((1, 0), (1, 0)), ((2, 0), (2, 0))] ?_
  cbv
  all_goals exact J2
 rintro d hx
 subst W
 have hh := N
 cbv
 exact Eb
 rintro n ⟨c, j⟩ Z D1 hh Q R Y
 try dsimp only at hh
 unfold bK.l0 at hh
 cbv
 refine bcs (fun b => ?_) (fun b => ?_)
 replace hh := ifT hh b
 try rw [b]
 cbv
 replace hh := aa hh
 obtain ⟨S, hh⟩ := hh
 replace hh := bind_some hh
 obtain ⟨⟨o, p, s, t, ⟨u, v⟩, ⟨w, y⟩, z, A⟩, T, hh⟩ := hh
 try dsimp only at hh
 refine ⟨[iA o, iA p, iA s, tA (qInt t), tA (qGOcc u), tA (qGOcc v), tA (qGOcc w), tA (qGOcc y), tA (qGOcc z), iA A], Nb S, Gb T, ?_⟩
 cbv
 replace hh := bind_some hh
 obtain ⟨⟨B, C, D, F, ⟨G, H⟩, ⟨I, J⟩, K, L⟩, U, hh⟩ := hh
 try dsimp only at hh
 have fc := ah.frz (r' := .agg [iA B, iA C, iA D, tA (qInt F), tA (qGOcc G), tA (qGOcc H), tA (qGOcc I), tA (qGOcc J), tA (qGOcc K), iA L]) (qc hQ U) (by cases hQ; simp)
 try dsimp only at fc
 refine ac hF fc ?_
 cbv
 replace hh := aa hh
 obtain ⟨V, hh⟩ := hh
 refine ⟨⟨Ob, Ab⟩, ?_⟩
 refine ⟨⟨Ob, Wb V⟩, ?_⟩
 ·refine Q (_, _) _ hh fun ⟨O, X⟩ e => ?_
  refine aw [((1, 0), (1, 0)), ((2, 0), (2, 0)), ((3, 50), (17, 0))] ?_
  cbv
  all_goals exact J2
 replace hh := ifF hh b
 try rw [b]
 cbv
 ·refine R _ _ hh fun O e => ?_
  refine ai ?_
  cbv
  all_goals exact J1

theorem fX {k : Nat} {p0 : GEng} {r : GEng} (hh : bF.f k p0 = some r) : ah P 83 [.agg [tA (qGRule p0.Rules), tA (qGGraph p0.Graphs), tA (qGEv p0.Events), tA (qInt p0.Keys), tA (qGFire p0.Fired)]] [hA] (.agg [tA (qGRule r.Rules), oA 5 (qGGraphS r.Graphs), oA 3 (qGEv r.Events), oA 1 (qInt r.Keys), oA 4 (qGFire r.Fired)]) := by
 obtain ⟨p0a, p0b, p0c, p0d, p0e⟩ := p0
 unfold bF.f at hh
 refine go (ts := [(2, some 53)]) (rm := [.own]) (pm := [.skip]) Tryz.func83 ?_
 intro Fn LW IN len cast toNat wrap add sub mul bin lt eq At set part app fz' rep nadd nmax ssize sext sget scat seq slt Wide Flat Ones Room r' post' hC hF hr hp
 cbv
 replace hh := bind_some hh
 obtain ⟨s, K, hh⟩ := hh
 refine ac hF (ah.frz (r' := tA (qGRule s)) (kP hQ K) (by cases hQ; simp)) ?_
 cbv
 replace hh := bind_some hh
 obtain ⟨j, L, hh⟩ := hh
 refine ac hF (sf hQ L) ?_
 cbv
 replace hh := aa hh
 obtain ⟨z, hh⟩ := hh
 try dsimp only at z
 refine ⟨⟨Ab, Ab⟩, ?_⟩
 refine ⟨Wb z, ?_⟩
 replace hh := bind_some hh
 obtain ⟨o, M, hh⟩ := hh
 refine ac hF (kO hQ M) ?_
 cbv
 replace hh := bind_some hh
 obtain ⟨N, A, B⟩ := hh
 refine au hC eok mixed (fun n (i : (List GGraph) × Int) => bF.l0 k (⟨p0a, p0b, p0c, p0d, p0e⟩ : GEng) n i.1 i.2)
  (fun ⟨c, p⟩ => (⟨[(2, .mptr (2, 0) 1 0 0), (3, .mptr (3, 0) 1 0 0), (20, tA (qGGraph p0b)), (21, iA (cast (len (qGGraph p0b)))), (22, iA p)], [((2, 0), .box 1 [.lit (.slice none 0 0), .lit (.slice none 0 0), .lit (.slice none 0 0), .lit (.slice none 0 0), .lit (.slice none 0 0)]), ((3, 0), .box 1 [tA (qGRule s), .ref (3, 51) 1 0 (len (qGGraphS c)), .ref (11, 0) 1 0 (len (qGEv j)), .ref (14, 0) 1 0 (len (qInt p0d)), .ref (17, 0) 1 0 (len (qGFire o))]), ((3, 51), .arr 1 5 (qGGraphS c)), ((11, 0), .arr 1 3 (qGEv j)), ((14, 0), .arr 1 1 (qInt p0d)), ((17, 0), .arr 1 4 (qGFire o))]⟩ : St))
  (fun (d : List GGraph) => (⟨[(2, .mptr (2, 0) 1 0 0), (3, .mptr (3, 0) 1 0 0)], [((2, 0), .box 1 [.lit (.slice none 0 0), .lit (.slice none 0 0), .lit (.slice none 0 0), .lit (.slice none 0 0), .lit (.slice none 0 0)]), ((3, 0), .box 1 [tA (qGRule s), .ref (3, 51) 1 0 (len (qGGraphS d)), .ref (11, 0) 1 0 (len (qGEv j)), .ref (14, 0) 1 0 (len (qInt p0d)), .ref (17, 0) 1 0 (len (qGFire o))]), ((3, 51), .arr 1 5 (qGGraphS d)), ((11, 0), .arr 1 3 (qGEv j)), ((14, 0), .arr 1 1 (qInt p0d)), ((17, 0), .arr 1 4 (qGFire o))]⟩ : St)) (fun x => x) (.exit 0)
  (i0 := (_, _)) A (fun _ => rfl) ?_ ?_ ?_
 ·rintro ⟨C, O⟩ e
  refine aw [((2, 0), (2, 0)), ((3, 0), (3, 0)), ((11, 0), (11, 0)), ((14, 0), (14, 0)), ((17, 0), (17, 0))] ?_
  cbv
  all_goals exact J2
 rintro d hx
 subst N
 have hh := B
 cbv
 exact Eb
 rintro n ⟨c, p⟩ W X hh D F V
 try dsimp only at hh
 unfold bF.l0 at hh
 cbv
 refine bcs (fun b => ?_) (fun b => ?_)
 replace hh := ifT hh b
 try rw [b]
 cbv
 replace hh := aa hh
 obtain ⟨G, hh⟩ := hh
 replace hh := bind_some hh
 obtain ⟨⟨t, u, v, w, y⟩, H, hh⟩ := hh
 try dsimp only at hh
 refine ⟨[iA t, tA (qGNode u), iA v, iA w, bA y], Nb G, Gb H, ?_⟩
 cbv
 replace hh := bind_some hh
 obtain ⟨⟨Q, R, S, T, U⟩, I, hh⟩ := hh
 try dsimp only at hh
 have fc := oN hQ I
 try dsimp only at fc
 refine ac hF fc ?_
 cbv
 replace hh := aa hh
 obtain ⟨J, hh⟩ := hh
 refine ⟨⟨Ob, Ab⟩, ?_⟩
 refine ⟨⟨Ob, Wb J⟩, ?_⟩
 ·refine D (_, _) _ hh fun ⟨C, O⟩ e => ?_
  refine aw [((2, 0), (2, 0)), ((3, 0), (3, 0)), ((3, 51), (31, 0)), ((11, 0), (11, 0)), ((14, 0), (14, 0)), ((17, 0), (17, 0))] ?_
  cbv
  all_goals exact J2
 replace hh := ifF hh b
 try rw [b]
 cbv
 ·refine F _ _ hh fun C e => ?_
  refine ai ?_
  cbv
  all_goals exact J1

theorem tT {p0 : Int} {p1 : Int} {c0 : List GRule} {r : Int} (hh : gP.f p0 p1 c0 = some r) : ah P 224 [iA p0, iA p1, .iptr [tA (qGRule c0)] 0] [hA, hA, hA] (iA r) := by
 unfold gP.f at hh
 refine go (ts := [(5, none)]) (rm := [.own]) (pm := [.skip, .skip, .skip]) Tryz.func224 ?_
 intro Fn LW IN len cast toNat wrap add sub mul bin lt eq At set part app fz' rep nadd nmax ssize sext sget scat seq slt Wide Flat Ones Room r' post' hC hF hr hp
 cbv
 replace hh := aa hh
 obtain ⟨M, hh⟩ := hh
 replace hh := bind_some hh
 obtain ⟨⟨b, c, d, ⟨j, o, p, s⟩, t, u, v, w, y⟩, N, hh⟩ := hh
 try dsimp only at hh
 refine ⟨[sA b, iA c, iA d, iA j, iA o, iA p, tA (qGEx s), iA t, iA u, iA v, iA w, iA y], Nb M, Gb N, ?_⟩
 cbv
 replace hh := aa hh
 obtain ⟨O, hh⟩ := hh
 replace hh := bind_some hh
 obtain ⟨⟨z, A, B, ⟨C, D, F, G⟩, H, I, J, K, L⟩, Q, hh⟩ := hh
 try dsimp only at hh
 refine ⟨[sA z, iA A, iA B, iA C, iA D, iA F, tA (qGEx G), iA H, iA I, iA J, iA K, iA L], Nb O, Gb Q, ?_⟩
 cbv
 exact Eb

theorem dk {k : Nat} {g3 : Int → Int → Option Int} {cp3_0 : List GRule} (hg3 : ∀ {y0 : Int} {y1 : Int} {r : Int}, g3 y0 y1 = some r → ah P 224 [iA y0, iA y1, .iptr [tA (qGRule cp3_0)] 0] [hA, hA, hA] (iA r)) {p0 : List Int} {p1 : Int} {p2 : Int} {r : List Int} (hh : aq.f g3 k p0 p1 p2 = some r) : ah P 267 [oA 1 (qInt p0), iA p1, iA p2, .clo 224 [.iptr [tA (qGRule cp3_0)] 0]] [oA 1 (qInt r), hA, hA, hA] (.tup []) := by
 unfold aq.f at hh
 refine go (ts := []) (rm := []) (pm := [.own, .skip, .skip, .skip]) Tryz.func267 ?_
 intro Fn LW IN len cast toNat wrap add sub mul bin lt eq At set part app fz' rep nadd nmax ssize sext sget scat seq slt Wide Flat Ones Room r' post' hC hF hr hp
 cbv
 replace hh := bind_some hh
 obtain ⟨o1, U, V⟩ := hh
 refine au hC eok mixed (fun n (i : (List Int) × Int) => aq.l2 k g3 p1 p2 n i.1 i.2)
  (fun ⟨u, v⟩ => (⟨[(0, .ref (0, 0) 1 0 (len (qInt u))), (1, iA p1), (2, iA p2), (3, .clo 224 [.iptr [tA (qGRule cp3_0)] 0]), (8, iA v), (1000000, .ref (0, 0) 1 0 (len (qInt u)))], [((0, 0), .arr 1 1 (qInt u))]⟩ : St))
  (fun (p : List Int) => (⟨[(1000000, .ref (0, 0) 1 0 (len (qInt p)))], [((0, 0), .arr 1 1 (qInt p))]⟩ : St)) (fun x => x) (.exit 0)
  (i0 := (_, _)) U (fun _ => rfl) ?_ ?_ ?_
 ·rintro ⟨w, C⟩ e
  refine ai ?_
  cbv
  all_goals exact J2
 rintro p hx
 subst o1
 have hh := V
 cbv
 exact Eb
 rintro n ⟨u, v⟩ N1 D1 hh W X BB
 try dsimp only at hh
 unfold aq.l2 at hh
 cbv
 refine bcs (fun b => ?_) (fun b => ?_)
 replace hh := ifT hh b
 try rw [b]
 cbv
 replace hh := bind_some hh
 obtain ⟨o2, Y, Z⟩ := hh
 refine au hC eok mixed (fun n (i : (List Int) × Int) => aq.l3 k g3 p1 n i.1 i.2)
  (fun ⟨j, y⟩ => (⟨[(0, .ref (0, 0) 1 0 (len (qInt j))), (1, iA p1), (2, iA p2), (3, .clo 224 [.iptr [tA (qGRule cp3_0)] 0]), (8, iA v), (9, iA y), (1000000, .ref (0, 0) 1 0 (len (qInt j)))], [((0, 0), .arr 1 1 (qInt j))]⟩ : St))
  (fun (o : List Int) => (⟨[(0, .ref (0, 0) 1 0 (len (qInt o))), (1, iA p1), (2, iA p2), (3, .clo 224 [.iptr [tA (qGRule cp3_0)] 0]), (8, iA v), (1000000, .ref (0, 0) 1 0 (len (qInt o)))], [((0, 0), .arr 1 1 (qInt o))]⟩ : St)) (fun x => x) (.exit 2)
  (i0 := (_, _)) Y (fun _ => rfl) ?_ ?_ ?_
 ·rintro ⟨w, C⟩ e
  refine ai ?_
  cbv
  all_goals exact J2
 rintro o hx
 subst o2
 have hh := Z
 cbv
 ·refine W (_, _) _ hh fun ⟨w, C⟩ e => ?_
  refine ai ?_
  cbv
  all_goals exact J2
 rintro n ⟨j, y⟩ N2 D2 hh dj B BL
 try dsimp only at hh
 unfold aq.l3 at hh
 cbv
 refine bcs (fun c => ?_) (fun c => ?_)
 replace hh := ifT hh c
 try rw [c]
 cbv
 replace hh := aa hh
 obtain ⟨D, hh⟩ := hh
 replace hh := aa hh
 obtain ⟨F, hh⟩ := hh
 refine ⟨Nb D, Mb F, ?_⟩
 replace hh := bind_some hh
 obtain ⟨s, t, hh⟩ := hh
 refine ⟨[iA s], Gb t, ?_⟩
 cbv
 replace hh := aa hh
 obtain ⟨G, hh⟩ := hh
 replace hh := aa hh
 obtain ⟨H, hh⟩ := hh
 refine ⟨Nb G, Mb H, ?_⟩
 replace hh := bind_some hh
 obtain ⟨z, A, hh⟩ := hh
 refine ⟨[iA z], Gb A, ?_⟩
 cbv
 replace hh := bind_some hh
 obtain ⟨Bz, I, hh⟩ := hh
 refine ac hF (hg3 I) ?_
 cbv
 refine bcs (fun d => ?_) (fun d => ?_)
 replace hh := ifT hh d
 try rw [d]
 cbv
 replace hh := aa hh
 obtain ⟨J, hh⟩ := hh
 replace hh := aa hh
 obtain ⟨K, hh⟩ := hh
 refine ⟨Nb J, Mb K, ?_⟩
 refine ⟨[iA z], Gb A, ?_⟩
 cbv
 replace hh := aa hh
 obtain ⟨L, hh⟩ := hh
 replace hh := aa hh
 obtain ⟨M, hh⟩ := hh
 refine ⟨Nb L, Mb M, ?_⟩
 refine ⟨[iA s], Gb t, ?_⟩
 cbv
 replace hh := aa hh
 obtain ⟨N, hh⟩ := hh
 replace hh := aa hh
 obtain ⟨O, hh⟩ := hh
 refine ⟨Nb N, Mb O, ?_⟩
 refine ⟨[iA s], Gb t, ?_⟩
 cbv
 replace hh := aa hh
 obtain ⟨Q, hh⟩ := hh
 replace hh := aa hh
 obtain ⟨R, hh⟩ := hh
 refine ⟨Nb Q, Mb R, ?_⟩
 replace hh := bind_some hh
 obtain ⟨S, T, hh⟩ := hh
 refine ⟨[iA S], Gb T, ?_⟩
 cbv
 ·refine dj (_, _) _ hh fun ⟨w, C⟩ e => ?_
  refine ai ?_
  cbv
  all_goals exact J2
 replace hh := ifF hh d
 try rw [d]
 cbv
 ·refine B _ _ hh fun w e => ?_
  refine ai ?_
  cbv
  all_goals exact J1
 replace hh := ifF hh c
 try rw [c]
 cbv
 ·refine B _ _ hh fun w e => ?_
  refine ai ?_
  cbv
  all_goals exact J1
 replace hh := ifF hh b
 try rw [b]
 cbv
 ·refine X _ _ hh fun w e => ?_
  refine ai ?_
  cbv
  all_goals exact J1

theorem im {k : Nat} {g2 : Int → Int → Option Int} {cp2_0 : List GRule} (hg2 : ∀ {y0 : Int} {y1 : Int} {r : Int}, g2 y0 y1 = some r → ah P 224 [iA y0, iA y1, .iptr [tA (qGRule cp2_0)] 0] [hA, hA, hA] (iA r)) {p0 : List Int} {p1 : Int} {r : List Int} (hh : aH.f g2 k p0 p1 = some r) : ah P 251 [oA 1 (qInt p0), iA p1, .clo 224 [.iptr [tA (qGRule cp2_0)] 0]] [oA 1 (qInt r), hA, hA] (.tup []) := by
 unfold aH.f at hh
 refine go (ts := []) (rm := []) (pm := [.own, .skip, .skip]) Tryz.func251 ?_
 intro Fn LW IN len cast toNat wrap add sub mul bin lt eq At set part app fz' rep nadd nmax ssize sext sget scat seq slt Wide Flat Ones Room r' post' hC hF hr hp
 cbv
 replace hh := bind_some hh
 obtain ⟨F, t, u⟩ := hh
 refine au hC eok mixed (fun n (i : (List Int) × Int × Int) => aH.l0 k g2 p1 n i.1 i.2.1 i.2.2)
  (fun ⟨A, G, B⟩ => (⟨[(0, .ref (0, 0) 1 0 (len (qInt A))), (1, iA p1), (2, .clo 224 [.iptr [tA (qGRule cp2_0)] 0]), (6, iA 20), (7, iA G), (8, iA B), (1000000, .ref (0, 0) 1 0 (len (qInt A)))], [((0, 0), .arr 1 1 (qInt A))]⟩ : St))
  (fun (⟨s, D⟩ : (List Int) × Int) => (⟨[(0, .ref (0, 0) 1 0 (len (qInt s))), (1, iA p1), (2, .clo 224 [.iptr [tA (qGRule cp2_0)] 0]), (6, iA 20), (7, iA D), (1000000, .ref (0, 0) 1 0 (len (qInt s)))], [((0, 0), .arr 1 1 (qInt s))]⟩ : St)) (fun x => x) (.exit 0)
  (i0 := (_, _, _)) t (fun _ => rfl) ?_ ?_ ?_
 ·rintro ⟨C, H, O⟩ e
  refine ai ?_
  cbv
  all_goals exact J3
 rintro ⟨s, D⟩ hx
 subst F
 have hh := u
 cbv
 replace hh := bind_some hh
 obtain ⟨b, I, hh⟩ := hh
 replace hh := aa hh
 obtain ⟨T, hh⟩ := hh
 refine ac hF (dk hQ (g3 := g2) hg2 I) ?_
 cbv
 replace hh := bind_some hh
 obtain ⟨F, t, u⟩ := hh
 refine au hC eok mixed (aH.l3 k p1)
  (fun c => (⟨[(0, .ref (0, 0) 1 0 (len (qInt b))), (1, iA p1), (2, .clo 224 [.iptr [tA (qGRule cp2_0)] 0]), (6, iA c), (1000000, .ref (0, 0) 1 0 (len (qInt b)))], [((0, 0), .arr 1 1 (qInt b))]⟩ : St))
  (fun (_ : Unit) => (⟨[(1000000, .ref (0, 0) 1 0 (len (qInt b)))], [((0, 0), .arr 1 1 (qInt b))]⟩ : St)) (fun x => x) (.exit 2)
  (i0 := _) t (fun _ => rfl) ?_ ?_ ?_
 ·rintro C e
  refine ai ?_
  cbv
  all_goals exact J1
 rintro _ hx
 subst F
 have hh := u
 cbv
 exact Eb
 rintro n c Q R hh v w J
 unfold aH.l3 at hh
 cbv
 refine bcs (fun d => ?_) (fun d => ?_)
 replace hh := ifT hh d
 try rw [d]
 cbv
 replace hh := bind_some hh
 obtain ⟨S, K, L⟩ := hh
 refine au hC eok mixed (fun n (_ : Unit) => aH.l4 k p1 c n)
  (fun _ => (⟨[(0, .ref (0, 0) 1 0 (len (qInt b))), (1, iA p1), (2, .clo 224 [.iptr [tA (qGRule cp2_0)] 0]), (6, iA c), (7, iA 0), (8, iA (wrap .i64 (mul 2 c))), (1000000, .ref (0, 0) 1 0 (len (qInt b)))], [((0, 0), .arr 1 1 (qInt b))]⟩ : St))
  (fun (_ : Unit) => (⟨[(0, .ref (0, 0) 1 0 (len (qInt b))), (1, iA p1), (2, .clo 224 [.iptr [tA (qGRule cp2_0)] 0]), (6, iA c), (7, iA 0), (1000000, .ref (0, 0) 1 0 (len (qInt b)))], [((0, 0), .arr 1 1 (qInt b))]⟩ : St)) (fun x => x) (.exit 4)
  (i0 := ()) K (fun _ => rfl) ?_ ?_ ?_
 ·rintro _ e
  refine ai ?_
  cbv
  all_goals exact J0
 rintro _ hx
 subst S
 have hh := L
 cbv
 refine bcs (fun j => ?_) (fun j => ?_)
 replace hh := ifT hh j
 try rw [j]
 cbv
 cases hh
 replace hh := ifF hh j
 try rw [j]
 cbv
 ·refine v _ _ hh fun C e => ?_
  refine ai ?_
  cbv
  all_goals exact J1
 rintro n _ Y Z hh U M V
 try dsimp only at hh
 unfold aH.l4 at hh
 cbv
 replace hh := aD hh
 rcases hh with ⟨y, hh⟩ | ⟨y, hh⟩
 have o : (lt p1 (wrap .i64 (mul 2 c))) = true := Tb y
 have g := o; cbv at g; try rw [o]
 try rw [g]
 cbv
 ·refine M () _ hh fun _ e => ?_
  refine ai ?_
  cbv
  all_goals exact J0
 have o : (lt p1 (wrap .i64 (mul 2 c))) = false := Fb y
 have g := o; cbv at g; try rw [o]
 try rw [g]
 cbv
 cases hh
 replace hh := ifF hh d
 try rw [d]
 cbv
 ·refine w () _ hh fun _ e => ?_
  refine ai ?_
  cbv
  all_goals exact J0
 rintro n ⟨A, G, B⟩ Q R hh v w J
 try dsimp only at hh
 unfold aH.l0 at hh
 cbv
 replace hh := aD hh
 rcases hh with ⟨z, hh⟩ | ⟨z, hh⟩
 have p : (lt p1 B) = true := Tb z
 have g := p; cbv at g; try rw [p]
 try rw [g]
 cbv
 ·refine w (_, _) _ hh fun ⟨C, H⟩ e => ?_
  refine ai ?_
  cbv
  all_goals exact J2
 have p : (lt p1 B) = false := Fb z
 have g := p; cbv at g; try rw [p]
 try rw [g]
 cbv
 replace hh := bind_some hh
 obtain ⟨W, N, hh⟩ := hh
 replace hh := aa hh
 obtain ⟨X, hh⟩ := hh
 refine ac hF (dk hQ (g3 := g2) hg2 N) ?_
 cbv
 ·refine v (_, _, _) _ hh fun ⟨C, H, O⟩ e => ?_
  refine ai ?_
  cbv
  all_goals exact J3

theorem ia {k : Nat} {g1 : Int → Int → Option Int} {cp1_0 : List GRule} (hg1 : ∀ {y0 : Int} {y1 : Int} {r : Int}, g1 y0 y1 = some r → ah P 224 [iA y0, iA y1, .iptr [tA (qGRule cp1_0)] 0] [hA, hA, hA] (iA r)) {p0 : List Int} {r : List Int} (hh : dp.f g1 k p0 = some r) : ah P 223 [oA 1 (qInt p0), .clo 224 [.iptr [tA (qGRule cp1_0)] 0]] [oA 1 (qInt r), hA] (.tup []) := by
 unfold dp.f at hh
 refine go (ts := []) (rm := []) (pm := [.own, .skip]) Tryz.func223 ?_
 intro Fn LW IN len cast toNat wrap add sub mul bin lt eq At set part app fz' rep nadd nmax ssize sext sget scat seq slt Wide Flat Ones Room r' post' hC hF hr hp
 cbv
 replace hh := bind_some hh
 obtain ⟨c, b, hh⟩ := hh
 replace hh := aa hh
 obtain ⟨d, hh⟩ := hh
 refine ac hF (im hQ (g2 := g1) hg1 b) ?_
 cbv
 exact Eb

theorem wj {k : Nat} {p0 : List GRule} {r : List Int} (hh : cX.f k p0 = some r) : ah P 189 [tA (qGRule p0)] [hA] (oA 1 (qInt r)) := by
 unfold cX.f at hh
 refine go (ts := [(2, none)]) (rm := [.own]) (pm := [.skip]) Tryz.func189 ?_
 intro Fn LW IN len cast toNat wrap add sub mul bin lt eq At set part app fz' rep nadd nmax ssize sext sget scat seq slt Wide Flat Ones Room r' post' hC hF hr hp
 cbv
 replace hh := bind_some hh
 obtain ⟨y, j, o⟩ := hh
 refine au hC eok mixed (fun n (i : (List Int) × Int) => cX.l0 k p0 n i.1 i.2)
  (fun ⟨c, p⟩ => (⟨[(1, .mptr (1, 0) 1 0 0), (3, .ref (3, 50) 1 0 (len (qInt c))), (6, iA (cast (len (qGRule p0)))), (7, iA p)], [((1, 0), .box 1 [tA (qGRule p0)]), ((3, 50), .arr 1 1 (qInt c))]⟩ : St))
  (fun (d : List Int) => (⟨[(1, .mptr (1, 0) 1 0 0), (3, .ref (3, 50) 1 0 (len (qInt d)))], [((1, 0), .box 1 [tA (qGRule p0)]), ((3, 50), .arr 1 1 (qInt d))]⟩ : St)) (fun x => x) (.exit 0)
  (i0 := (_, _)) j (fun _ => rfl) ?_ ?_ ?_
 ·rintro ⟨s, z⟩ e
  refine aw [((1, 0), (1, 0))] ?_
  cbv
  all_goals exact J2
 rintro d hx
 subst y
 have hh := o
 cbv
 replace hh := bind_some hh
 obtain ⟨A, t, hh⟩ := hh
 replace hh := aa hh
 obtain ⟨B, hh⟩ := hh
 refine ac hF (ia hQ (g1 := fun y0 y1 => gP.f y0 y1 p0) (fun h => tT hQ h) t) ?_
 cbv
 exact Eb
 rintro n ⟨c, p⟩ D F hh u v C
 try dsimp only at hh
 unfold cX.l0 at hh
 cbv
 refine bcs (fun b => ?_) (fun b => ?_)
 replace hh := ifT hh b
 try rw [b]
 cbv
 replace hh := aa hh
 obtain ⟨w, hh⟩ := hh
 refine ⟨⟨Ob, Ab⟩, ?_⟩
 refine ⟨⟨Ob, Wb w⟩, ?_⟩
 ·refine u (_, _) _ hh fun ⟨s, z⟩ e => ?_
  refine aw [((1, 0), (1, 0)), ((3, 50), (13, 0))] ?_
  cbv
  all_goals exact J2
 replace hh := ifF hh b
 try rw [b]
 cbv
 ·refine v _ _ hh fun s e => ?_
  refine ai ?_
  cbv
  all_goals exact J1

theorem qQ {k : Nat} {p0 : GGraph} {p1 : Int} {r : Int × Bool × GGraph} (hh : aR.f k p0 p1 = some r) : ah P 129 [.obox [iA p0.Mode, oA 10 (qGNode p0.Nodes), iA p0.Seen, iA p0.Now, bA p0.Full], iA p1] [.obox [iA r.2.2.Mode, oA 10 (qGNode r.2.2.Nodes), iA r.2.2.Seen, iA r.2.2.Now, bA r.2.2.Full], hA] (.tup [iA r.1, bA r.2.1]) := by
 obtain ⟨p0a, p0b, p0c, p0d, p0e⟩ := p0
 unfold aR.f at hh
 refine go (ts := [(4, none), (5, none)]) (rm := [.own, .own]) (pm := [.own, .skip]) Tryz.func129 ?_
 intro Fn LW IN len cast toNat wrap add sub mul bin lt eq At set part app fz' rep nadd nmax ssize sext sget scat seq slt Wide Flat Ones Room r' post' hC hF hr hp
 cbv
 replace hh := bind_some hh
 obtain ⟨o1, Q, R⟩ := hh
 refine au hC eok mixed (fun n (i : Int × Int) => aR.l2 k (⟨p0a, p0b, p0c, p0d, p0e⟩ : GGraph) n i.1 i.2)
  (fun ⟨H, p⟩ => (⟨[(1, iA p1), (6, iA H), (15, .ref (15, 0) 1 0 (len (qGNode p0b))), (16, iA (cast (len (qGNode p0b)))), (17, iA p), (1000000, .mptr (0, 0) 1 0 0)], [((0, 0), .box 1 [iA p0a, .ref (15, 0) 1 0 (len (qGNode p0b)), iA p0c, iA p0d, bA p0e]), ((15, 0), .arr 1 10 (qGNode p0b))]⟩ : St))
  (fun (I : Int) => (⟨[(1, iA p1), (6, iA I), (1000000, .mptr (0, 0) 1 0 0)], [((0, 0), .box 1 [iA p0a, .ref (15, 0) 1 0 (len (qGNode p0b)), iA p0c, iA p0d, bA p0e]), ((15, 0), .arr 1 10 (qGNode p0b))]⟩ : St)) (fun x => x) (.exit 0)
  (i0 := (_, _)) Q (fun _ => rfl) ?_ ?_ ?_
 ·rintro ⟨t, G⟩ e
  refine ai ?_
  cbv
  all_goals exact J2
 rintro I hx
 subst o1
 have hh := R
 cbv
 exact Eb
 rintro n ⟨H, p⟩ N1 D1 hh S T Bz
 try dsimp only at hh
 unfold aR.l2 at hh
 cbv
 refine bcs (fun c => ?_) (fun c => ?_)
 replace hh := ifT hh c
 try rw [c]
 cbv
 replace hh := aa hh
 obtain ⟨U, hh⟩ := hh
 replace hh := aa hh
 obtain ⟨J, hh⟩ := hh
 try dsimp only at J
 refine ⟨Nb U, Mb J, ?_⟩
 replace hh := bind_some hh
 obtain ⟨⟨u, v, w, y, ⟨z, A⟩, ⟨B, C⟩, b, D⟩, V, hh⟩ := hh
 try dsimp only at hh
 refine ⟨[iA u, iA v, iA w, tA (qInt y), tA (qGOcc z), tA (qGOcc A), tA (qGOcc B), tA (qGOcc C), tA (qGOcc b), iA D], Gb V, ?_⟩
 cbv
 replace hh := bind_some hh
 obtain ⟨o2, W, X⟩ := hh
 refine au hC eok mixed (fun n (i : Int × Int) => aR.l3 k (⟨u, v, w, y, ⟨z, A⟩, ⟨B, C⟩, b, D⟩ : GNode) n i.1 i.2)
  (fun ⟨s, K⟩ => (⟨[(1, iA p1), (6, iA s), (15, .ref (15, 0) 1 0 (len (qGNode p0b))), (16, iA (cast (len (qGNode p0b)))), (17, iA p), (22, tA (qGOcc b)), (23, iA (cast (len (qGOcc b)))), (24, iA K), (1000000, .mptr (0, 0) 1 0 0)], [((0, 0), .box 1 [iA p0a, .ref (15, 0) 1 0 (len (qGNode p0b)), iA p0c, iA p0d, bA p0e]), ((15, 0), .arr 1 10 (qGNode p0b))]⟩ : St))
  (fun (L : Int) => (⟨[(1, iA p1), (6, iA L), (15, .ref (15, 0) 1 0 (len (qGNode p0b))), (16, iA (cast (len (qGNode p0b)))), (17, iA p), (1000000, .mptr (0, 0) 1 0 0)], [((0, 0), .box 1 [iA p0a, .ref (15, 0) 1 0 (len (qGNode p0b)), iA p0c, iA p0d, bA p0e]), ((15, 0), .arr 1 10 (qGNode p0b))]⟩ : St)) (fun x => x) (.exit 2)
  (i0 := (_, _)) W (fun _ => rfl) ?_ ?_ ?_
 ·rintro ⟨t, G⟩ e
  refine ai ?_
  cbv
  all_goals exact J2
 rintro L hx
 subst o2
 have hh := X
 cbv
 ·refine S (_, _) _ hh fun ⟨t, G⟩ e => ?_
  refine ai ?_
  cbv
  all_goals exact J2
 rintro n ⟨s, K⟩ N2 D2 hh M Y BB
 try dsimp only at hh
 unfold aR.l3 at hh
 cbv
 refine bcs (fun d => ?_) (fun d => ?_)
 replace hh := ifT hh d
 try rw [d]
 cbv
 replace hh := aa hh
 obtain ⟨Z, hh⟩ := hh
 replace hh := bind_some hh
 obtain ⟨⟨N, o, O⟩, dj, hh⟩ := hh
 try dsimp only at hh
 refine ⟨[iA N, iA o, tA (qInt O)], Nb Z, Gb dj, ?_⟩
 cbv
 replace hh := aD hh
 rcases hh with ⟨F, hh⟩ | ⟨F, hh⟩
 have j : (lt o s) = true := Tb F
 have g := j; cbv at g; try rw [j]
 try rw [g]
 cbv
 ·refine M (_, _) _ hh fun ⟨t, G⟩ e => ?_
  refine ai ?_
  cbv
  all_goals exact J2
 have j : (lt o s) = false := Fb F
 have g := j; cbv at g; try rw [j]
 try rw [g]
 cbv
 ·refine M (_, _) _ hh fun ⟨t, G⟩ e => ?_
  refine ai ?_
  cbv
  all_goals exact J2
 replace hh := ifF hh d
 try rw [d]
 cbv
 ·refine Y _ _ hh fun t e => ?_
  refine ai ?_
  cbv
  all_goals exact J1
 replace hh := ifF hh c
 try rw [c]
 cbv
 ·refine T _ _ hh fun t e => ?_
  refine ai ?_
  cbv
  all_goals exact J1

theorem wH {p0 : GOcc} {c0 : Int} {r : Bool} (hh : kt.f p0 c0 = some r) : ah P 250 [.agg [iA p0.From, iA p0.To, tA (qInt p0.Ids)], .iptr [iA c0] 0] [hA, hA] (bA r) := by
 obtain ⟨p0a, p0b, p0c⟩ := p0
 unfold kt.f at hh
 refine go (ts := [(3, none)]) (rm := [.own]) (pm := [.skip, .skip]) Tryz.func250 ?_
 intro Fn LW IN len cast toNat wrap add sub mul bin lt eq At set part app fz' rep nadd nmax ssize sext sget scat seq slt Wide Flat Ones Room r' post' hC hF hr hp
 cbv
 exact Eb

theorem mH {k : Nat} {g1 : GOcc → Option Bool} {cp1_0 : Int} (hg1 : ∀ {y0 : GOcc} {r : Bool}, g1 y0 = some r → ah P 250 [.agg [iA y0.From, iA y0.To, tA (qInt y0.Ids)], .iptr [iA cp1_0] 0] [hA, hA] (bA r)) {p0 : List GOcc} {r : List GOcc} (hh : aQ.f g1 k p0 = some r) : ah P 218 [tA (qGOcc p0), .clo 250 [.iptr [iA cp1_0] 0]] [hA, hA] (oA 3 (qGOcc r)) := by
 unfold aQ.f at hh
 refine go (ts := [(4, none)]) (rm := [.own]) (pm := [.skip, .skip]) Tryz.func218 ?_
 intro Fn LW IN len cast toNat wrap add sub mul bin lt eq At set part app fz' rep nadd nmax ssize sext sget scat seq slt Wide Flat Ones Room r' post' hC hF hr hp
 cbv
 replace hh := bind_some hh
 obtain ⟨G, w, y⟩ := hh
 refine au hC eok mixed (fun n (i : (List GOcc) × Int) => aQ.l0 k g1 p0 n i.1 i.2)
  (fun ⟨d, o⟩ => (⟨[(1, .clo 250 [.iptr [iA cp1_0] 0]), (5, .ref (5, 50) 1 0 (len (qGOcc d))), (8, tA (qGOcc p0)), (9, iA (cast (len (qGOcc p0)))), (10, iA o)], [((5, 50), .arr 1 3 (qGOcc d))]⟩ : St))
  (fun (j : List GOcc) => (⟨[(5, .ref (5, 50) 1 0 (len (qGOcc j)))], [((5, 50), .arr 1 3 (qGOcc j))]⟩ : St)) (fun x => x) (.exit 0)
  (i0 := (_, _)) w (fun _ => rfl) ?_ ?_ ?_
 ·rintro ⟨s, z⟩ e
  refine aw [] ?_
  cbv
  all_goals exact J2
 rintro j hx
 subst G
 have hh := y
 cbv
 exact Eb
 rintro n ⟨d, o⟩ J K hh p A H
 try dsimp only at hh
 unfold aQ.l0 at hh
 cbv
 refine bcs (fun b => ?_) (fun b => ?_)
 replace hh := ifT hh b
 try rw [b]
 cbv
 replace hh := aa hh
 obtain ⟨B, hh⟩ := hh
 replace hh := bind_some hh
 obtain ⟨⟨t, u, v⟩, C, hh⟩ := hh
 try dsimp only at hh
 refine ⟨[iA t, iA u, tA (qInt v)], Nb B, Gb C, ?_⟩
 cbv
 replace hh := bind_some hh
 obtain ⟨I, D, hh⟩ := hh
 refine ac hF (hg1 D) ?_
 cbv
 refine bcs (fun c => ?_) (fun c => ?_)
 replace hh := ifT hh c
 try rw [c]
 cbv
 replace hh := aa hh
 obtain ⟨F, hh⟩ := hh
 refine ⟨⟨Ob, Ab⟩, ?_⟩
 refine ⟨⟨Ob, Wb F⟩, ?_⟩
 ·refine p (_, _) _ hh fun ⟨s, z⟩ e => ?_
  refine aw [((5, 50), (20, 0))] ?_
  cbv
  all_goals exact J2
 replace hh := ifF hh c
 try rw [c]
 cbv
 ·refine p (_, _) _ hh fun ⟨s, z⟩ e => ?_
  refine ai ?_
  cbv
  all_goals exact J2
 replace hh := ifF hh b
 try rw [b]
 cbv
 ·refine A _ _ hh fun s e => ?_
  refine ai ?_
  cbv
  all_goals exact J1

theorem uv {k : Nat} {p0 : List GOcc} {p1 : Int} {r : List GOcc} (hh : lc.f k p0 p1 = some r) : ah P 217 [tA (qGOcc p0), iA p1] [hA, hA] (oA 3 (qGOcc r)) := by
 unfold lc.f at hh
 refine go (ts := [(4, none)]) (rm := [.own]) (pm := [.skip, .skip]) Tryz.func217 ?_
 intro Fn LW IN len cast toNat wrap add sub mul bin lt eq At set part app fz' rep nadd nmax ssize sext sget scat seq slt Wide Flat Ones Room r' post' hC hF hr hp
 cbv
 replace hh := bind_some hh
 obtain ⟨c, b, hh⟩ := hh
 refine ac hF (mH hQ (g1 := fun y0 => kt.f y0 p1) (fun h => wH hQ h) b) ?_
 cbv
 exact Eb

theorem ky {p0 : GOcc} {c0 : Int} {r : Bool} (hh : cT.f p0 c0 = some r) : ah P 219 [.agg [iA p0.From, iA p0.To, tA (qInt p0.Ids)], .iptr [iA c0] 0] [hA, hA] (bA r) := by
 obtain ⟨p0a, p0b, p0c⟩ := p0
 unfold cT.f at hh
 refine go (ts := [(3, none)]) (rm := [.own]) (pm := [.skip, .skip]) Tryz.func219 ?_
 intro Fn LW IN len cast toNat wrap add sub mul bin lt eq At set part app fz' rep nadd nmax ssize sext sget scat seq slt Wide Flat Ones Room r' post' hC hF hr hp
 cbv
 exact Eb

theorem fk {k : Nat} {g1 : GOcc → Option Bool} {cp1_0 : Int} (hg1 : ∀ {y0 : GOcc} {r : Bool}, g1 y0 = some r → ah P 219 [.agg [iA y0.From, iA y0.To, tA (qInt y0.Ids)], .iptr [iA cp1_0] 0] [hA, hA] (bA r)) {p0 : List GOcc} {r : List GOcc} (hh : aQ.f g1 k p0 = some r) : ah P 218 [tA (qGOcc p0), .clo 219 [.iptr [iA cp1_0] 0]] [hA, hA] (oA 3 (qGOcc r)) := by
 unfold aQ.f at hh
 refine go (ts := [(4, none)]) (rm := [.own]) (pm := [.skip, .skip]) Tryz.func218 ?_
 intro Fn LW IN len cast toNat wrap add sub mul bin lt eq At set part app fz' rep nadd nmax ssize sext sget scat seq slt Wide Flat Ones Room r' post' hC hF hr hp
 cbv
 replace hh := bind_some hh
 obtain ⟨G, w, y⟩ := hh
 refine au hC eok mixed (fun n (i : (List GOcc) × Int) => aQ.l0 k g1 p0 n i.1 i.2)
  (fun ⟨d, o⟩ => (⟨[(1, .clo 219 [.iptr [iA cp1_0] 0]), (5, .ref (5, 50) 1 0 (len (qGOcc d))), (8, tA (qGOcc p0)), (9, iA (cast (len (qGOcc p0)))), (10, iA o)], [((5, 50), .arr 1 3 (qGOcc d))]⟩ : St))
  (fun (j : List GOcc) => (⟨[(5, .ref (5, 50) 1 0 (len (qGOcc j)))], [((5, 50), .arr 1 3 (qGOcc j))]⟩ : St)) (fun x => x) (.exit 0)
  (i0 := (_, _)) w (fun _ => rfl) ?_ ?_ ?_
 ·rintro ⟨s, z⟩ e
  refine aw [] ?_
  cbv
  all_goals exact J2
 rintro j hx
 subst G
 have hh := y
 cbv
 exact Eb
 rintro n ⟨d, o⟩ J K hh p A H
 try dsimp only at hh
 unfold aQ.l0 at hh
 cbv
 refine bcs (fun b => ?_) (fun b => ?_)
 replace hh := ifT hh b
 try rw [b]
 cbv
 replace hh := aa hh
 obtain ⟨B, hh⟩ := hh
 replace hh := bind_some hh
 obtain ⟨⟨t, u, v⟩, C, hh⟩ := hh
 try dsimp only at hh
 refine ⟨[iA t, iA u, tA (qInt v)], Nb B, Gb C, ?_⟩
 cbv
 replace hh := bind_some hh
 obtain ⟨I, D, hh⟩ := hh
 refine ac hF (hg1 D) ?_
 cbv
 refine bcs (fun c => ?_) (fun c => ?_)
 replace hh := ifT hh c
 try rw [c]
 cbv
 replace hh := aa hh
 obtain ⟨F, hh⟩ := hh
 refine ⟨⟨Ob, Ab⟩, ?_⟩
 refine ⟨⟨Ob, Wb F⟩, ?_⟩
 ·refine p (_, _) _ hh fun ⟨s, z⟩ e => ?_
  refine aw [((5, 50), (20, 0))] ?_
  cbv
  all_goals exact J2
 replace hh := ifF hh c
 try rw [c]
 cbv
 ·refine p (_, _) _ hh fun ⟨s, z⟩ e => ?_
  refine ai ?_
  cbv
  all_goals exact J2
 replace hh := ifF hh b
 try rw [b]
 cbv
 ·refine A _ _ hh fun s e => ?_
  refine ai ?_
  cbv
  all_goals exact J1

theorem dJ {k : Nat} {g2 : GOcc → GOcc → Option Int} (hg2 : ∀ {y0 : GOcc} {y1 : GOcc} {r : Int}, g2 y0 y1 = some r → ah P 70 [.agg [iA y0.From, iA y0.To, tA (qInt y0.Ids)], .agg [iA y1.From, iA y1.To, tA (qInt y1.Ids)]] [hA, hA] (iA r)) {p0 : List GOcc} {p1 : GOcc} {r : Int × Bool} (hh : aI.f g2 k p0 p1 = some r) : ah P 182 [tA (qGOcc p0), .agg [iA p1.From, iA p1.To, tA (qInt p1.Ids)], .clo 70 []] [hA, hA, hA] (.tup [iA r.1, bA r.2]) := by
 obtain ⟨p1a, p1b, p1c⟩ := p1
 unfold aI.f at hh
 refine go (ts := [(6, none), (7, none)]) (rm := [.own, .own]) (pm := [.skip, .skip, .skip]) Tryz.func182 ?_
 intro Fn LW IN len cast toNat wrap add sub mul bin lt eq At set part app fz' rep nadd nmax ssize sext sget scat seq slt Wide Flat Ones Room r' post' hC hF hr hp
 cbv
 replace hh := bind_some hh
 obtain ⟨N, B, C⟩ := hh
 refine au hC eok mixed (fun n (i : Int × Int) => aI.l0 k g2 p0 (⟨p1a, p1b, p1c⟩ : GOcc) n i.1 i.2)
  (fun ⟨j, o⟩ => (⟨[(0, tA (qGOcc p0)), (2, .clo 70 []), (4, .mptr (4, 0) 1 0 0), (8, iA (cast (len (qGOcc p0)))), (9, iA j), (10, iA o)], [((4, 0), .box 1 [iA p1a, iA p1b, tA (qInt p1c)])]⟩ : St))
  (fun (p : Int) => (⟨[(0, tA (qGOcc p0)), (2, .clo 70 []), (4, .mptr (4, 0) 1 0 0), (8, iA (cast (len (qGOcc p0)))), (9, iA p)], [((4, 0), .box 1 [iA p1a, iA p1b, tA (qInt p1c)])]⟩ : St)) (fun x => x) (.exit 0)
  (i0 := (_, _)) B (fun _ => rfl) ?_ ?_ ?_
 ·rintro ⟨t, D⟩ e
  refine ai ?_
  cbv
  all_goals exact J2
 rintro p hx
 subst N
 have hh := C
 cbv
 refine bcs (fun b => ?_) (fun b => ?_)
 replace hh := ifT hh b
 try rw [b]
 cbv
 replace hh := aa hh
 obtain ⟨F, hh⟩ := hh
 replace hh := bind_some hh
 obtain ⟨⟨u, v, w⟩, G, hh⟩ := hh
 try dsimp only at hh
 refine ⟨[iA u, iA v, tA (qInt w)], Nb F, Gb G, ?_⟩
 cbv
 replace hh := bind_some hh
 obtain ⟨O, H, hh⟩ := hh
 refine ac hF (hg2 H) ?_
 cbv
 exact Eb
 replace hh := ifF hh b
 try rw [b]
 cbv
 exact Eb
 rintro n ⟨j, o⟩ S T hh s I Q
 try dsimp only at hh
 unfold aI.l0 at hh
 cbv
 refine bcs (fun c => ?_) (fun c => ?_)
 replace hh := ifT hh c
 try rw [c]
 cbv
 replace hh := aa hh
 obtain ⟨J, hh⟩ := hh
 refine ⟨Nb J, ?_⟩
 replace hh := aa hh
 obtain ⟨K, hh⟩ := hh
 replace hh := bind_some hh
 obtain ⟨⟨y, z, A⟩, L, hh⟩ := hh
 try dsimp only at hh
 refine ⟨[iA y, iA z, tA (qInt A)], Nb K, Gb L, ?_⟩
 cbv
 replace hh := bind_some hh
 obtain ⟨R, M, hh⟩ := hh
 refine ac hF (hg2 M) ?_
 cbv
 refine bcs (fun d => ?_) (fun d => ?_)
 replace hh := ifT hh d
 try rw [d]
 cbv
 ·refine s (_, _) _ hh fun ⟨t, D⟩ e => ?_
  refine ai ?_
  cbv
  all_goals exact J2
 replace hh := ifF hh d
 try rw [d]
 cbv
 ·refine s (_, _) _ hh fun ⟨t, D⟩ e => ?_
  refine ai ?_
  cbv
  all_goals exact J2
 replace hh := ifF hh c
 try rw [c]
 cbv
 ·refine I _ _ hh fun t e => ?_
  refine ai ?_
  cbv
  all_goals exact J1

theorem tR {p0 : List GOcc} {r : List GOcc} (hh : jz.f p0 = some r) : ah P 184 [tA (qGOcc p0)] [hA] (oA 3 (qGOcc r)) := by
 unfold jz.f at hh
 refine go (ts := [(2, none)]) (rm := [.own]) (pm := [.skip]) Tryz.func184 ?_
 intro Fn LW IN len cast toNat wrap add sub mul bin lt eq At set part app fz' rep nadd nmax ssize sext sget scat seq slt Wide Flat Ones Room r' post' hC hF hr hp
 cbv
 replace hh := aa hh
 obtain ⟨c, hh⟩ := hh
 intro b hb
 cases b
 · cbv
   refine ⟨⟨Ab, Ab⟩, ?_⟩
   refine ⟨⟨Ob, Wb c⟩, ?_⟩
   exact Eb
 · have e : p0 = [] := by cases hC; cases hQ; simpa using hb rfl
   cbv
   refine ⟨3, ?_⟩
   cbv
   subst e
   exact Eb


theorem rN {p0 : List GOcc} {p1 : Int} {p2 : List GOcc} {r : List GOcc} (hh : gm.f p0 p1 p2 = some r) : ah P 183 [oA 3 (qGOcc p0), iA p1, oA 3 (qGOcc p2)] [hA, hA, hA] (oA 3 (qGOcc r)) := by
  cases hQ
  exact sd hh


theorem iv {k : Nat} {p0 : List GOcc} {p1 : GOcc} {r : List GOcc} (hh : dB.f k p0 p1 = some r) : ah P 128 [tA (qGOcc p0), .agg [iA p1.From, iA p1.To, tA (qInt p1.Ids)]] [hA, hA] (tA (qGOcc r)) := by
 obtain ⟨p1a, p1b, p1c⟩ := p1
 unfold dB.f at hh
 refine go (ts := [(4, none)]) (rm := [.val]) (pm := [.skip, .skip]) Tryz.func128 ?_
 intro Fn LW IN len cast toNat wrap add sub mul bin lt eq At set part app fz' rep nadd nmax ssize sext sget scat seq slt Wide Flat Ones Room r' post' hC hF hr hp
 cbv
 replace hh := bind_some hh
 obtain ⟨⟨c, d⟩, j, hh⟩ := hh
 try dsimp only at hh
 refine ac hF (dJ hQ (g2 := fun y0 y1 => cm.f k y0 y1) (fun h => ip hQ h) j) ?_
 cbv
 refine bcs (fun b => ?_) (fun b => ?_)
 replace hh := ifT hh b
 try rw [b]
 cbv
 exact Eb
 replace hh := ifF hh b
 try rw [b]
 cbv
 replace hh := bind_some hh
 obtain ⟨t, o, hh⟩ := hh
 refine ac hF (tR hQ o) ?_
 cbv
 replace hh := bind_some hh
 obtain ⟨s, p, hh⟩ := hh
 refine ⟨Ob, ?_⟩
 refine ac hF (rN hQ p) ?_
 cbv
 exact Eb

end Go.Proofs.YtlbnmldopjadoaaGreat
