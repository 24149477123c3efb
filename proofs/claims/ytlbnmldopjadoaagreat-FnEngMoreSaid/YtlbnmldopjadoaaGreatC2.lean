/- The functions of this program do what the plain ones do. -/
import Derived.Test.YtlbnmldopjadoaaGreatC1
namespace Go.Proofs.YtlbnmldopjadoaaGreat
open Go Go.Vm
set_option linter.unusedVariables false
set_option maxHeartbeats 4000000
set_option maxRecDepth 4000
variable {qIu8 : List Int → Vm.Rows} {qGEx : List GEx → Vm.Rows} {qGRule : List GRule → Vm.Rows} {qStr : List ByteArray → Vm.Rows} {qInt : List Int → Vm.Rows} {qGExO : List GEx → Vm.Rows} {qGOcc : List GOcc → Vm.Rows} {qGNode : List GNode → Vm.Rows} {qGGraphS : List GGraph → Vm.Rows} {qGGraph : List GGraph → Vm.Rows} {qGEv : List GEv → Vm.Rows} {qGFire : List GFire → Vm.Rows} {qLGOcc : List (List GOcc) → Vm.Rows} {qGOccO : List GOcc → Vm.Rows} {qLInt : List (List Int) → Vm.Rows} (hQ : EQ qIu8 qGEx qGRule qStr qInt qGExO qGOcc qGNode qGGraphS qGGraph qGEv qGFire qLGOcc qGOccO qLInt)
include hQ
theorem rL {k : Nat} {p0 : GEng} {p1 : List (List GOcc)} {r : Bool} (hh : bQ.f k p0 p1 = some r) : ai P 149 [.agg [tA (qGRule p0.Rules), tA (qGGraph p0.Graphs), tA (qGEv p0.Events), tA (qInt p0.Keys), tA (qGFire p0.Fired)], tA (qLGOcc p1)] [hA, hA] (bA r) := by
 obtain ⟨p0a, p0b, p0c, p0d, p0e⟩ := p0
 unfold bQ.f at hh
 refine go (ts := [(4, none)]) (rm := [.own]) (pm := [.skip, .skip]) Tryz.func149 ?_
 unhygienic intros
 cbv
 replace hh := bind_some hh
 obtain ⟨z, o, d⟩ := hh
 refine au hC eok mixed (bQ.l0 k (⟨p0a, p0b, p0c, p0d, p0e⟩ : GEng) p1)
  (fun j => (⟨[(2, .mptr (2, 0) 1 0 0), (7, tA (qLGOcc p1)), (8, iA (cast (len (qLGOcc p1)))), (9, iA j)], [((2, 0), .fbox 1 [tA (qGRule p0a), tA (qGGraph p0b), tA (qGEv p0c), tA (qInt p0d), tA (qGFire p0e)])]⟩ : St))
  (fun (_ : Unit) => (⟨[], []⟩ : St)) .ok (.exit 0)
  (i0 := _) o (fun _ => rfl) ?_ ?_ ?_
 ·rintro A e
  refine ah ?_
  cbv
  all_goals exact J1
 rintro _ hx
 subst z
 have hh := d
 cbv
 exact Eb
 rintro n j C D hh p s t
 unfold bQ.l0 at hh
 cbv
 refine bcs (fun b => ?_) (fun b => ?_)
 replace hh := ifT hh b
 try rw [b]
 cbv
 replace hh := aa hh
 obtain ⟨u, hh⟩ := hh
 replace hh := bind_some hh
 obtain ⟨v, w, hh⟩ := hh
 refine ⟨[tA (qGOcc v)], Nb u, Gb w, ?_⟩
 cbv
 replace hh := bind_some hh
 obtain ⟨B, y, hh⟩ := hh
 refine ac hF (fN hQ (g1 := fun y0 => dY.f y0 ((⟨p0a, p0b, p0c, p0d, p0e⟩ : GEng))) (fun h => pc hQ h) y) ?_
 cbv
 refine bcs (fun c => ?_) (fun c => ?_)
 replace hh := ifT hh c
 try rw [c]
 cbv
 cases hh
 have hh : some _ = some _ := d
 refine t _ _ ?_
 cbv
 exact Eb
 replace hh := ifF hh c
 try rw [c]
 cbv
 ·refine p _ _ hh fun A e => ?_
  refine ah ?_
  cbv
  all_goals exact J1
 replace hh := ifF hh b
 try rw [b]
 cbv
 ·refine s () _ hh fun _ e => ?_
  refine ah ?_
  cbv
  all_goals exact J0
theorem nI {k : Nat} {p0 : GEng} {p1 : List (List GOcc)} {r : Bool} (hh : bQ.f k p0 p1 = some r) : ai P 149 [.agg [tA (qGRule p0.Rules), tA (qGGraph p0.Graphs), tA (qGEv p0.Events), tA (qInt p0.Keys), tA (qGFire p0.Fired)], oA 1 (qLGOcc p1)] [hA, oA 1 (qLGOcc p1)] (bA r) := by
  cases hQ; exact (rL .mk hh).lend (rfl) (.same rfl (.lend (congrArg A.tree (tb _).symm) .nil))

theorem nF {k : Nat} {p0 : GNode} {c0 : GEng} {r : Bool} (hh : dF.f k p0 c0 = some r) : ai P 148 [.agg [iA p0.Kind, iA p0.Sym, iA p0.N, tA (qInt p0.Kids), tA (qGOcc p0.Pair.Left), tA (qGOcc p0.Pair.Right), tA (qGOcc p0.Span.Left), tA (qGOcc p0.Span.Mid), tA (qGOcc p0.Due), iA p0.Many], .iptr [tA (qGRule c0.Rules), tA (qGGraph c0.Graphs), tA (qGEv c0.Events), tA (qInt c0.Keys), tA (qGFire c0.Fired)] 0] [hA, hA] (bA r) := by
 obtain ⟨p0a, p0b, p0c, p0d, ⟨p0e, p0f⟩, ⟨p0g, p0h⟩, p0i, p0j⟩ := p0
 obtain ⟨c0a, c0b, c0c, c0d, c0e⟩ := c0
 unfold dF.f at hh
 refine go (ts := [(3, none)]) (rm := [.own]) (pm := [.skip, .skip]) Tryz.func148 ?_
 unhygienic intros
 cbv
 replace hh := bind_some hh
 obtain ⟨c, b, hh⟩ := hh
 refine ⟨Ob, ?_⟩
 refine ac hF (nI hQ b) ?_
 cbv
 exact Eb

theorem fT {k : Nat} {g1 : GNode → Option Bool} {cp1_0 : GEng} (hg1 : ∀ {y0 : GNode} {r : Bool}, g1 y0 = some r → ai P 148 [.agg [iA y0.Kind, iA y0.Sym, iA y0.N, tA (qInt y0.Kids), tA (qGOcc y0.Pair.Left), tA (qGOcc y0.Pair.Right), tA (qGOcc y0.Span.Left), tA (qGOcc y0.Span.Mid), tA (qGOcc y0.Due), iA y0.Many], .iptr [tA (qGRule cp1_0.Rules), tA (qGGraph cp1_0.Graphs), tA (qGEv cp1_0.Events), tA (qInt cp1_0.Keys), tA (qGFire cp1_0.Fired)] 0] [hA, hA] (bA r)) {p0 : List GNode} {r : Int} (hh : aA.f g1 k p0 = some r) : ai P 180 [tA (qGNode p0), .clo 148 [.iptr [tA (qGRule cp1_0.Rules), tA (qGGraph cp1_0.Graphs), tA (qGEv cp1_0.Events), tA (qInt cp1_0.Keys), tA (qGFire cp1_0.Fired)] 0]] [hA, hA] (iA r) := by
 obtain ⟨cp1_0a, cp1_0b, cp1_0c, cp1_0d, cp1_0e⟩ := cp1_0
 unfold aA.f at hh
 refine go (ts := [(4, none)]) (rm := [.own]) (pm := [.skip, .skip]) Tryz.func180 ?_
 unhygienic intros
 cbv
 replace hh := bind_some hh
 obtain ⟨J, B, d⟩ := hh
 refine au hC eok mixed (aA.l0 k g1 p0)
  (fun j => (⟨[(0, tA (qGNode p0)), (1, .clo 148 [.iptr [tA (qGRule cp1_0a), tA (qGGraph cp1_0b), tA (qGEv cp1_0c), tA (qInt cp1_0d), tA (qGFire cp1_0e)] 0]), (7, iA (cast (len (qGNode p0)))), (8, iA j)], []⟩ : St))
  (fun (_ : Unit) => (⟨[], []⟩ : St)) .ok (.exit 0)
  (i0 := _) B (fun _ => rfl) ?_ ?_ ?_
 ·rintro K e
  refine ah ?_
  cbv
  all_goals exact J1
 rintro _ hx
 subst J
 have hh := d
 cbv
 exact Eb
 rintro n j M O hh C D F
 unfold aA.l0 at hh
 cbv
 refine bcs (fun b => ?_) (fun b => ?_)
 replace hh := ifT hh b
 try rw [b]
 cbv
 replace hh := aa hh
 obtain ⟨G, hh⟩ := hh
 replace hh := bind_some hh
 obtain ⟨⟨o, p, s, t, ⟨u, v⟩, ⟨w, y⟩, z, A⟩, H, hh⟩ := hh
 try dsimp only at hh
 refine ⟨[iA o, iA p, iA s, tA (qInt t), tA (qGOcc u), tA (qGOcc v), tA (qGOcc w), tA (qGOcc y), tA (qGOcc z), iA A], Nb G, Gb H, ?_⟩
 cbv
 replace hh := bind_some hh
 obtain ⟨L, I, hh⟩ := hh
 refine ac hF (hg1 I) ?_
 cbv
 refine bcs (fun c => ?_) (fun c => ?_)
 replace hh := ifT hh c
 try rw [c]
 cbv
 cases hh
 have hh : some _ = some _ := d
 refine F _ _ ?_
 cbv
 exact Eb
 replace hh := ifF hh c
 try rw [c]
 cbv
 ·refine C _ _ hh fun K e => ?_
  refine ah ?_
  cbv
  all_goals exact J1
 replace hh := ifF hh b
 try rw [b]
 cbv
 ·refine D () _ hh fun _ e => ?_
  refine ah ?_
  cbv
  all_goals exact J0

theorem fg {k : Nat} {g1 : GNode → Option Bool} {cp1_0 : GEng} (hg1 : ∀ {y0 : GNode} {r : Bool}, g1 y0 = some r → ai P 148 [.agg [iA y0.Kind, iA y0.Sym, iA y0.N, tA (qInt y0.Kids), tA (qGOcc y0.Pair.Left), tA (qGOcc y0.Pair.Right), tA (qGOcc y0.Span.Left), tA (qGOcc y0.Span.Mid), tA (qGOcc y0.Due), iA y0.Many], .iptr [tA (qGRule cp1_0.Rules), tA (qGGraph cp1_0.Graphs), tA (qGEv cp1_0.Events), tA (qInt cp1_0.Keys), tA (qGFire cp1_0.Fired)] 0] [hA, hA] (bA r)) {p0 : List GNode} {r : Bool} (hh : cZ.f g1 k p0 = some r) : ai P 147 [tA (qGNode p0), .clo 148 [.iptr [tA (qGRule cp1_0.Rules), tA (qGGraph cp1_0.Graphs), tA (qGEv cp1_0.Events), tA (qInt cp1_0.Keys), tA (qGFire cp1_0.Fired)] 0]] [hA, hA] (bA r) := by
 obtain ⟨cp1_0a, cp1_0b, cp1_0c, cp1_0d, cp1_0e⟩ := cp1_0
 unfold cZ.f at hh
 refine go (ts := [(4, none)]) (rm := [.own]) (pm := [.skip, .skip]) Tryz.func147 ?_
 unhygienic intros
 cbv
 replace hh := bind_some hh
 obtain ⟨c, b, hh⟩ := hh
 refine ac hF (fT hQ (g1 := g1) hg1 b) ?_
 cbv
 exact Eb

theorem pL {k : Nat} {p0 : GEng} {p1 : GGraph} {r : Bool} (hh : eO.f k p0 p1 = some r) : ai P 89 [.agg [tA (qGRule p0.Rules), tA (qGGraph p0.Graphs), tA (qGEv p0.Events), tA (qInt p0.Keys), tA (qGFire p0.Fired)], .agg [iA p1.Mode, tA (qGNode p1.Nodes), iA p1.Seen, iA p1.Now, bA p1.Full]] [hA, hA] (bA r) := by
 obtain ⟨p0a, p0b, p0c, p0d, p0e⟩ := p0
 obtain ⟨p1a, p1b, p1c, p1d, p1e⟩ := p1
 unfold eO.f at hh
 refine go (ts := [(4, none)]) (rm := [.own]) (pm := [.skip, .skip]) Tryz.func89 ?_
 unhygienic intros
 cbv
 replace hh := bind_some hh
 obtain ⟨u, y, hh⟩ := hh
 refine ac hF (tI hQ y) ?_
 cbv
 replace hh := az hh
 rcases hh with ⟨s, hh⟩ | ⟨s, hh⟩
 have c : u = true := Tb s
 have g := c; cbv at g; try rw [c]
 try rw [g]
 cbv
 refine bcs (fun d => ?_) (fun d => ?_)
 replace hh := ifT hh d
 try rw [d]
 cbv
 exact Eb
 replace hh := ifF hh d
 try rw [d]
 cbv
 replace hh := az hh
 rcases hh with ⟨t, hh⟩ | ⟨t, hh⟩
 have j : (eq p1c (cast (len (qGEv p0c)))) = true := Tb t
 have g := j; cbv at g; try rw [j]
 try rw [g]
 cbv
 replace hh := bind_some hh
 obtain ⟨p, v, hh⟩ := hh
 refine ac hF (rZ hQ v) ?_
 cbv
 replace hh := az hh
 rcases hh with ⟨o, hh⟩ | ⟨o, hh⟩
 have b : (eq p1d p) = true := Tb o
 have g := b; cbv at g; try rw [b]
 try rw [g]
 cbv
 replace hh := bind_some hh
 obtain ⟨z, w, hh⟩ := hh
 refine ac hF (fg hQ (g1 := fun y0 => dF.f k y0 ((⟨p0a, p0b, p0c, p0d, p0e⟩ : GEng))) (fun h => nF hQ h) w) ?_
 cbv
 exact Eb
 have b : (eq p1d p) = false := Fb o
 have g := b; cbv at g; try rw [b]
 try rw [g]
 cbv
 exact Eb
 have j : (eq p1c (cast (len (qGEv p0c)))) = false := Fb t
 have g := j; cbv at g; try rw [j]
 try rw [g]
 cbv
 exact Eb
 have c : u = false := Fb s
 have g := c; cbv at g; try rw [c]
 try rw [g]
 cbv
 exact Eb

theorem tt {k : Nat} {p0 : GGraph} {c0 : GEng} {r : Bool} (hh : fK.f k p0 c0 = some r) : ai P 88 [.agg [iA p0.Mode, tA (qGNode p0.Nodes), iA p0.Seen, iA p0.Now, bA p0.Full], .iptr [tA (qGRule c0.Rules), tA (qGGraph c0.Graphs), tA (qGEv c0.Events), tA (qInt c0.Keys), tA (qGFire c0.Fired)] 0] [hA, hA] (bA r) := by
 obtain ⟨p0a, p0b, p0c, p0d, p0e⟩ := p0
 obtain ⟨c0a, c0b, c0c, c0d, c0e⟩ := c0
 unfold fK.f at hh
 refine go (ts := [(3, none)]) (rm := [.own]) (pm := [.skip, .skip]) Tryz.func88 ?_
 unhygienic intros
 cbv
 replace hh := bind_some hh
 obtain ⟨c, b, hh⟩ := hh
 refine ac hF (pL hQ b) ?_
 cbv
 exact Eb

theorem gT {k : Nat} {g1 : GGraph → Option Bool} {cp1_0 : GEng} (hg1 : ∀ {y0 : GGraph} {r : Bool}, g1 y0 = some r → ai P 88 [.agg [iA y0.Mode, tA (qGNode y0.Nodes), iA y0.Seen, iA y0.Now, bA y0.Full], .iptr [tA (qGRule cp1_0.Rules), tA (qGGraph cp1_0.Graphs), tA (qGEv cp1_0.Events), tA (qInt cp1_0.Keys), tA (qGFire cp1_0.Fired)] 0] [hA, hA] (bA r)) {p0 : List GGraph} {r : Int} (hh : ba.f g1 k p0 = some r) : ai P 145 [tA (qGGraph p0), .clo 88 [.iptr [tA (qGRule cp1_0.Rules), tA (qGGraph cp1_0.Graphs), tA (qGEv cp1_0.Events), tA (qInt cp1_0.Keys), tA (qGFire cp1_0.Fired)] 0]] [hA, hA] (iA r) := by
 obtain ⟨cp1_0a, cp1_0b, cp1_0c, cp1_0d, cp1_0e⟩ := cp1_0
 unfold ba.f at hh
 refine go (ts := [(4, none)]) (rm := [.own]) (pm := [.skip, .skip]) Tryz.func145 ?_
 unhygienic intros
 cbv
 replace hh := bind_some hh
 obtain ⟨D, v, d⟩ := hh
 refine au hC eok mixed (ba.l0 k g1 p0)
  (fun j => (⟨[(0, tA (qGGraph p0)), (1, .clo 88 [.iptr [tA (qGRule cp1_0a), tA (qGGraph cp1_0b), tA (qGEv cp1_0c), tA (qInt cp1_0d), tA (qGFire cp1_0e)] 0]), (7, iA (cast (len (qGGraph p0)))), (8, iA j)], []⟩ : St))
  (fun (_ : Unit) => (⟨[], []⟩ : St)) .ok (.exit 0)
  (i0 := _) v (fun _ => rfl) ?_ ?_ ?_
 ·rintro F e
  refine ah ?_
  cbv
  all_goals exact J1
 rintro _ hx
 subst D
 have hh := d
 cbv
 exact Eb
 rintro n j H I hh w y z
 unfold ba.l0 at hh
 cbv
 refine bcs (fun b => ?_) (fun b => ?_)
 replace hh := ifT hh b
 try rw [b]
 cbv
 replace hh := aa hh
 obtain ⟨A, hh⟩ := hh
 replace hh := bind_some hh
 obtain ⟨⟨o, p, s, t, u⟩, B, hh⟩ := hh
 try dsimp only at hh
 refine ⟨[iA o, tA (qGNode p), iA s, iA t, bA u], Nb A, Gb B, ?_⟩
 cbv
 replace hh := bind_some hh
 obtain ⟨G, C, hh⟩ := hh
 refine ac hF (hg1 C) ?_
 cbv
 refine bcs (fun c => ?_) (fun c => ?_)
 replace hh := ifT hh c
 try rw [c]
 cbv
 cases hh
 have hh : some _ = some _ := d
 refine z _ _ ?_
 cbv
 exact Eb
 replace hh := ifF hh c
 try rw [c]
 cbv
 ·refine w _ _ hh fun F e => ?_
  refine ah ?_
  cbv
  all_goals exact J1
 replace hh := ifF hh b
 try rw [b]
 cbv
 ·refine y () _ hh fun _ e => ?_
  refine ah ?_
  cbv
  all_goals exact J0

theorem gi {k : Nat} {g1 : GGraph → Option Bool} {cp1_0 : GEng} (hg1 : ∀ {y0 : GGraph} {r : Bool}, g1 y0 = some r → ai P 88 [.agg [iA y0.Mode, tA (qGNode y0.Nodes), iA y0.Seen, iA y0.Now, bA y0.Full], .iptr [tA (qGRule cp1_0.Rules), tA (qGGraph cp1_0.Graphs), tA (qGEv cp1_0.Events), tA (qInt cp1_0.Keys), tA (qGFire cp1_0.Fired)] 0] [hA, hA] (bA r)) {p0 : List GGraph} {r : Bool} (hh : cQ.f g1 k p0 = some r) : ai P 87 [tA (qGGraph p0), .clo 88 [.iptr [tA (qGRule cp1_0.Rules), tA (qGGraph cp1_0.Graphs), tA (qGEv cp1_0.Events), tA (qInt cp1_0.Keys), tA (qGFire cp1_0.Fired)] 0]] [hA, hA] (bA r) := by
 obtain ⟨cp1_0a, cp1_0b, cp1_0c, cp1_0d, cp1_0e⟩ := cp1_0
 unfold cQ.f at hh
 refine go (ts := [(4, none)]) (rm := [.own]) (pm := [.skip, .skip]) Tryz.func87 ?_
 unhygienic intros
 cbv
 replace hh := bind_some hh
 obtain ⟨c, b, hh⟩ := hh
 refine ac hF (gT hQ (g1 := g1) hg1 b) ?_
 cbv
 exact Eb

theorem tD {p0 : Int} {r : Bool} (hh : fF.f p0 = some r) : ai P 91 [iA p0] [hA] (bA r) := by
 unfold fF.f at hh
 refine go (ts := [(2, none)]) (rm := [.own]) (pm := [.skip]) Tryz.func91 ?_
 unhygienic intros
 cbv
 replace hh := bind_some hh
 obtain ⟨c, b, hh⟩ := hh
 refine ac hF (bp hQ b) ?_
 cbv
 exact Eb

theorem jx {k : Nat} {g1 : Int → Option Bool} (hg1 : ∀ {y0 : Int} {r : Bool}, g1 y0 = some r → ai P 91 [iA y0] [hA] (bA r)) {p0 : List Int} {r : Int} (hh : bi.f g1 k p0 = some r) : ai P 150 [tA (qInt p0), .clo 91 []] [hA, hA] (iA r) := by
 unfold bi.f at hh
 refine go (ts := [(4, none)]) (rm := [.own]) (pm := [.skip, .skip]) Tryz.func150 ?_
 unhygienic intros
 cbv
 replace hh := bind_some hh
 obtain ⟨z, o, d⟩ := hh
 refine au hC eok mixed (bi.l0 k g1 p0)
  (fun j => (⟨[(0, tA (qInt p0)), (1, .clo 91 []), (7, iA (cast (len (qInt p0)))), (8, iA j)], []⟩ : St))
  (fun (_ : Unit) => (⟨[], []⟩ : St)) .ok (.exit 0)
  (i0 := _) o (fun _ => rfl) ?_ ?_ ?_
 ·rintro A e
  refine ah ?_
  cbv
  all_goals exact J1
 rintro _ hx
 subst z
 have hh := d
 cbv
 exact Eb
 rintro n j C D hh p s t
 unfold bi.l0 at hh
 cbv
 refine bcs (fun b => ?_) (fun b => ?_)
 replace hh := ifT hh b
 try rw [b]
 cbv
 replace hh := aa hh
 obtain ⟨u, hh⟩ := hh
 replace hh := bind_some hh
 obtain ⟨v, w, hh⟩ := hh
 refine ⟨[iA v], Nb u, Gb w, ?_⟩
 cbv
 replace hh := bind_some hh
 obtain ⟨B, y, hh⟩ := hh
 refine ac hF (hg1 y) ?_
 cbv
 refine bcs (fun c => ?_) (fun c => ?_)
 replace hh := ifT hh c
 try rw [c]
 cbv
 cases hh
 have hh : some _ = some _ := d
 refine t _ _ ?_
 cbv
 exact Eb
 replace hh := ifF hh c
 try rw [c]
 cbv
 ·refine p _ _ hh fun A e => ?_
  refine ah ?_
  cbv
  all_goals exact J1
 replace hh := ifF hh b
 try rw [b]
 cbv
 ·refine s () _ hh fun _ e => ?_
  refine ah ?_
  cbv
  all_goals exact J0

theorem iL {k : Nat} {g1 : Int → Option Bool} (hg1 : ∀ {y0 : Int} {r : Bool}, g1 y0 = some r → ai P 91 [iA y0] [hA] (bA r)) {p0 : List Int} {r : Bool} (hh : cp.f g1 k p0 = some r) : ai P 90 [tA (qInt p0), .clo 91 []] [hA, hA] (bA r) := by
 unfold cp.f at hh
 refine go (ts := [(4, none)]) (rm := [.own]) (pm := [.skip, .skip]) Tryz.func90 ?_
 unhygienic intros
 cbv
 replace hh := bind_some hh
 obtain ⟨c, b, hh⟩ := hh
 refine ac hF (jx hQ (g1 := g1) hg1 b) ?_
 cbv
 exact Eb

theorem tT {k : Nat} {p0 : GFire} {c0 : GEng} {r : Bool} (hh : fJ.f k p0 c0 = some r) : ai P 93 [.agg [iA p0.Rule, iA p0.Occ.From, iA p0.Occ.To, tA (qInt p0.Occ.Ids)], .iptr [tA (qGRule c0.Rules), tA (qGGraph c0.Graphs), tA (qGEv c0.Events), tA (qInt c0.Keys), tA (qGFire c0.Fired)] 0] [hA, hA] (bA r) := by
 obtain ⟨p0a, ⟨p0b, p0c, p0d⟩⟩ := p0
 obtain ⟨c0a, c0b, c0c, c0d, c0e⟩ := c0
 unfold fJ.f at hh
 refine go (ts := [(3, none)]) (rm := [.own]) (pm := [.skip, .skip]) Tryz.func93 ?_
 unhygienic intros
 cbv
 replace hh := bind_some hh
 obtain ⟨o, t, hh⟩ := hh
 refine ac hF (bp hQ t) ?_
 cbv
 replace hh := az hh
 rcases hh with ⟨d, hh⟩ | ⟨d, hh⟩
 have c : o = true := Tb d
 have g := c; cbv at g; try rw [c]
 try rw [g]
 cbv
 replace hh := bind_some hh
 obtain ⟨p, u, hh⟩ := hh
 refine ac hF (pr hQ u) ?_
 cbv
 replace hh := az hh
 rcases hh with ⟨j, hh⟩ | ⟨j, hh⟩
 have b : p = true := Tb j
 have g := b; cbv at g; try rw [b]
 try rw [g]
 cbv
 replace hh := bind_some hh
 obtain ⟨v, s, hh⟩ := hh
 refine ac hF (jC hQ s) ?_
 cbv
 exact Eb
 have b : p = false := Fb j
 have g := b; cbv at g; try rw [b]
 try rw [g]
 cbv
 exact Eb
 have c : o = false := Fb d
 have g := c; cbv at g; try rw [c]
 try rw [g]
 cbv
 exact Eb

theorem gV {k : Nat} {g1 : GFire → Option Bool} {cp1_0 : GEng} (hg1 : ∀ {y0 : GFire} {r : Bool}, g1 y0 = some r → ai P 93 [.agg [iA y0.Rule, iA y0.Occ.From, iA y0.Occ.To, tA (qInt y0.Occ.Ids)], .iptr [tA (qGRule cp1_0.Rules), tA (qGGraph cp1_0.Graphs), tA (qGEv cp1_0.Events), tA (qInt cp1_0.Keys), tA (qGFire cp1_0.Fired)] 0] [hA, hA] (bA r)) {p0 : List GFire} {r : Int} (hh : bg.f g1 k p0 = some r) : ai P 151 [tA (qGFire p0), .clo 93 [.iptr [tA (qGRule cp1_0.Rules), tA (qGGraph cp1_0.Graphs), tA (qGEv cp1_0.Events), tA (qInt cp1_0.Keys), tA (qGFire cp1_0.Fired)] 0]] [hA, hA] (iA r) := by
 obtain ⟨cp1_0a, cp1_0b, cp1_0c, cp1_0d, cp1_0e⟩ := cp1_0
 unfold bg.f at hh
 refine go (ts := [(4, none)]) (rm := [.own]) (pm := [.skip, .skip]) Tryz.func151 ?_
 unhygienic intros
 cbv
 replace hh := bind_some hh
 obtain ⟨C, u, d⟩ := hh
 refine au hC eok mixed (bg.l0 k g1 p0)
  (fun j => (⟨[(0, tA (qGFire p0)), (1, .clo 93 [.iptr [tA (qGRule cp1_0a), tA (qGGraph cp1_0b), tA (qGEv cp1_0c), tA (qInt cp1_0d), tA (qGFire cp1_0e)] 0]), (7, iA (cast (len (qGFire p0)))), (8, iA j)], []⟩ : St))
  (fun (_ : Unit) => (⟨[], []⟩ : St)) .ok (.exit 0)
  (i0 := _) u (fun _ => rfl) ?_ ?_ ?_
 ·rintro D e
  refine ah ?_
  cbv
  all_goals exact J1
 rintro _ hx
 subst C
 have hh := d
 cbv
 exact Eb
 rintro n j G H hh v w y
 unfold bg.l0 at hh
 cbv
 refine bcs (fun b => ?_) (fun b => ?_)
 replace hh := ifT hh b
 try rw [b]
 cbv
 replace hh := aa hh
 obtain ⟨z, hh⟩ := hh
 replace hh := bind_some hh
 obtain ⟨⟨o, ⟨p, s, t⟩⟩, A, hh⟩ := hh
 try dsimp only at hh
 refine ⟨[iA o, iA p, iA s, tA (qInt t)], Nb z, Gb A, ?_⟩
 cbv
 replace hh := bind_some hh
 obtain ⟨F, B, hh⟩ := hh
 refine ac hF (hg1 B) ?_
 cbv
 refine bcs (fun c => ?_) (fun c => ?_)
 replace hh := ifT hh c
 try rw [c]
 cbv
 cases hh
 have hh : some _ = some _ := d
 refine y _ _ ?_
 cbv
 exact Eb
 replace hh := ifF hh c
 try rw [c]
 cbv
 ·refine v _ _ hh fun D e => ?_
  refine ah ?_
  cbv
  all_goals exact J1
 replace hh := ifF hh b
 try rw [b]
 cbv
 ·refine w () _ hh fun _ e => ?_
  refine ah ?_
  cbv
  all_goals exact J0

theorem gu {k : Nat} {g1 : GFire → Option Bool} {cp1_0 : GEng} (hg1 : ∀ {y0 : GFire} {r : Bool}, g1 y0 = some r → ai P 93 [.agg [iA y0.Rule, iA y0.Occ.From, iA y0.Occ.To, tA (qInt y0.Occ.Ids)], .iptr [tA (qGRule cp1_0.Rules), tA (qGGraph cp1_0.Graphs), tA (qGEv cp1_0.Events), tA (qInt cp1_0.Keys), tA (qGFire cp1_0.Fired)] 0] [hA, hA] (bA r)) {p0 : List GFire} {r : Bool} (hh : cY.f g1 k p0 = some r) : ai P 92 [tA (qGFire p0), .clo 93 [.iptr [tA (qGRule cp1_0.Rules), tA (qGGraph cp1_0.Graphs), tA (qGEv cp1_0.Events), tA (qInt cp1_0.Keys), tA (qGFire cp1_0.Fired)] 0]] [hA, hA] (bA r) := by
 obtain ⟨cp1_0a, cp1_0b, cp1_0c, cp1_0d, cp1_0e⟩ := cp1_0
 unfold cY.f at hh
 refine go (ts := [(4, none)]) (rm := [.own]) (pm := [.skip, .skip]) Tryz.func92 ?_
 unhygienic intros
 cbv
 replace hh := bind_some hh
 obtain ⟨c, b, hh⟩ := hh
 refine ac hF (gV hQ (g1 := g1) hg1 b) ?_
 cbv
 exact Eb

theorem oL {k : Nat} {p0 : GEng} {r : Bool} (hh : eX.f k p0 = some r) : ai P 39 [.agg [tA (qGRule p0.Rules), tA (qGGraph p0.Graphs), tA (qGEv p0.Events), tA (qInt p0.Keys), tA (qGFire p0.Fired)]] [hA] (bA r) := by
 obtain ⟨p0a, p0b, p0c, p0d, p0e⟩ := p0
 unfold eX.f at hh
 refine go (ts := [(2, none)]) (rm := [.own]) (pm := [.skip]) Tryz.func39 ?_
 unhygienic intros
 cbv
 replace hh := bind_some hh
 obtain ⟨B, H, hh⟩ := hh
 refine ac hF (j8 hQ H) ?_
 cbv
 replace hh := az hh
 rcases hh with ⟨z, hh⟩ | ⟨z, hh⟩
 have o : B = true := Tb z
 have g := o; cbv at g; try rw [o]
 try rw [g]
 cbv
 replace hh := az hh
 rcases hh with ⟨A, hh⟩ | ⟨A, hh⟩
 have p : (eq (cast (len (qGGraph p0b))) (cast (len (qGRule p0a)))) = true := Tb A
 have g := p; cbv at g; try rw [p]
 try rw [g]
 cbv
 replace hh := bind_some hh
 obtain ⟨C, I, hh⟩ := hh
 refine ac hF (wo hQ I) ?_
 cbv
 replace hh := az hh
 rcases hh with ⟨s, hh⟩ | ⟨s, hh⟩
 have b : C = true := Tb s
 have g := b; cbv at g; try rw [b]
 try rw [g]
 cbv
 replace hh := az hh
 rcases hh with ⟨t, hh⟩ | ⟨t, hh⟩
 have c : (eq (cast (len (qInt p0d))) 4) = true := Tb t
 have g := c; cbv at g; try rw [c]
 try rw [g]
 cbv
 replace hh := bind_some hh
 obtain ⟨w, D, hh⟩ := hh
 refine ac hF (gi hQ (g1 := fun y0 => fK.f k y0 ((⟨p0a, p0b, p0c, p0d, p0e⟩ : GEng))) (fun h => tt hQ h) D) ?_
 cbv
 replace hh := az hh
 rcases hh with ⟨u, hh⟩ | ⟨u, hh⟩
 have d : w = true := Tb u
 have g := d; cbv at g; try rw [d]
 try rw [g]
 cbv
 exact Eb
 have d : w = false := Fb u
 have g := d; cbv at g; try rw [d]
 try rw [g]
 cbv
 replace hh := bind_some hh
 obtain ⟨y, F, hh⟩ := hh
 refine ac hF (iL hQ (g1 := fun y0 => fF.f y0) (fun h => tD hQ h) F) ?_
 cbv
 replace hh := az hh
 rcases hh with ⟨v, hh⟩ | ⟨v, hh⟩
 have j : y = true := Tb v
 have g := j; cbv at g; try rw [j]
 try rw [g]
 cbv
 exact Eb
 have j : y = false := Fb v
 have g := j; cbv at g; try rw [j]
 try rw [g]
 cbv
 replace hh := bind_some hh
 obtain ⟨J, G, hh⟩ := hh
 refine ac hF (gu hQ (g1 := fun y0 => fJ.f k y0 ((⟨p0a, p0b, p0c, p0d, p0e⟩ : GEng))) (fun h => tT hQ h) G) ?_
 cbv
 exact Eb
 have c : (eq (cast (len (qInt p0d))) 4) = false := Fb t
 have g := c; cbv at g; try rw [c]
 try rw [g]
 cbv
 exact Eb
 have b : C = false := Fb s
 have g := b; cbv at g; try rw [b]
 try rw [g]
 cbv
 exact Eb
 have p : (eq (cast (len (qGGraph p0b))) (cast (len (qGRule p0a)))) = false := Fb A
 have g := p; cbv at g; try rw [p]
 try rw [g]
 cbv
 exact Eb
 have o : B = false := Fb z
 have g := o; cbv at g; try rw [o]
 try rw [g]
 cbv
 exact Eb
theorem iJ {k : Nat} {p0 : GEng} {r : Bool} (hh : eX.f k p0 = some r) : ai P 39 [.agg [tA (qGRule p0.Rules), oA 5 (qGGraphS p0.Graphs), oA 3 (qGEv p0.Events), oA 1 (qInt p0.Keys), oA 4 (qGFire p0.Fired)]] [.agg [tA (qGRule p0.Rules), oA 5 (qGGraphS p0.Graphs), oA 3 (qGEv p0.Events), oA 1 (qInt p0.Keys), oA 4 (qGFire p0.Fired)]] (bA r) := by
  cases hQ; exact (oL .mk hh).lend (rfl) (.lend (by simp) .nil)

theorem vm {p0 : sU} {r : Bool} (hh : iM.f p0 = some r) : ai P 74 [.agg [iA p0.Sym, iA p0.Gap, iA p0.Val]] [hA] (bA r) := by
 obtain ⟨p0a, p0b, p0c⟩ := p0
 unfold iM.f at hh
 refine go (ts := [(2, none)]) (rm := [.own]) (pm := [.skip]) Tryz.func74 ?_
 unhygienic intros
 cbv
 replace hh := bind_some hh
 obtain ⟨s, j, hh⟩ := hh
 refine ac hF (im hQ j) ?_
 cbv
 refine bcs (fun c => ?_) (fun c => ?_)
 replace hh := ifT hh c
 try rw [c]
 cbv
 replace hh := bind_some hh
 obtain ⟨t, o, hh⟩ := hh
 refine ac hF (bp hQ o) ?_
 cbv
 refine bcs (fun b => ?_) (fun b => ?_)
 replace hh := ifT hh b
 try rw [b]
 cbv
 replace hh := bind_some hh
 obtain ⟨p, d, hh⟩ := hh
 refine ac hF (bp hQ d) ?_
 cbv
 exact Eb
 replace hh := ifF hh b
 try rw [b]
 cbv
 exact Eb
 replace hh := ifF hh c
 try rw [c]
 cbv
 exact Eb

theorem sy {p0 : List GEv} {r : List GEv} (hh : gw.f p0 = some r) : ai P 64 [tA (qGEv p0)] [hA] (oA 3 (qGEv r)) := by
 unfold gw.f at hh
 refine go (ts := [(2, none)]) (rm := [.own]) (pm := [.skip]) Tryz.func64 ?_
 unhygienic intros
 cbv
 replace hh := aa hh
 obtain ⟨b, hh⟩ := hh
 refine ⟨⟨Ab, Ab⟩, ?_⟩
 refine ⟨Wb b, ?_⟩
 exact Eb

theorem jg {p0 : GOcc} {r : GOcc} (hh : dB.f p0 = some r) : ai P 131 [.agg [iA p0.From, iA p0.To, tA (qInt p0.Ids)]] [hA] (.agg [iA r.From, iA r.To, oA 1 (qInt r.Ids)]) := by
 obtain ⟨p0a, p0b, p0c⟩ := p0
 unfold dB.f at hh
 refine go (ts := [(2, some 67)]) (rm := [.own]) (pm := [.skip]) Tryz.func131 ?_
 unhygienic intros
 cbv
 replace hh := aa hh
 obtain ⟨b, hh⟩ := hh
 try dsimp only at b
 refine ⟨⟨Ab, Ab⟩, ?_⟩
 refine ⟨Wb b, ?_⟩
 exact Eb

theorem kY {k : Nat} {p0 : List GFire} {r : List GFire} (hh : bH.f k p0 = some r) : ai P 140 [tA (qGFire p0)] [hA] (oA 4 (qGFire r)) := by
 unfold bH.f at hh
 refine go (ts := [(2, none)]) (rm := [.own]) (pm := [.skip]) Tryz.func140 ?_
 unhygienic intros
 cbv
 replace hh := bind_some hh
 obtain ⟨I, y, z⟩ := hh
 refine au hC eok mixed (fun n (i : (List GFire) × Int) => bH.l0 k p0 n i.1 i.2)
  (fun ⟨c, j⟩ => (⟨[(3, .ref (3, 50) 1 0 (len (qGFire c))), (6, tA (qGFire p0)), (7, iA (cast (len (qGFire p0)))), (8, iA j)], [((3, 50), .arr 1 4 (qGFire c))]⟩ : St))
  (fun (d : List GFire) => (⟨[(3, .ref (3, 50) 1 0 (len (qGFire d)))], [((3, 50), .arr 1 4 (qGFire d))]⟩ : St)) (fun x => x) (.exit 0)
  (i0 := (_, _)) y (fun _ => rfl) ?_ ?_ ?_
 ·rintro ⟨A, J⟩ e
  refine aw [] ?_
  cbv
  all_goals exact J2
 rintro d hx
 subst I
 have hh := z
 cbv
 exact Eb
 rintro n ⟨c, j⟩ L M hh B C K
 try dsimp only at hh
 unfold bH.l0 at hh
 cbv
 refine bcs (fun b => ?_) (fun b => ?_)
 replace hh := ifT hh b
 try rw [b]
 cbv
 replace hh := aa hh
 obtain ⟨D, hh⟩ := hh
 replace hh := bind_some hh
 obtain ⟨⟨o, ⟨p, s, t⟩⟩, F, hh⟩ := hh
 try dsimp only at hh
 refine ⟨[iA o, iA p, iA s, tA (qInt t)], Nb D, Gb F, ?_⟩
 cbv
 replace hh := bind_some hh
 obtain ⟨⟨u, v, w⟩, G, hh⟩ := hh
 try dsimp only at hh
 have fc := ai.frz (r' := .agg [iA u, iA v, tA (qInt w)]) (jg hQ G) (by cases hQ; simp)
 try dsimp only at fc
 refine ac hF fc ?_
 cbv
 replace hh := aa hh
 obtain ⟨H, hh⟩ := hh
 refine ⟨⟨Ob, Ab⟩, ?_⟩
 refine ⟨⟨Ob, Wb H⟩, ?_⟩
 ·refine B (_, _) _ hh fun ⟨A, J⟩ e => ?_
  refine aw [((3, 50), (20, 0))] ?_
  cbv
  all_goals exact J2
 replace hh := ifF hh b
 try rw [b]
 cbv
 ·refine C _ _ hh fun A e => ?_
  refine ah ?_
  cbv
  all_goals exact J1

theorem eG {k : Nat} {p0 : List GOcc} {r : List GOcc} (hh : bo.f k p0 = some r) : ai P 63 [tA (qGOcc p0)] [hA] (oA 3 (qGOccO r)) := by
 unfold bo.f at hh
 refine go (ts := [(2, none)]) (rm := [.own]) (pm := [.skip]) Tryz.func63 ?_
 unhygienic intros
 cbv
 replace hh := bind_some hh
 obtain ⟨D, t, u⟩ := hh
 refine au hC eok mixed (fun n (i : (List GOcc) × Int) => bo.l0 k p0 n i.1 i.2)
  (fun ⟨c, j⟩ => (⟨[(3, .ref (3, 50) 1 0 (len (qGOccO c))), (6, tA (qGOcc p0)), (7, iA (cast (len (qGOcc p0)))), (8, iA j)], [((3, 50), .arr 1 3 (qGOccO c))]⟩ : St))
  (fun (d : List GOcc) => (⟨[(3, .ref (3, 50) 1 0 (len (qGOccO d)))], [((3, 50), .arr 1 3 (qGOccO d))]⟩ : St)) (fun x => x) (.exit 0)
  (i0 := (_, _)) t (fun _ => rfl) ?_ ?_ ?_
 ·rintro ⟨v, F⟩ e
  refine aw [] ?_
  cbv
  all_goals exact J2
 rintro d hx
 subst D
 have hh := u
 cbv
 exact Eb
 rintro n ⟨c, j⟩ K L hh w y J
 try dsimp only at hh
 unfold bo.l0 at hh
 cbv
 refine bcs (fun b => ?_) (fun b => ?_)
 replace hh := ifT hh b
 try rw [b]
 cbv
 replace hh := aa hh
 obtain ⟨z, hh⟩ := hh
 replace hh := bind_some hh
 obtain ⟨⟨o, p, s⟩, A, hh⟩ := hh
 try dsimp only at hh
 refine ⟨[iA o, iA p, tA (qInt s)], Nb z, Gb A, ?_⟩
 cbv
 replace hh := bind_some hh
 obtain ⟨⟨G, H, I⟩, B, hh⟩ := hh
 try dsimp only at hh
 have fc := jg hQ B
 try dsimp only at fc
 refine ac hF fc ?_
 cbv
 replace hh := aa hh
 obtain ⟨C, hh⟩ := hh
 refine ⟨⟨Ob, Ab⟩, ?_⟩
 refine ⟨⟨Ob, Wb C⟩, ?_⟩
 ·refine w (_, _) _ hh fun ⟨v, F⟩ e => ?_
  refine aw [((3, 50), (16, 0))] ?_
  cbv
  all_goals exact J2
 replace hh := ifF hh b
 try rw [b]
 cbv
 ·refine y _ _ hh fun v e => ?_
  refine ah ?_
  cbv
  all_goals exact J1

theorem qg {k : Nat} {p0 : GPair} {r : GPair} (hh : gO.f k p0 = some r) : ai P 221 [.agg [tA (qGOcc p0.Left), tA (qGOcc p0.Right)]] [hA] (.agg [oA 3 (qGOccO r.Left), oA 3 (qGOccO r.Right)]) := by
 obtain ⟨p0a, p0b⟩ := p0
 unfold gO.f at hh
 refine go (ts := [(2, some 171)]) (rm := [.own]) (pm := [.skip]) Tryz.func221 ?_
 unhygienic intros
 cbv
 replace hh := bind_some hh
 obtain ⟨d, b, hh⟩ := hh
 refine ac hF (eG hQ b) ?_
 cbv
 replace hh := bind_some hh
 obtain ⟨j, c, hh⟩ := hh
 refine ac hF (eG hQ c) ?_
 cbv
 exact Eb

theorem qi {k : Nat} {p0 : GSpan} {r : GSpan} (hh : gQ.f k p0 = some r) : ai P 222 [.agg [tA (qGOcc p0.Left), tA (qGOcc p0.Mid)]] [hA] (.agg [oA 3 (qGOccO r.Left), oA 3 (qGOccO r.Mid)]) := by
 obtain ⟨p0a, p0b⟩ := p0
 unfold gQ.f at hh
 refine go (ts := [(2, some 173)]) (rm := [.own]) (pm := [.skip]) Tryz.func222 ?_
 unhygienic intros
 cbv
 replace hh := bind_some hh
 obtain ⟨d, b, hh⟩ := hh
 refine ac hF (eG hQ b) ?_
 cbv
 replace hh := bind_some hh
 obtain ⟨j, c, hh⟩ := hh
 refine ac hF (eG hQ c) ?_
 cbv
 exact Eb

theorem ql {k : Nat} {p0 : GNode} {r : GNode} (hh : fd.f k p0 = some r) : ai P 188 [.agg [iA p0.Kind, iA p0.Sym, iA p0.N, tA (qInt p0.Kids), tA (qGOcc p0.Pair.Left), tA (qGOcc p0.Pair.Right), tA (qGOcc p0.Span.Left), tA (qGOcc p0.Span.Mid), tA (qGOcc p0.Due), iA p0.Many]] [hA] (.agg [iA r.Kind, iA r.Sym, iA r.N, oA 1 (qInt r.Kids), oA 3 (qGOccO r.Pair.Left), oA 3 (qGOccO r.Pair.Right), oA 3 (qGOccO r.Span.Left), oA 3 (qGOccO r.Span.Mid), oA 3 (qGOccO r.Due), iA r.Many]) := by
 obtain ⟨p0a, p0b, p0c, p0d, ⟨p0e, p0f⟩, ⟨p0g, p0h⟩, p0i, p0j⟩ := p0
 unfold fd.f at hh
 refine go (ts := [(2, some 175)]) (rm := [.own]) (pm := [.skip]) Tryz.func188 ?_
 unhygienic intros
 cbv
 replace hh := aa hh
 obtain ⟨b, hh⟩ := hh
 try dsimp only at b
 refine ⟨⟨Ab, Ab⟩, ?_⟩
 refine ⟨Wb b, ?_⟩
 replace hh := bind_some hh
 obtain ⟨⟨o, p⟩, c, hh⟩ := hh
 try dsimp only at hh
 have fc := qg hQ c
 try dsimp only at fc
 refine ac hF fc ?_
 cbv
 replace hh := bind_some hh
 obtain ⟨⟨s, t⟩, d, hh⟩ := hh
 try dsimp only at hh
 have fc := qi hQ d
 try dsimp only at fc
 refine ac hF fc ?_
 cbv
 replace hh := bind_some hh
 obtain ⟨u, j, hh⟩ := hh
 refine ac hF (eG hQ j) ?_
 cbv
 exact Eb

theorem oS {k : Nat} {p0 : GGraph} {r : GGraph} (hh : bK.f k p0 = some r) : ai P 141 [.agg [iA p0.Mode, tA (qGNode p0.Nodes), iA p0.Seen, iA p0.Now, bA p0.Full]] [hA] (.agg [iA r.Mode, oA 10 (qGNode r.Nodes), iA r.Seen, iA r.Now, bA r.Full]) := by
 obtain ⟨p0a, p0b, p0c, p0d, p0e⟩ := p0
 unfold bK.f at hh
 refine go (ts := [(2, some 91)]) (rm := [.own]) (pm := [.skip]) Tryz.func141 ?_
 unhygienic intros
 cbv
 replace hh := bind_some hh
 obtain ⟨W, M, N⟩ := hh
 refine au hC eok mixed (fun n (i : (List GNode) × Int) => bK.l0 k (⟨p0a, p0b, p0c, p0d, p0e⟩ : GGraph) n i.1 i.2)
  (fun ⟨c, j⟩ => (⟨[(1, .mptr (1, 0) 1 0 0), (2, .mptr (2, 0) 1 0 0), (3, .ref (3, 50) 1 0 (len (qGNode c))), (7, tA (qGNode p0b)), (8, iA (cast (len (qGNode p0b)))), (9, iA j)], [((1, 0), .box 1 [iA p0a, tA (qGNode p0b), iA p0c, iA p0d, bA p0e]), ((2, 0), .box 1 [iA 0, .lit (.slice none 0 0), iA 0, iA 0, bA false]), ((3, 50), .arr 1 10 (qGNode c))]⟩ : St))
  (fun (d : List GNode) => (⟨[(1, .mptr (1, 0) 1 0 0), (2, .mptr (2, 0) 1 0 0), (3, .ref (3, 50) 1 0 (len (qGNode d)))], [((1, 0), .box 1 [iA p0a, tA (qGNode p0b), iA p0c, iA p0d, bA p0e]), ((2, 0), .box 1 [iA 0, .lit (.slice none 0 0), iA 0, iA 0, bA false]), ((3, 50), .arr 1 10 (qGNode d))]⟩ : St)) (fun x => x) (.exit 0)
  (i0 := (_, _)) M (fun _ => rfl) ?_ ?_ ?_
 ·rintro ⟨O, X⟩ e
  refine aw [((1, 0), (1, 0)), ((2, 0), (2, 0))] ?_
  cbv
  all_goals exact J2
 rintro d hx
 subst W
 have hh := N
 cbv
 exact Eb
 rintro n ⟨c, j⟩ Z D1 hh Q R Y
 try dsimp only at hh
 unfold bK.l0 at hh
 cbv
 refine bcs (fun b => ?_) (fun b => ?_)
 replace hh := ifT hh b
 try rw [b]
 cbv
 replace hh := aa hh
 obtain ⟨S, hh⟩ := hh
 replace hh := bind_some hh
 obtain ⟨⟨o, p, s, t, ⟨u, v⟩, ⟨w, y⟩, z, A⟩, T, hh⟩ := hh
 try dsimp only at hh
 refine ⟨[iA o, iA p, iA s, tA (qInt t), tA (qGOcc u), tA (qGOcc v), tA (qGOcc w), tA (qGOcc y), tA (qGOcc z), iA A], Nb S, Gb T, ?_⟩
 cbv
 replace hh := bind_some hh
 obtain ⟨⟨B, C, D, F, ⟨G, H⟩, ⟨I, J⟩, K, L⟩, U, hh⟩ := hh
 try dsimp only at hh
 have fc := ai.frz (r' := .agg [iA B, iA C, iA D, tA (qInt F), tA (qGOcc G), tA (qGOcc H), tA (qGOcc I), tA (qGOcc J), tA (qGOcc K), iA L]) (ql hQ U) (by cases hQ; simp)
 try dsimp only at fc
 refine ac hF fc ?_
 cbv
 replace hh := aa hh
 obtain ⟨V, hh⟩ := hh
 refine ⟨⟨Ob, Ab⟩, ?_⟩
 refine ⟨⟨Ob, Wb V⟩, ?_⟩
 ·refine Q (_, _) _ hh fun ⟨O, X⟩ e => ?_
  refine aw [((1, 0), (1, 0)), ((2, 0), (2, 0)), ((3, 50), (17, 0))] ?_
  cbv
  all_goals exact J2
 replace hh := ifF hh b
 try rw [b]
 cbv
 ·refine R _ _ hh fun O e => ?_
  refine ah ?_
  cbv
  all_goals exact J1

theorem gj {k : Nat} {p0 : GEng} {r : GEng} (hh : bE.f k p0 = some r) : ai P 83 [.agg [tA (qGRule p0.Rules), tA (qGGraph p0.Graphs), tA (qGEv p0.Events), tA (qInt p0.Keys), tA (qGFire p0.Fired)]] [hA] (.agg [tA (qGRule r.Rules), oA 5 (qGGraphS r.Graphs), oA 3 (qGEv r.Events), oA 1 (qInt r.Keys), oA 4 (qGFire r.Fired)]) := by
 obtain ⟨p0a, p0b, p0c, p0d, p0e⟩ := p0
 unfold bE.f at hh
 refine go (ts := [(2, some 53)]) (rm := [.own]) (pm := [.skip]) Tryz.func83 ?_
 unhygienic intros
 cbv
 replace hh := bind_some hh
 obtain ⟨s, K, hh⟩ := hh
 refine ac hF (ai.frz (r' := tA (qGRule s)) (kZ hQ K) (by cases hQ; simp)) ?_
 cbv
 replace hh := bind_some hh
 obtain ⟨j, L, hh⟩ := hh
 refine ac hF (sy hQ L) ?_
 cbv
 replace hh := aa hh
 obtain ⟨z, hh⟩ := hh
 try dsimp only at z
 refine ⟨⟨Ab, Ab⟩, ?_⟩
 refine ⟨Wb z, ?_⟩
 replace hh := bind_some hh
 obtain ⟨o, M, hh⟩ := hh
 refine ac hF (kY hQ M) ?_
 cbv
 replace hh := bind_some hh
 obtain ⟨N, A, B⟩ := hh
 refine au hC eok mixed (fun n (i : (List GGraph) × Int) => bE.l0 k (⟨p0a, p0b, p0c, p0d, p0e⟩ : GEng) n i.1 i.2)
  (fun ⟨c, p⟩ => (⟨[(2, .mptr (2, 0) 1 0 0), (3, .mptr (3, 0) 1 0 0), (20, tA (qGGraph p0b)), (21, iA (cast (len (qGGraph p0b)))), (22, iA p)], [((2, 0), .box 1 [.lit (.slice none 0 0), .lit (.slice none 0 0), .lit (.slice none 0 0), .lit (.slice none 0 0), .lit (.slice none 0 0)]), ((3, 0), .box 1 [tA (qGRule s), .ref (3, 51) 1 0 (len (qGGraphS c)), .ref (11, 0) 1 0 (len (qGEv j)), .ref (14, 0) 1 0 (len (qInt p0d)), .ref (17, 0) 1 0 (len (qGFire o))]), ((3, 51), .arr 1 5 (qGGraphS c)), ((11, 0), .arr 1 3 (qGEv j)), ((14, 0), .arr 1 1 (qInt p0d)), ((17, 0), .arr 1 4 (qGFire o))]⟩ : St))
  (fun (d : List GGraph) => (⟨[(2, .mptr (2, 0) 1 0 0), (3, .mptr (3, 0) 1 0 0)], [((2, 0), .box 1 [.lit (.slice none 0 0), .lit (.slice none 0 0), .lit (.slice none 0 0), .lit (.slice none 0 0), .lit (.slice none 0 0)]), ((3, 0), .box 1 [tA (qGRule s), .ref (3, 51) 1 0 (len (qGGraphS d)), .ref (11, 0) 1 0 (len (qGEv j)), .ref (14, 0) 1 0 (len (qInt p0d)), .ref (17, 0) 1 0 (len (qGFire o))]), ((3, 51), .arr 1 5 (qGGraphS d)), ((11, 0), .arr 1 3 (qGEv j)), ((14, 0), .arr 1 1 (qInt p0d)), ((17, 0), .arr 1 4 (qGFire o))]⟩ : St)) (fun x => x) (.exit 0)
  (i0 := (_, _)) A (fun _ => rfl) ?_ ?_ ?_
 ·rintro ⟨C, O⟩ e
  refine aw [((2, 0), (2, 0)), ((3, 0), (3, 0)), ((11, 0), (11, 0)), ((14, 0), (14, 0)), ((17, 0), (17, 0))] ?_
  cbv
  all_goals exact J2
 rintro d hx
 subst N
 have hh := B
 cbv
 exact Eb
 rintro n ⟨c, p⟩ W X hh D F V
 try dsimp only at hh
 unfold bE.l0 at hh
 cbv
 refine bcs (fun b => ?_) (fun b => ?_)
 replace hh := ifT hh b
 try rw [b]
 cbv
 replace hh := aa hh
 obtain ⟨G, hh⟩ := hh
 replace hh := bind_some hh
 obtain ⟨⟨t, u, v, w, y⟩, H, hh⟩ := hh
 try dsimp only at hh
 refine ⟨[iA t, tA (qGNode u), iA v, iA w, bA y], Nb G, Gb H, ?_⟩
 cbv
 replace hh := bind_some hh
 obtain ⟨⟨Q, R, S, T, U⟩, I, hh⟩ := hh
 try dsimp only at hh
 have fc := oS hQ I
 try dsimp only at fc
 refine ac hF fc ?_
 cbv
 replace hh := aa hh
 obtain ⟨J, hh⟩ := hh
 refine ⟨⟨Ob, Ab⟩, ?_⟩
 refine ⟨⟨Ob, Wb J⟩, ?_⟩
 ·refine D (_, _) _ hh fun ⟨C, O⟩ e => ?_
  refine aw [((2, 0), (2, 0)), ((3, 0), (3, 0)), ((3, 51), (31, 0)), ((11, 0), (11, 0)), ((14, 0), (14, 0)), ((17, 0), (17, 0))] ?_
  cbv
  all_goals exact J2
 replace hh := ifF hh b
 try rw [b]
 cbv
 ·refine F _ _ hh fun C e => ?_
  refine ah ?_
  cbv
  all_goals exact J1

theorem ul {p0 : Int} {p1 : Int} {c0 : List GRule} {r : Int} (hh : gX.f p0 p1 c0 = some r) : ai P 224 [iA p0, iA p1, .iptr [tA (qGRule c0)] 0] [hA, hA, hA] (iA r) := by
 unfold gX.f at hh
 refine go (ts := [(5, none)]) (rm := [.own]) (pm := [.skip, .skip, .skip]) Tryz.func224 ?_
 unhygienic intros
 cbv
 replace hh := aa hh
 obtain ⟨M, hh⟩ := hh
 replace hh := bind_some hh
 obtain ⟨⟨b, c, d, ⟨j, o, p, s⟩, t, u, v, w, y⟩, N, hh⟩ := hh
 try dsimp only at hh
 refine ⟨[sA b, iA c, iA d, iA j, iA o, iA p, tA (qGEx s), iA t, iA u, iA v, iA w, iA y], Nb M, Gb N, ?_⟩
 cbv
 replace hh := aa hh
 obtain ⟨O, hh⟩ := hh
 replace hh := bind_some hh
 obtain ⟨⟨z, A, B, ⟨C, D, F, G⟩, H, I, J, K, L⟩, Q, hh⟩ := hh
 try dsimp only at hh
 refine ⟨[sA z, iA A, iA B, iA C, iA D, iA F, tA (qGEx G), iA H, iA I, iA J, iA K, iA L], Nb O, Gb Q, ?_⟩
 cbv
 exact Eb

theorem dw {k : Nat} {g3 : Int → Int → Option Int} {cp3_0 : List GRule} (hg3 : ∀ {y0 : Int} {y1 : Int} {r : Int}, g3 y0 y1 = some r → ai P 224 [iA y0, iA y1, .iptr [tA (qGRule cp3_0)] 0] [hA, hA, hA] (iA r)) {p0 : List Int} {p1 : Int} {p2 : Int} {r : List Int} (hh : aq.f g3 k p0 p1 p2 = some r) : ai P 267 [oA 1 (qInt p0), iA p1, iA p2, .clo 224 [.iptr [tA (qGRule cp3_0)] 0]] [oA 1 (qInt r), hA, hA, hA] (.tup []) := by
 unfold aq.f at hh
 refine go (ts := []) (rm := []) (pm := [.own, .skip, .skip, .skip]) Tryz.func267 ?_
 unhygienic intros
 cbv
 replace hh := bind_some hh
 obtain ⟨o1, U, V⟩ := hh
 refine au hC eok mixed (fun n (i : (List Int) × Int) => aq.l2 k g3 p1 p2 n i.1 i.2)
  (fun ⟨u, v⟩ => (⟨[(0, .ref (0, 0) 1 0 (len (qInt u))), (1, iA p1), (2, iA p2), (3, .clo 224 [.iptr [tA (qGRule cp3_0)] 0]), (8, iA v), (1000000, .ref (0, 0) 1 0 (len (qInt u)))], [((0, 0), .arr 1 1 (qInt u))]⟩ : St))
  (fun (p : List Int) => (⟨[(1000000, .ref (0, 0) 1 0 (len (qInt p)))], [((0, 0), .arr 1 1 (qInt p))]⟩ : St)) (fun x => x) (.exit 0)
  (i0 := (_, _)) U (fun _ => rfl) ?_ ?_ ?_
 ·rintro ⟨w, C⟩ e
  refine ah ?_
  cbv
  all_goals exact J2
 rintro p hx
 subst o1
 have hh := V
 cbv
 exact Eb
 rintro n ⟨u, v⟩ N1 D1 hh W X B3
 try dsimp only at hh
 unfold aq.l2 at hh
 cbv
 refine bcs (fun b => ?_) (fun b => ?_)
 replace hh := ifT hh b
 try rw [b]
 cbv
 replace hh := bind_some hh
 obtain ⟨o2, Y, Z⟩ := hh
 refine au hC eok mixed (fun n (i : (List Int) × Int) => aq.l3 k g3 p1 n i.1 i.2)
  (fun ⟨j, y⟩ => (⟨[(0, .ref (0, 0) 1 0 (len (qInt j))), (1, iA p1), (2, iA p2), (3, .clo 224 [.iptr [tA (qGRule cp3_0)] 0]), (8, iA v), (9, iA y), (1000000, .ref (0, 0) 1 0 (len (qInt j)))], [((0, 0), .arr 1 1 (qInt j))]⟩ : St))
  (fun (o : List Int) => (⟨[(0, .ref (0, 0) 1 0 (len (qInt o))), (1, iA p1), (2, iA p2), (3, .clo 224 [.iptr [tA (qGRule cp3_0)] 0]), (8, iA v), (1000000, .ref (0, 0) 1 0 (len (qInt o)))], [((0, 0), .arr 1 1 (qInt o))]⟩ : St)) (fun x => x) (.exit 2)
  (i0 := (_, _)) Y (fun _ => rfl) ?_ ?_ ?_
 ·rintro ⟨w, C⟩ e
  refine ah ?_
  cbv
  all_goals exact J2
 rintro o hx
 subst o2
 have hh := Z
 cbv
 ·refine W (_, _) _ hh fun ⟨w, C⟩ e => ?_
  refine ah ?_
  cbv
  all_goals exact J2
 rintro n ⟨j, y⟩ N2 D2 hh dv B Ce
 try dsimp only at hh
 unfold aq.l3 at hh
 cbv
 refine bcs (fun c => ?_) (fun c => ?_)
 replace hh := ifT hh c
 try rw [c]
 cbv
 replace hh := aa hh
 obtain ⟨D, hh⟩ := hh
 replace hh := aa hh
 obtain ⟨F, hh⟩ := hh
 refine ⟨Nb D, Mb F, ?_⟩
 replace hh := bind_some hh
 obtain ⟨s, t, hh⟩ := hh
 refine ⟨[iA s], Gb t, ?_⟩
 cbv
 replace hh := aa hh
 obtain ⟨G, hh⟩ := hh
 replace hh := aa hh
 obtain ⟨H, hh⟩ := hh
 refine ⟨Nb G, Mb H, ?_⟩
 replace hh := bind_some hh
 obtain ⟨z, A, hh⟩ := hh
 refine ⟨[iA z], Gb A, ?_⟩
 cbv
 replace hh := bind_some hh
 obtain ⟨B2, I, hh⟩ := hh
 refine ac hF (hg3 I) ?_
 cbv
 refine bcs (fun d => ?_) (fun d => ?_)
 replace hh := ifT hh d
 try rw [d]
 cbv
 replace hh := aa hh
 obtain ⟨J, hh⟩ := hh
 replace hh := aa hh
 obtain ⟨K, hh⟩ := hh
 refine ⟨Nb J, Mb K, ?_⟩
 refine ⟨[iA z], Gb A, ?_⟩
 cbv
 replace hh := aa hh
 obtain ⟨L, hh⟩ := hh
 replace hh := aa hh
 obtain ⟨M, hh⟩ := hh
 refine ⟨Nb L, Mb M, ?_⟩
 refine ⟨[iA s], Gb t, ?_⟩
 cbv
 replace hh := aa hh
 obtain ⟨N, hh⟩ := hh
 replace hh := aa hh
 obtain ⟨O, hh⟩ := hh
 refine ⟨Nb N, Mb O, ?_⟩
 refine ⟨[iA s], Gb t, ?_⟩
 cbv
 replace hh := aa hh
 obtain ⟨Q, hh⟩ := hh
 replace hh := aa hh
 obtain ⟨R, hh⟩ := hh
 refine ⟨Nb Q, Mb R, ?_⟩
 replace hh := bind_some hh
 obtain ⟨S, T, hh⟩ := hh
 refine ⟨[iA S], Gb T, ?_⟩
 cbv
 ·refine dv (_, _) _ hh fun ⟨w, C⟩ e => ?_
  refine ah ?_
  cbv
  all_goals exact J2
 replace hh := ifF hh d
 try rw [d]
 cbv
 ·refine B _ _ hh fun w e => ?_
  refine ah ?_
  cbv
  all_goals exact J1
 replace hh := ifF hh c
 try rw [c]
 cbv
 ·refine B _ _ hh fun w e => ?_
  refine ah ?_
  cbv
  all_goals exact J1
 replace hh := ifF hh b
 try rw [b]
 cbv
 ·refine X _ _ hh fun w e => ?_
  refine ah ?_
  cbv
  all_goals exact J1

theorem iz {k : Nat} {g2 : Int → Int → Option Int} {cp2_0 : List GRule} (hg2 : ∀ {y0 : Int} {y1 : Int} {r : Int}, g2 y0 y1 = some r → ai P 224 [iA y0, iA y1, .iptr [tA (qGRule cp2_0)] 0] [hA, hA, hA] (iA r)) {p0 : List Int} {p1 : Int} {r : List Int} (hh : aH.f g2 k p0 p1 = some r) : ai P 251 [oA 1 (qInt p0), iA p1, .clo 224 [.iptr [tA (qGRule cp2_0)] 0]] [oA 1 (qInt r), hA, hA] (.tup []) := by
 unfold aH.f at hh
 refine go (ts := []) (rm := []) (pm := [.own, .skip, .skip]) Tryz.func251 ?_
 unhygienic intros
 cbv
 replace hh := bind_some hh
 obtain ⟨F, t, u⟩ := hh
 refine au hC eok mixed (fun n (i : (List Int) × Int × Int) => aH.l0 k g2 p1 n i.1 i.2.1 i.2.2)
  (fun ⟨A, G, B⟩ => (⟨[(0, .ref (0, 0) 1 0 (len (qInt A))), (1, iA p1), (2, .clo 224 [.iptr [tA (qGRule cp2_0)] 0]), (6, iA 20), (7, iA G), (8, iA B), (1000000, .ref (0, 0) 1 0 (len (qInt A)))], [((0, 0), .arr 1 1 (qInt A))]⟩ : St))
  (fun (⟨s, D⟩ : (List Int) × Int) => (⟨[(0, .ref (0, 0) 1 0 (len (qInt s))), (1, iA p1), (2, .clo 224 [.iptr [tA (qGRule cp2_0)] 0]), (6, iA 20), (7, iA D), (1000000, .ref (0, 0) 1 0 (len (qInt s)))], [((0, 0), .arr 1 1 (qInt s))]⟩ : St)) (fun x => x) (.exit 0)
  (i0 := (_, _, _)) t (fun _ => rfl) ?_ ?_ ?_
 ·rintro ⟨C, H, O⟩ e
  refine ah ?_
  cbv
  all_goals exact J3
 rintro ⟨s, D⟩ hx
 subst F
 have hh := u
 cbv
 replace hh := bind_some hh
 obtain ⟨b, I, hh⟩ := hh
 replace hh := aa hh
 obtain ⟨T, hh⟩ := hh
 refine ac hF (dw hQ (g3 := g2) hg2 I) ?_
 cbv
 replace hh := bind_some hh
 obtain ⟨F, t, u⟩ := hh
 refine au hC eok mixed (aH.l3 k p1)
  (fun c => (⟨[(0, .ref (0, 0) 1 0 (len (qInt b))), (1, iA p1), (2, .clo 224 [.iptr [tA (qGRule cp2_0)] 0]), (6, iA c), (1000000, .ref (0, 0) 1 0 (len (qInt b)))], [((0, 0), .arr 1 1 (qInt b))]⟩ : St))
  (fun (_ : Unit) => (⟨[(1000000, .ref (0, 0) 1 0 (len (qInt b)))], [((0, 0), .arr 1 1 (qInt b))]⟩ : St)) (fun x => x) (.exit 2)
  (i0 := _) t (fun _ => rfl) ?_ ?_ ?_
 ·rintro C e
  refine ah ?_
  cbv
  all_goals exact J1
 rintro _ hx
 subst F
 have hh := u
 cbv
 exact Eb
 rintro n c Q R hh v w J
 unfold aH.l3 at hh
 cbv
 refine bcs (fun d => ?_) (fun d => ?_)
 replace hh := ifT hh d
 try rw [d]
 cbv
 replace hh := bind_some hh
 obtain ⟨S, K, L⟩ := hh
 refine au hC eok mixed (fun n (_ : Unit) => aH.l4 k p1 c n)
  (fun _ => (⟨[(0, .ref (0, 0) 1 0 (len (qInt b))), (1, iA p1), (2, .clo 224 [.iptr [tA (qGRule cp2_0)] 0]), (6, iA c), (7, iA 0), (8, iA (wrap .i64 (mul 2 c))), (1000000, .ref (0, 0) 1 0 (len (qInt b)))], [((0, 0), .arr 1 1 (qInt b))]⟩ : St))
  (fun (_ : Unit) => (⟨[(0, .ref (0, 0) 1 0 (len (qInt b))), (1, iA p1), (2, .clo 224 [.iptr [tA (qGRule cp2_0)] 0]), (6, iA c), (7, iA 0), (1000000, .ref (0, 0) 1 0 (len (qInt b)))], [((0, 0), .arr 1 1 (qInt b))]⟩ : St)) (fun x => x) (.exit 4)
  (i0 := ()) K (fun _ => rfl) ?_ ?_ ?_
 ·rintro _ e
  refine ah ?_
  cbv
  all_goals exact J0
 rintro _ hx
 subst S
 have hh := L
 cbv
 refine bcs (fun j => ?_) (fun j => ?_)
 replace hh := ifT hh j
 try rw [j]
 cbv
 cases hh
 replace hh := ifF hh j
 try rw [j]
 cbv
 ·refine v _ _ hh fun C e => ?_
  refine ah ?_
  cbv
  all_goals exact J1
 rintro n _ Y Z hh U M V
 try dsimp only at hh
 unfold aH.l4 at hh
 cbv
 replace hh := az hh
 rcases hh with ⟨y, hh⟩ | ⟨y, hh⟩
 have o : (lt p1 (wrap .i64 (mul 2 c))) = true := Tb y
 have g := o; cbv at g; try rw [o]
 try rw [g]
 cbv
 ·refine M () _ hh fun _ e => ?_
  refine ah ?_
  cbv
  all_goals exact J0
 have o : (lt p1 (wrap .i64 (mul 2 c))) = false := Fb y
 have g := o; cbv at g; try rw [o]
 try rw [g]
 cbv
 cases hh
 replace hh := ifF hh d
 try rw [d]
 cbv
 ·refine w () _ hh fun _ e => ?_
  refine ah ?_
  cbv
  all_goals exact J0
 rintro n ⟨A, G, B⟩ Q R hh v w J
 try dsimp only at hh
 unfold aH.l0 at hh
 cbv
 replace hh := az hh
 rcases hh with ⟨z, hh⟩ | ⟨z, hh⟩
 have p : (lt p1 B) = true := Tb z
 have g := p; cbv at g; try rw [p]
 try rw [g]
 cbv
 ·refine w (_, _) _ hh fun ⟨C, H⟩ e => ?_
  refine ah ?_
  cbv
  all_goals exact J2
 have p : (lt p1 B) = false := Fb z
 have g := p; cbv at g; try rw [p]
 try rw [g]
 cbv
 replace hh := bind_some hh
 obtain ⟨W, N, hh⟩ := hh
 replace hh := aa hh
 obtain ⟨X, hh⟩ := hh
 refine ac hF (dw hQ (g3 := g2) hg2 N) ?_
 cbv
 ·refine v (_, _, _) _ hh fun ⟨C, H, O⟩ e => ?_
  refine ah ?_
  cbv
  all_goals exact J3

theorem io {k : Nat} {g1 : Int → Int → Option Int} {cp1_0 : List GRule} (hg1 : ∀ {y0 : Int} {y1 : Int} {r : Int}, g1 y0 y1 = some r → ai P 224 [iA y0, iA y1, .iptr [tA (qGRule cp1_0)] 0] [hA, hA, hA] (iA r)) {p0 : List Int} {r : List Int} (hh : dA.f g1 k p0 = some r) : ai P 223 [oA 1 (qInt p0), .clo 224 [.iptr [tA (qGRule cp1_0)] 0]] [oA 1 (qInt r), hA] (.tup []) := by
 unfold dA.f at hh
 refine go (ts := []) (rm := []) (pm := [.own, .skip]) Tryz.func223 ?_
 unhygienic intros
 cbv
 replace hh := bind_some hh
 obtain ⟨c, b, hh⟩ := hh
 replace hh := aa hh
 obtain ⟨d, hh⟩ := hh
 refine ac hF (iz hQ (g2 := g1) hg1 b) ?_
 cbv
 exact Eb

theorem wA {k : Nat} {p0 : List GRule} {r : List Int} (hh : c8.f k p0 = some r) : ai P 189 [tA (qGRule p0)] [hA] (oA 1 (qInt r)) := by
 unfold c8.f at hh
 refine go (ts := [(2, none)]) (rm := [.own]) (pm := [.skip]) Tryz.func189 ?_
 unhygienic intros
 cbv
 replace hh := bind_some hh
 obtain ⟨y, j, o⟩ := hh
 refine au hC eok mixed (fun n (i : (List Int) × Int) => c8.l0 k p0 n i.1 i.2)
  (fun ⟨c, p⟩ => (⟨[(1, .mptr (1, 0) 1 0 0), (3, .ref (3, 50) 1 0 (len (qInt c))), (6, iA (cast (len (qGRule p0)))), (7, iA p)], [((1, 0), .box 1 [tA (qGRule p0)]), ((3, 50), .arr 1 1 (qInt c))]⟩ : St))
  (fun (d : List Int) => (⟨[(1, .mptr (1, 0) 1 0 0), (3, .ref (3, 50) 1 0 (len (qInt d)))], [((1, 0), .box 1 [tA (qGRule p0)]), ((3, 50), .arr 1 1 (qInt d))]⟩ : St)) (fun x => x) (.exit 0)
  (i0 := (_, _)) j (fun _ => rfl) ?_ ?_ ?_
 ·rintro ⟨s, z⟩ e
  refine aw [((1, 0), (1, 0))] ?_
  cbv
  all_goals exact J2
 rintro d hx
 subst y
 have hh := o
 cbv
 replace hh := bind_some hh
 obtain ⟨A, t, hh⟩ := hh
 replace hh := aa hh
 obtain ⟨B, hh⟩ := hh
 refine ac hF (io hQ (g1 := fun y0 y1 => gX.f y0 y1 p0) (fun h => ul hQ h) t) ?_
 cbv
 exact Eb
 rintro n ⟨c, p⟩ D F hh u v C
 try dsimp only at hh
 unfold c8.l0 at hh
 cbv
 refine bcs (fun b => ?_) (fun b => ?_)
 replace hh := ifT hh b
 try rw [b]
 cbv
 replace hh := aa hh
 obtain ⟨w, hh⟩ := hh
 refine ⟨⟨Ob, Ab⟩, ?_⟩
 refine ⟨⟨Ob, Wb w⟩, ?_⟩
 ·refine u (_, _) _ hh fun ⟨s, z⟩ e => ?_
  refine aw [((1, 0), (1, 0)), ((3, 50), (13, 0))] ?_
  cbv
  all_goals exact J2
 replace hh := ifF hh b
 try rw [b]
 cbv
 ·refine v _ _ hh fun s e => ?_
  refine ah ?_
  cbv
  all_goals exact J1

theorem re {k : Nat} {p0 : GGraph} {p1 : Int} {r : Int × Bool × GGraph} (hh : aQ.f k p0 p1 = some r) : ai P 129 [.obox [iA p0.Mode, oA 10 (qGNode p0.Nodes), iA p0.Seen, iA p0.Now, bA p0.Full], iA p1] [.obox [iA r.2.2.Mode, oA 10 (qGNode r.2.2.Nodes), iA r.2.2.Seen, iA r.2.2.Now, bA r.2.2.Full], hA] (.tup [iA r.1, bA r.2.1]) := by
 obtain ⟨p0a, p0b, p0c, p0d, p0e⟩ := p0
 unfold aQ.f at hh
 refine go (ts := [(4, none), (5, none)]) (rm := [.own, .own]) (pm := [.own, .skip]) Tryz.func129 ?_
 unhygienic intros
 cbv
 replace hh := bind_some hh
 obtain ⟨o1, Q, R⟩ := hh
 refine au hC eok mixed (fun n (i : Int × Int) => aQ.l2 k (⟨p0a, p0b, p0c, p0d, p0e⟩ : GGraph) n i.1 i.2)
  (fun ⟨H, p⟩ => (⟨[(1, iA p1), (6, iA H), (15, .ref (15, 0) 1 0 (len (qGNode p0b))), (16, iA (cast (len (qGNode p0b)))), (17, iA p), (1000000, .mptr (0, 0) 1 0 0)], [((0, 0), .box 1 [iA p0a, .ref (15, 0) 1 0 (len (qGNode p0b)), iA p0c, iA p0d, bA p0e]), ((15, 0), .arr 1 10 (qGNode p0b))]⟩ : St))
  (fun (I : Int) => (⟨[(1, iA p1), (6, iA I), (1000000, .mptr (0, 0) 1 0 0)], [((0, 0), .box 1 [iA p0a, .ref (15, 0) 1 0 (len (qGNode p0b)), iA p0c, iA p0d, bA p0e]), ((15, 0), .arr 1 10 (qGNode p0b))]⟩ : St)) (fun x => x) (.exit 0)
  (i0 := (_, _)) Q (fun _ => rfl) ?_ ?_ ?_
 ·rintro ⟨t, G⟩ e
  refine ah ?_
  cbv
  all_goals exact J2
 rintro I hx
 subst o1
 have hh := R
 cbv
 exact Eb
 rintro n ⟨H, p⟩ N1 D1 hh S T B2
 try dsimp only at hh
 unfold aQ.l2 at hh
 cbv
 refine bcs (fun c => ?_) (fun c => ?_)
 replace hh := ifT hh c
 try rw [c]
 cbv
 replace hh := aa hh
 obtain ⟨U, hh⟩ := hh
 replace hh := aa hh
 obtain ⟨J, hh⟩ := hh
 try dsimp only at J
 refine ⟨Nb U, Mb J, ?_⟩
 replace hh := bind_some hh
 obtain ⟨⟨u, v, w, y, ⟨z, A⟩, ⟨B, C⟩, b, D⟩, V, hh⟩ := hh
 try dsimp only at hh
 refine ⟨[iA u, iA v, iA w, tA (qInt y), tA (qGOcc z), tA (qGOcc A), tA (qGOcc B), tA (qGOcc C), tA (qGOcc b), iA D], Gb V, ?_⟩
 cbv
 replace hh := bind_some hh
 obtain ⟨o2, W, X⟩ := hh
 refine au hC eok mixed (fun n (i : Int × Int) => aQ.l3 k (⟨u, v, w, y, ⟨z, A⟩, ⟨B, C⟩, b, D⟩ : GNode) n i.1 i.2)
  (fun ⟨s, K⟩ => (⟨[(1, iA p1), (6, iA s), (15, .ref (15, 0) 1 0 (len (qGNode p0b))), (16, iA (cast (len (qGNode p0b)))), (17, iA p), (22, tA (qGOcc b)), (23, iA (cast (len (qGOcc b)))), (24, iA K), (1000000, .mptr (0, 0) 1 0 0)], [((0, 0), .box 1 [iA p0a, .ref (15, 0) 1 0 (len (qGNode p0b)), iA p0c, iA p0d, bA p0e]), ((15, 0), .arr 1 10 (qGNode p0b))]⟩ : St))
  (fun (L : Int) => (⟨[(1, iA p1), (6, iA L), (15, .ref (15, 0) 1 0 (len (qGNode p0b))), (16, iA (cast (len (qGNode p0b)))), (17, iA p), (1000000, .mptr (0, 0) 1 0 0)], [((0, 0), .box 1 [iA p0a, .ref (15, 0) 1 0 (len (qGNode p0b)), iA p0c, iA p0d, bA p0e]), ((15, 0), .arr 1 10 (qGNode p0b))]⟩ : St)) (fun x => x) (.exit 2)
  (i0 := (_, _)) W (fun _ => rfl) ?_ ?_ ?_
 ·rintro ⟨t, G⟩ e
  refine ah ?_
  cbv
  all_goals exact J2
 rintro L hx
 subst o2
 have hh := X
 cbv
 ·refine S (_, _) _ hh fun ⟨t, G⟩ e => ?_
  refine ah ?_
  cbv
  all_goals exact J2
 rintro n ⟨s, K⟩ N2 D2 hh M Y B3
 try dsimp only at hh
 unfold aQ.l3 at hh
 cbv
 refine bcs (fun d => ?_) (fun d => ?_)
 replace hh := ifT hh d
 try rw [d]
 cbv
 replace hh := aa hh
 obtain ⟨Z, hh⟩ := hh
 replace hh := bind_some hh
 obtain ⟨⟨N, o, O⟩, dv, hh⟩ := hh
 try dsimp only at hh
 refine ⟨[iA N, iA o, tA (qInt O)], Nb Z, Gb dv, ?_⟩
 cbv
 replace hh := az hh
 rcases hh with ⟨F, hh⟩ | ⟨F, hh⟩
 have j : (lt o s) = true := Tb F
 have g := j; cbv at g; try rw [j]
 try rw [g]
 cbv
 ·refine M (_, _) _ hh fun ⟨t, G⟩ e => ?_
  refine ah ?_
  cbv
  all_goals exact J2
 have j : (lt o s) = false := Fb F
 have g := j; cbv at g; try rw [j]
 try rw [g]
 cbv
 ·refine M (_, _) _ hh fun ⟨t, G⟩ e => ?_
  refine ah ?_
  cbv
  all_goals exact J2
 replace hh := ifF hh d
 try rw [d]
 cbv
 ·refine Y _ _ hh fun t e => ?_
  refine ah ?_
  cbv
  all_goals exact J1
 replace hh := ifF hh c
 try rw [c]
 cbv
 ·refine T _ _ hh fun t e => ?_
  refine ah ?_
  cbv
  all_goals exact J1

theorem wW {p0 : GOcc} {c0 : Int} {r : Bool} (hh : kC.f p0 c0 = some r) : ai P 250 [.agg [iA p0.From, iA p0.To, tA (qInt p0.Ids)], .iptr [iA c0] 0] [hA, hA] (bA r) := by
 obtain ⟨p0a, p0b, p0c⟩ := p0
 unfold kC.f at hh
 refine go (ts := [(3, none)]) (rm := [.own]) (pm := [.skip, .skip]) Tryz.func250 ?_
 unhygienic intros
 cbv
 exact Eb

theorem mL {k : Nat} {g1 : GOcc → Option Bool} {cp1_0 : Int} (hg1 : ∀ {y0 : GOcc} {r : Bool}, g1 y0 = some r → ai P 250 [.agg [iA y0.From, iA y0.To, tA (qInt y0.Ids)], .iptr [iA cp1_0] 0] [hA, hA] (bA r)) {p0 : List GOcc} {r : List GOcc} (hh : aP.f g1 k p0 = some r) : ai P 218 [tA (qGOcc p0), .clo 250 [.iptr [iA cp1_0] 0]] [hA, hA] (oA 3 (qGOcc r)) := by
 unfold aP.f at hh
 refine go (ts := [(4, none)]) (rm := [.own]) (pm := [.skip, .skip]) Tryz.func218 ?_
 unhygienic intros
 cbv
 replace hh := bind_some hh
 obtain ⟨G, w, y⟩ := hh
 refine au hC eok mixed (fun n (i : (List GOcc) × Int) => aP.l0 k g1 p0 n i.1 i.2)
  (fun ⟨d, o⟩ => (⟨[(1, .clo 250 [.iptr [iA cp1_0] 0]), (5, .ref (5, 50) 1 0 (len (qGOcc d))), (8, tA (qGOcc p0)), (9, iA (cast (len (qGOcc p0)))), (10, iA o)], [((5, 50), .arr 1 3 (qGOcc d))]⟩ : St))
  (fun (j : List GOcc) => (⟨[(5, .ref (5, 50) 1 0 (len (qGOcc j)))], [((5, 50), .arr 1 3 (qGOcc j))]⟩ : St)) (fun x => x) (.exit 0)
  (i0 := (_, _)) w (fun _ => rfl) ?_ ?_ ?_
 ·rintro ⟨s, z⟩ e
  refine aw [] ?_
  cbv
  all_goals exact J2
 rintro j hx
 subst G
 have hh := y
 cbv
 exact Eb
 rintro n ⟨d, o⟩ J K hh p A H
 try dsimp only at hh
 unfold aP.l0 at hh
 cbv
 refine bcs (fun b => ?_) (fun b => ?_)
 replace hh := ifT hh b
 try rw [b]
 cbv
 replace hh := aa hh
 obtain ⟨B, hh⟩ := hh
 replace hh := bind_some hh
 obtain ⟨⟨t, u, v⟩, C, hh⟩ := hh
 try dsimp only at hh
 refine ⟨[iA t, iA u, tA (qInt v)], Nb B, Gb C, ?_⟩
 cbv
 replace hh := bind_some hh
 obtain ⟨I, D, hh⟩ := hh
 refine ac hF (hg1 D) ?_
 cbv
 refine bcs (fun c => ?_) (fun c => ?_)
 replace hh := ifT hh c
 try rw [c]
 cbv
 replace hh := aa hh
 obtain ⟨F, hh⟩ := hh
 refine ⟨⟨Ob, Ab⟩, ?_⟩
 refine ⟨⟨Ob, Wb F⟩, ?_⟩
 ·refine p (_, _) _ hh fun ⟨s, z⟩ e => ?_
  refine aw [((5, 50), (20, 0))] ?_
  cbv
  all_goals exact J2
 replace hh := ifF hh c
 try rw [c]
 cbv
 ·refine p (_, _) _ hh fun ⟨s, z⟩ e => ?_
  refine ah ?_
  cbv
  all_goals exact J2
 replace hh := ifF hh b
 try rw [b]
 cbv
 ·refine A _ _ hh fun s e => ?_
  refine ah ?_
  cbv
  all_goals exact J1

theorem uL {k : Nat} {p0 : List GOcc} {p1 : Int} {r : List GOcc} (hh : lv.f k p0 p1 = some r) : ai P 217 [tA (qGOcc p0), iA p1] [hA, hA] (oA 3 (qGOcc r)) := by
 unfold lv.f at hh
 refine go (ts := [(4, none)]) (rm := [.own]) (pm := [.skip, .skip]) Tryz.func217 ?_
 unhygienic intros
 cbv
 replace hh := bind_some hh
 obtain ⟨c, b, hh⟩ := hh
 refine ac hF (mL hQ (g1 := fun y0 => kC.f y0 p1) (fun h => wW hQ h) b) ?_
 cbv
 exact Eb

theorem kH {p0 : GOcc} {c0 : Int} {r : Bool} (hh : cW.f p0 c0 = some r) : ai P 219 [.agg [iA p0.From, iA p0.To, tA (qInt p0.Ids)], .iptr [iA c0] 0] [hA, hA] (bA r) := by
 obtain ⟨p0a, p0b, p0c⟩ := p0
 unfold cW.f at hh
 refine go (ts := [(3, none)]) (rm := [.own]) (pm := [.skip, .skip]) Tryz.func219 ?_
 unhygienic intros
 cbv
 exact Eb

theorem fy {k : Nat} {g1 : GOcc → Option Bool} {cp1_0 : Int} (hg1 : ∀ {y0 : GOcc} {r : Bool}, g1 y0 = some r → ai P 219 [.agg [iA y0.From, iA y0.To, tA (qInt y0.Ids)], .iptr [iA cp1_0] 0] [hA, hA] (bA r)) {p0 : List GOcc} {r : List GOcc} (hh : aP.f g1 k p0 = some r) : ai P 218 [tA (qGOcc p0), .clo 219 [.iptr [iA cp1_0] 0]] [hA, hA] (oA 3 (qGOcc r)) := by
 unfold aP.f at hh
 refine go (ts := [(4, none)]) (rm := [.own]) (pm := [.skip, .skip]) Tryz.func218 ?_
 unhygienic intros
 cbv
 replace hh := bind_some hh
 obtain ⟨G, w, y⟩ := hh
 refine au hC eok mixed (fun n (i : (List GOcc) × Int) => aP.l0 k g1 p0 n i.1 i.2)
  (fun ⟨d, o⟩ => (⟨[(1, .clo 219 [.iptr [iA cp1_0] 0]), (5, .ref (5, 50) 1 0 (len (qGOcc d))), (8, tA (qGOcc p0)), (9, iA (cast (len (qGOcc p0)))), (10, iA o)], [((5, 50), .arr 1 3 (qGOcc d))]⟩ : St))
  (fun (j : List GOcc) => (⟨[(5, .ref (5, 50) 1 0 (len (qGOcc j)))], [((5, 50), .arr 1 3 (qGOcc j))]⟩ : St)) (fun x => x) (.exit 0)
  (i0 := (_, _)) w (fun _ => rfl) ?_ ?_ ?_
 ·rintro ⟨s, z⟩ e
  refine aw [] ?_
  cbv
  all_goals exact J2
 rintro j hx
 subst G
 have hh := y
 cbv
 exact Eb
 rintro n ⟨d, o⟩ J K hh p A H
 try dsimp only at hh
 unfold aP.l0 at hh
 cbv
 refine bcs (fun b => ?_) (fun b => ?_)
 replace hh := ifT hh b
 try rw [b]
 cbv
 replace hh := aa hh
 obtain ⟨B, hh⟩ := hh
 replace hh := bind_some hh
 obtain ⟨⟨t, u, v⟩, C, hh⟩ := hh
 try dsimp only at hh
 refine ⟨[iA t, iA u, tA (qInt v)], Nb B, Gb C, ?_⟩
 cbv
 replace hh := bind_some hh
 obtain ⟨I, D, hh⟩ := hh
 refine ac hF (hg1 D) ?_
 cbv
 refine bcs (fun c => ?_) (fun c => ?_)
 replace hh := ifT hh c
 try rw [c]
 cbv
 replace hh := aa hh
 obtain ⟨F, hh⟩ := hh
 refine ⟨⟨Ob, Ab⟩, ?_⟩
 refine ⟨⟨Ob, Wb F⟩, ?_⟩
 ·refine p (_, _) _ hh fun ⟨s, z⟩ e => ?_
  refine aw [((5, 50), (20, 0))] ?_
  cbv
  all_goals exact J2
 replace hh := ifF hh c
 try rw [c]
 cbv
 ·refine p (_, _) _ hh fun ⟨s, z⟩ e => ?_
  refine ah ?_
  cbv
  all_goals exact J2
 replace hh := ifF hh b
 try rw [b]
 cbv
 ·refine A _ _ hh fun s e => ?_
  refine ah ?_
  cbv
  all_goals exact J1

theorem dS {k : Nat} {g2 : GOcc → GOcc → Option Int} (hg2 : ∀ {y0 : GOcc} {y1 : GOcc} {r : Int}, g2 y0 y1 = some r → ai P 70 [.agg [iA y0.From, iA y0.To, tA (qInt y0.Ids)], .agg [iA y1.From, iA y1.To, tA (qInt y1.Ids)]] [hA, hA] (iA r)) {p0 : List GOcc} {p1 : GOcc} {r : Int × Bool} (hh : aI.f g2 k p0 p1 = some r) : ai P 182 [tA (qGOcc p0), .agg [iA p1.From, iA p1.To, tA (qInt p1.Ids)], .clo 70 []] [hA, hA, hA] (.tup [iA r.1, bA r.2]) := by
 obtain ⟨p1a, p1b, p1c⟩ := p1
 unfold aI.f at hh
 refine go (ts := [(6, none), (7, none)]) (rm := [.own, .own]) (pm := [.skip, .skip, .skip]) Tryz.func182 ?_
 unhygienic intros
 cbv
 replace hh := bind_some hh
 obtain ⟨N, B, C⟩ := hh
 refine au hC eok mixed (fun n (i : Int × Int) => aI.l0 k g2 p0 (⟨p1a, p1b, p1c⟩ : GOcc) n i.1 i.2)
  (fun ⟨j, o⟩ => (⟨[(0, tA (qGOcc p0)), (2, .clo 70 []), (4, .mptr (4, 0) 1 0 0), (8, iA (cast (len (qGOcc p0)))), (9, iA j), (10, iA o)], [((4, 0), .box 1 [iA p1a, iA p1b, tA (qInt p1c)])]⟩ : St))
  (fun (p : Int) => (⟨[(0, tA (qGOcc p0)), (2, .clo 70 []), (4, .mptr (4, 0) 1 0 0), (8, iA (cast (len (qGOcc p0)))), (9, iA p)], [((4, 0), .box 1 [iA p1a, iA p1b, tA (qInt p1c)])]⟩ : St)) (fun x => x) (.exit 0)
  (i0 := (_, _)) B (fun _ => rfl) ?_ ?_ ?_
 ·rintro ⟨t, D⟩ e
  refine ah ?_
  cbv
  all_goals exact J2
 rintro p hx
 subst N
 have hh := C
 cbv
 refine bcs (fun b => ?_) (fun b => ?_)
 replace hh := ifT hh b
 try rw [b]
 cbv
 replace hh := aa hh
 obtain ⟨F, hh⟩ := hh
 replace hh := bind_some hh
 obtain ⟨⟨u, v, w⟩, G, hh⟩ := hh
 try dsimp only at hh
 refine ⟨[iA u, iA v, tA (qInt w)], Nb F, Gb G, ?_⟩
 cbv
 replace hh := bind_some hh
 obtain ⟨O, H, hh⟩ := hh
 refine ac hF (hg2 H) ?_
 cbv
 exact Eb
 replace hh := ifF hh b
 try rw [b]
 cbv
 exact Eb
 rintro n ⟨j, o⟩ S T hh s I Q
 try dsimp only at hh
 unfold aI.l0 at hh
 cbv
 refine bcs (fun c => ?_) (fun c => ?_)
 replace hh := ifT hh c
 try rw [c]
 cbv
 replace hh := aa hh
 obtain ⟨J, hh⟩ := hh
 refine ⟨Nb J, ?_⟩
 replace hh := aa hh
 obtain ⟨K, hh⟩ := hh
 replace hh := bind_some hh
 obtain ⟨⟨y, z, A⟩, L, hh⟩ := hh
 try dsimp only at hh
 refine ⟨[iA y, iA z, tA (qInt A)], Nb K, Gb L, ?_⟩
 cbv
 replace hh := bind_some hh
 obtain ⟨R, M, hh⟩ := hh
 refine ac hF (hg2 M) ?_
 cbv
 refine bcs (fun d => ?_) (fun d => ?_)
 replace hh := ifT hh d
 try rw [d]
 cbv
 ·refine s (_, _) _ hh fun ⟨t, D⟩ e => ?_
  refine ah ?_
  cbv
  all_goals exact J2
 replace hh := ifF hh d
 try rw [d]
 cbv
 ·refine s (_, _) _ hh fun ⟨t, D⟩ e => ?_
  refine ah ?_
  cbv
  all_goals exact J2
 replace hh := ifF hh c
 try rw [c]
 cbv
 ·refine I _ _ hh fun t e => ?_
  refine ah ?_
  cbv
  all_goals exact J1

theorem uj {p0 : List GOcc} {r : List GOcc} (hh : jJ.f p0 = some r) : ai P 184 [tA (qGOcc p0)] [hA] (oA 3 (qGOcc r)) := by
 unfold jJ.f at hh
 refine go (ts := [(2, none)]) (rm := [.own]) (pm := [.skip]) Tryz.func184 ?_
 unhygienic intros
 cbv
 replace hh := aa hh
 obtain ⟨c, hh⟩ := hh
 intro b hb
 cases b
 · cbv
   refine ⟨⟨Ab, Ab⟩, ?_⟩
   refine ⟨⟨Ob, Wb c⟩, ?_⟩
   exact Eb
 · have e : p0 = [] := by cases hC; cases hQ; simpa using hb rfl
   cbv
   refine ⟨3, ?_⟩
   cbv
   subst e
   exact Eb


theorem sb {p0 : List GOcc} {p1 : Int} {p2 : List GOcc} {r : List GOcc} (hh : gx.f p0 p1 p2 = some r) : ai P 183 [oA 3 (qGOcc p0), iA p1, oA 3 (qGOcc p2)] [hA, hA, hA] (oA 3 (qGOcc r)) := by
  cases hQ
  exact sw hh


theorem iF {k : Nat} {p0 : List GOcc} {p1 : GOcc} {r : List GOcc} (hh : dJ.f k p0 p1 = some r) : ai P 128 [tA (qGOcc p0), .agg [iA p1.From, iA p1.To, tA (qInt p1.Ids)]] [hA, hA] (tA (qGOcc r)) := by
 obtain ⟨p1a, p1b, p1c⟩ := p1
 unfold dJ.f at hh
 refine go (ts := [(4, none)]) (rm := [.val]) (pm := [.skip, .skip]) Tryz.func128 ?_
 unhygienic intros
 cbv
 replace hh := bind_some hh
 obtain ⟨⟨c, d⟩, j, hh⟩ := hh
 try dsimp only at hh
 refine ac hF (dS hQ (g2 := fun y0 y1 => ci.f k y0 y1) (fun h => iC hQ h) j) ?_
 cbv
 refine bcs (fun b => ?_) (fun b => ?_)
 replace hh := ifT hh b
 try rw [b]
 cbv
 exact Eb
 replace hh := ifF hh b
 try rw [b]
 cbv
 replace hh := bind_some hh
 obtain ⟨t, o, hh⟩ := hh
 refine ac hF (uj hQ o) ?_
 cbv
 replace hh := bind_some hh
 obtain ⟨s, p, hh⟩ := hh
 refine ⟨Ob, ?_⟩
 refine ac hF (sb hQ p) ?_
 cbv
 exact Eb

theorem ct {k : Nat} {p0 : List GOcc} {p1 : List GOcc} {r : List GOcc} (hh : aS.f k p0 p1 = some r) : ai P 61 [tA (qGOcc p0), tA (qGOcc p1)] [hA, hA] (tA (qGOcc r)) := by
 unfold aS.f at hh
 refine go (ts := [(4, none)]) (rm := [.val]) (pm := [.skip, .skip]) Tryz.func61 ?_
 unhygienic intros
 cbv
 replace hh := bind_some hh
 obtain ⟨C, s, t⟩ := hh
 refine au hC eok mixed (fun n (i : (List GOcc) × Int) => aS.l0 k p1 n i.1 i.2)
  (fun ⟨u, c⟩ => (⟨[(0, tA (qGOcc u)), (7, tA (qGOcc p1)), (8, iA (cast (len (qGOcc p1)))), (9, iA c)], []⟩ : St))
  (fun (d : List GOcc) => (⟨[(0, tA (qGOcc d))], []⟩ : St)) (fun x => x) (.exit 0)
  (i0 := (_, _)) s (fun _ => rfl) ?_ ?_ ?_
 ·rintro ⟨v, D⟩ e
  refine ah ?_
  cbv
  all_goals exact J2
 rintro d hx
 subst C
 have hh := t
 cbv
 exact Eb
 rintro n ⟨u, c⟩ H I hh w y F
 try dsimp only at hh
 unfold aS.l0 at hh
 cbv
 refine bcs (fun b => ?_) (fun b => ?_)
 replace hh := ifT hh b
 try rw [b]
 cbv
 replace hh := aa hh
 obtain ⟨z, hh⟩ := hh
 replace hh := bind_some hh
 obtain ⟨⟨j, o, p⟩, A, hh⟩ := hh
 try dsimp only at hh
 refine ⟨[iA j, iA o, tA (qInt p)], Nb z, Gb A, ?_⟩
 cbv
 replace hh := bind_some hh
 obtain ⟨G, B, hh⟩ := hh
 refine ac hF (iF hQ B) ?_
 cbv
 ·refine w (_, _) _ hh fun ⟨v, D⟩ e => ?_
  refine ah ?_
  cbv
  all_goals exact J2
 replace hh := ifF hh b
 try rw [b]
 cbv
 ·refine y _ _ hh fun v e => ?_
  refine ah ?_
  cbv
  all_goals exact J1

theorem ve {p0 : List Int} {p1 : Int} {r : List Int} (hh : iT.f p0 p1 = some r) : ai P 288 [.lit (.slice none 0 0), iA p1] [hA, hA] (oA 1 (qInt r)) := by
  cases hQ
  exact vu hh


theorem sZ {k : Nat} {p0 : List (List Int)} {r : List Int} (hh : aV.f k p0 = some r) : ai P 271 [tA (qLInt p0)] [hA] (oA 1 (qInt r)) := by
 unfold aV.f at hh
 refine go (ts := [(2, none)]) (rm := [.own]) (pm := [.skip]) Tryz.func271 ?_
 unhygienic intros
 cbv
 replace hh := bind_some hh
 obtain ⟨z, j, o⟩ := hh
 refine au hC eok mixed (fun n (i : Int × Int) => aV.l0 k p0 n i.1 i.2)
  (fun ⟨B, C⟩ => (⟨[(0, tA (qLInt p0)), (3, iA B), (9, tA (qLInt p0)), (10, iA (cast (len (qLInt p0)))), (11, iA C)], []⟩ : St))
  (fun (w : Int) => (⟨[(0, tA (qLInt p0)), (3, iA w)], []⟩ : St)) (fun x => x) (.exit 0)
  (i0 := (_, _)) j (fun _ => rfl) ?_ ?_ ?_
 ·rintro ⟨p, A⟩ e
  refine ah ?_
  cbv
  all_goals exact J2
 rintro w hx
 subst z
 have hh := o
 cbv
 replace hh := bind_some hh
 obtain ⟨Q, D, hh⟩ := hh
 refine ac hF (ve hQ D) ?_
 cbv
 replace hh := bind_some hh
 obtain ⟨z, j, o⟩ := hh
 refine au hC eok mixed (fun n (i : (List Int) × Int) => aV.l1 k p0 n i.1 i.2)
  (fun ⟨s, y⟩ => (⟨[(6, .ref (24, 0) 1 0 (len (qInt s))), (25, tA (qLInt p0)), (26, iA (cast (len (qLInt p0)))), (27, iA y)], [((24, 0), .arr 1 1 (qInt s))]⟩ : St))
  (fun (t : List Int) => (⟨[(6, .ref (24, 0) 1 0 (len (qInt t)))], [((24, 0), .arr 1 1 (qInt t))]⟩ : St)) (fun x => x) (.exit 2)
  (i0 := (_, _)) j (fun _ => rfl) ?_ ?_ ?_
 ·rintro ⟨p, A⟩ e
  refine ah ?_
  cbv
  all_goals exact J2
 rintro t hx
 subst z
 have hh := o
 cbv
 exact Eb
 rintro n ⟨s, y⟩ N O hh u v F
 try dsimp only at hh
 unfold aV.l1 at hh
 cbv
 refine bcs (fun b => ?_) (fun b => ?_)
 replace hh := ifT hh b
 try rw [b]
 cbv
 replace hh := aa hh
 obtain ⟨G, hh⟩ := hh
 replace hh := bind_some hh
 obtain ⟨H, I, hh⟩ := hh
 refine ⟨[tA (qInt H)], Nb G, Gb I, ?_⟩
 cbv
 replace hh := aa hh
 obtain ⟨J, hh⟩ := hh
 refine ⟨⟨Ab, Ab⟩, ?_⟩
 refine ⟨⟨Ob, Wb J⟩, ?_⟩
 ·refine u (_, _) _ hh fun ⟨p, A⟩ e => ?_
  refine aw [((24, 0), (33, 0))] ?_
  cbv
  all_goals exact J2
 replace hh := ifF hh b
 try rw [b]
 cbv
 ·refine v _ _ hh fun p e => ?_
  refine ah ?_
  cbv
  all_goals exact J1
 rintro n ⟨B, C⟩ N O hh u v F
 try dsimp only at hh
 unfold aV.l0 at hh
 cbv
 refine bcs (fun c => ?_) (fun c => ?_)
 replace hh := ifT hh c
 try rw [c]
 cbv
 replace hh := aa hh
 obtain ⟨K, hh⟩ := hh
 replace hh := bind_some hh
 obtain ⟨L, M, hh⟩ := hh
 refine ⟨[tA (qInt L)], Nb K, Gb M, ?_⟩
 cbv
 refine bcs (fun d => ?_) (fun d => ?_)
 replace hh := ifT hh d
 try rw [d]
 cbv
 cases hh
 replace hh := ifF hh d
 try rw [d]
 cbv
 ·refine u (_, _) _ hh fun ⟨p, A⟩ e => ?_
  refine ah ?_
  cbv
  all_goals exact J2
 replace hh := ifF hh c
 try rw [c]
 cbv
 ·refine v _ _ hh fun p e => ?_
  refine ah ?_
  cbv
  all_goals exact J1
theorem oJ {k : Nat} {p0 : List (List Int)} {r : List Int} (hh : aV.f k p0 = some r) : ai P 271 [oA 1 (qLInt p0)] [oA 1 (qLInt p0)] (oA 1 (qInt r)) := by
  cases hQ; exact (sZ .mk hh).lend (xV _) (.lend (congrArg A.tree (uQ _).symm) .nil)

theorem vq {p0 : List Int} {r : List Int} (hh : iV.f p0 = some r) : ai P 252 [oA 1 (qInt p0)] [oA 1 (qInt r)] (.tup []) := by
  cases hQ
  exact u7 hh


theorem gp {p0 : List Int} {r : List Int} (hh : dz.f p0 = some r) : ai P 253 [oA 1 (qInt p0)] [hA] (tA (qInt r)) := by
  cases hQ
  exact rH hh


theorem kc {k : Nat} {p0 : GOcc} {p1 : GOcc} {r : GOcc} (hh : eB.f k p0 p1 = some r) : ai P 254 [.agg [iA p0.From, iA p0.To, tA (qInt p0.Ids)], .agg [iA p1.From, iA p1.To, tA (qInt p1.Ids)]] [hA, hA] (.agg [iA r.From, iA r.To, oA 1 (qInt r.Ids)]) := by
 obtain ⟨p0a, p0b, p0c⟩ := p0
 obtain ⟨p1a, p1b, p1c⟩ := p1
 unfold eB.f at hh
 refine go (ts := [(4, some 67)]) (rm := [.own]) (pm := [.skip, .skip]) Tryz.func254 ?_
 unhygienic intros
 cbv
 replace hh := bind_some hh
 obtain ⟨J, B, hh⟩ := hh
 refine ⟨Ob, ?_⟩
 refine ac hF (oJ hQ B) ?_
 cbv
 replace hh := bind_some hh
 obtain ⟨K, C, hh⟩ := hh
 replace hh := aa hh
 obtain ⟨D, hh⟩ := hh
 refine ac hF (vq hQ C) ?_
 cbv
 replace hh := az hh
 rcases hh with ⟨o, hh⟩ | ⟨o, hh⟩
 have d : (lt p1a p0a) = true := Tb o
 have g := d; cbv at g; try rw [d]
 try rw [g]
 cbv
 replace hh := az hh
 rcases hh with ⟨p, hh⟩ | ⟨p, hh⟩
 have b : (lt p0b p1b) = true := Tb p
 have g := b; cbv at g; try rw [b]
 try rw [g]
 cbv
 replace hh := bind_some hh
 obtain ⟨F, s, hh⟩ := hh
 refine ⟨Ob, ?_⟩
 refine ac hF (gp hQ s) ?_
 cbv
 replace hh := aa hh
 obtain ⟨t, hh⟩ := hh
 refine ⟨⟨Ab, Ab⟩, ?_⟩
 refine ⟨Wb t, ?_⟩
 exact Eb
 have b : (lt p0b p1b) = false := Fb p
 have g := b; cbv at g; try rw [b]
 try rw [g]
 cbv
 replace hh := bind_some hh
 obtain ⟨G, u, hh⟩ := hh
 refine ⟨Ob, ?_⟩
 refine ac hF (gp hQ u) ?_
 cbv
 replace hh := aa hh
 obtain ⟨v, hh⟩ := hh
 refine ⟨⟨Ab, Ab⟩, ?_⟩
 refine ⟨Wb v, ?_⟩
 exact Eb
 have d : (lt p1a p0a) = false := Fb o
 have g := d; cbv at g; try rw [d]
 try rw [g]
 cbv
 replace hh := az hh
 rcases hh with ⟨j, hh⟩ | ⟨j, hh⟩
 have c : (lt p0b p1b) = true := Tb j
 have g := c; cbv at g; try rw [c]
 try rw [g]
 cbv
 replace hh := bind_some hh
 obtain ⟨H, w, hh⟩ := hh
 refine ⟨Ob, ?_⟩
 refine ac hF (gp hQ w) ?_
 cbv
 replace hh := aa hh
 obtain ⟨y, hh⟩ := hh
 refine ⟨⟨Ab, Ab⟩, ?_⟩
 refine ⟨Wb y, ?_⟩
 exact Eb
 have c : (lt p0b p1b) = false := Fb j
 have g := c; cbv at g; try rw [c]
 try rw [g]
 cbv
 replace hh := bind_some hh
 obtain ⟨I, z, hh⟩ := hh
 refine ⟨Ob, ?_⟩
 refine ac hF (gp hQ z) ?_
 cbv
 replace hh := aa hh
 obtain ⟨A, hh⟩ := hh
 refine ⟨⟨Ab, Ab⟩, ?_⟩
 refine ⟨Wb A, ?_⟩
 exact Eb

end Go.Proofs.YtlbnmldopjadoaaGreat
