/- The functions of this program do what the plain ones do. -/
import Derived.Test.YtlbnmldopjadoaaGreatC0
namespace Go.Proofs.YtlbnmldopjadoaaGreat
open Go Go.Vm
set_option linter.unusedVariables false
set_option maxHeartbeats 4000000
set_option maxRecDepth 4000
variable {qIu8 : List Int → Vm.Rows} {qGEx : List GEx → Vm.Rows} {qGRule : List GRule → Vm.Rows} {qStr : List ByteArray → Vm.Rows} {qInt : List Int → Vm.Rows} {qGExO : List GEx → Vm.Rows} {qGOcc : List GOcc → Vm.Rows} {qGNode : List GNode → Vm.Rows} {qGGraphS : List GGraph → Vm.Rows} {qGGraph : List GGraph → Vm.Rows} {qGEv : List GEv → Vm.Rows} {qGFire : List GFire → Vm.Rows} {qLGOcc : List (List GOcc) → Vm.Rows} {qGOccO : List GOcc → Vm.Rows} {qLInt : List (List Int) → Vm.Rows} (hQ : EQ qIu8 qGEx qGRule qStr qInt qGExO qGOcc qGNode qGGraphS qGGraph qGEv qGFire qLGOcc qGOccO qLInt)
include hQ
theorem AP : ∀ k : Nat, (∀ {p0 : GEx} {r : Bool}, bJ.f k p0 = some r → ai P 179 [.agg [iA p0.Kind, iA p0.Sym, iA p0.N, tA (qGEx p0.Kids)]] [hA] (bA r)) ∧ (∀ {p0 : GEx} {r : Bool}, dx.f k p0 = some r → ai P 122 [.agg [iA p0.Kind, iA p0.Sym, iA p0.N, tA (qGEx p0.Kids)]] [hA] (bA r)) := by
  intro k
  induction k using Nat.strongRecOn with
  | _ k ih =>
  refine ⟨?_, ?_⟩
  · intro p0 r hh
    cases k with
    | zero => unfold bJ.f at hh; cases hh
    | succ k =>
    obtain ⟨p0a, p0b, p0c, p0d⟩ := p0
    unfold bJ.f at hh
    refine go (ts := [(2, none)]) (rm := [.own]) (pm := [.skip]) Tryz.func179 ?_
    unhygienic intros
    cbv
    replace hh := bind_some hh
    obtain ⟨I, J, hh⟩ := hh
    refine ac hF ((ih k (Nat.lt_succ_self k)).2 J) ?_
    cbv
    exact Eb
  · intro p0 r hh
    cases k with
    | zero => unfold dx.f at hh; cases hh
    | succ k =>
    obtain ⟨p0a, p0b, p0c, p0d⟩ := p0
    unfold dx.f at hh
    refine go (ts := [(2, none)]) (rm := [.own]) (pm := [.skip]) Tryz.func122 ?_
    unhygienic intros
    cbv
    replace hh := bind_some hh
    obtain ⟨I, J, hh⟩ := hh
    refine ac hF (oC hQ J) ?_
    cbv
    replace hh := az hh
    rcases hh with ⟨K, hh⟩ | ⟨K, hh⟩
    have w : I = true := Tb K
    have g := w; cbv at g; try rw [w]
    try rw [g]
    cbv
    replace hh := bind_some hh
    obtain ⟨M, W, hh⟩ := hh
    refine ac hF (qM hQ W) ?_
    cbv
    replace hh := az hh
    rcases hh with ⟨L, hh⟩ | ⟨L, hh⟩
    have j : (eq (cast (len (qGEx p0d))) M) = true := Tb L
    have g := j; cbv at g; try rw [j]
    try rw [g]
    cbv
    refine bcs (fun b => ?_) (fun b => ?_)
    replace hh := ifT hh b
    try rw [b]
    cbv
    replace hh := bind_some hh
    obtain ⟨F, O, hh⟩ := hh
    refine ac hF (im hQ O) ?_
    cbv
    replace hh := az hh
    rcases hh with ⟨y, hh⟩ | ⟨y, hh⟩
    have o : F = true := Tb y
    have g := o; cbv at g; try rw [o]
    try rw [g]
    cbv
    first | rw [b] | (have g := b; cbv at g; rw [g])
    cbv
    refine bcs (fun c => ?_) (fun c => ?_)
    replace hh := ifT hh c
    try rw [c]
    cbv
    replace hh := bind_some hh
    obtain ⟨G, Q, hh⟩ := hh
    refine ac hF (bp hQ Q) ?_
    cbv
    replace hh := az hh
    rcases hh with ⟨z, hh⟩ | ⟨z, hh⟩
    have p : G = true := Tb z
    have g := p; cbv at g; try rw [p]
    try rw [g]
    cbv
    first | rw [c] | (have g := c; cbv at g; rw [g])
    cbv
    replace hh := bind_some hh
    obtain ⟨X, R, hh⟩ := hh
    refine ac hF (bV hQ (g1 := fun y0 => bJ.f k y0) (fun h => (ih k (Nat.lt_succ_self k)).1 h) R) ?_
    cbv
    exact Eb
    have p : G = false := Fb z
    have g := p; cbv at g; try rw [p]
    try rw [g]
    cbv
    exact Eb
    replace hh := ifF hh c
    try rw [c]
    cbv
    first | rw [c] | (have g := c; cbv at g; rw [g])
    cbv
    replace hh := az hh
    rcases hh with ⟨A, hh⟩ | ⟨A, hh⟩
    have s : (eq p0c 0) = true := Tb A
    have g := s; cbv at g; try rw [s]
    try rw [g]
    cbv
    replace hh := bind_some hh
    obtain ⟨Y, S, hh⟩ := hh
    refine ac hF (bV hQ (g1 := fun y0 => bJ.f k y0) (fun h => (ih k (Nat.lt_succ_self k)).1 h) S) ?_
    cbv
    exact Eb
    have s : (eq p0c 0) = false := Fb A
    have g := s; cbv at g; try rw [s]
    try rw [g]
    cbv
    exact Eb
    have o : F = false := Fb y
    have g := o; cbv at g; try rw [o]
    try rw [g]
    cbv
    exact Eb
    replace hh := ifF hh b
    try rw [b]
    cbv
    first | rw [b] | (have g := b; cbv at g; rw [g])
    cbv
    replace hh := az hh
    rcases hh with ⟨B, hh⟩ | ⟨B, hh⟩
    have t : (eq p0b 0) = true := Tb B
    have g := t; cbv at g; try rw [t]
    try rw [g]
    cbv
    refine bcs (fun d => ?_) (fun d => ?_)
    replace hh := ifT hh d
    try rw [d]
    cbv
    replace hh := bind_some hh
    obtain ⟨H, T, hh⟩ := hh
    refine ac hF (bp hQ T) ?_
    cbv
    replace hh := az hh
    rcases hh with ⟨C, hh⟩ | ⟨C, hh⟩
    have u : H = true := Tb C
    have g := u; cbv at g; try rw [u]
    try rw [g]
    cbv
    first | rw [d] | (have g := d; cbv at g; rw [g])
    cbv
    replace hh := bind_some hh
    obtain ⟨Z, U, hh⟩ := hh
    refine ac hF (bV hQ (g1 := fun y0 => bJ.f k y0) (fun h => (ih k (Nat.lt_succ_self k)).1 h) U) ?_
    cbv
    exact Eb
    have u : H = false := Fb C
    have g := u; cbv at g; try rw [u]
    try rw [g]
    cbv
    exact Eb
    replace hh := ifF hh d
    try rw [d]
    cbv
    first | rw [d] | (have g := d; cbv at g; rw [g])
    cbv
    replace hh := az hh
    rcases hh with ⟨D, hh⟩ | ⟨D, hh⟩
    have v : (eq p0c 0) = true := Tb D
    have g := v; cbv at g; try rw [v]
    try rw [g]
    cbv
    replace hh := bind_some hh
    obtain ⟨dv, V, hh⟩ := hh
    refine ac hF (bV hQ (g1 := fun y0 => bJ.f k y0) (fun h => (ih k (Nat.lt_succ_self k)).1 h) V) ?_
    cbv
    exact Eb
    have v : (eq p0c 0) = false := Fb D
    have g := v; cbv at g; try rw [v]
    try rw [g]
    cbv
    exact Eb
    have t : (eq p0b 0) = false := Fb B
    have g := t; cbv at g; try rw [t]
    try rw [g]
    cbv
    exact Eb
    have j : (eq (cast (len (qGEx p0d))) M) = false := Fb L
    have g := j; cbv at g; try rw [j]
    try rw [g]
    cbv
    exact Eb
    have w : I = false := Fb K
    have g := w; cbv at g; try rw [w]
    try rw [g]
    cbv
    exact Eb
theorem rO {k : Nat} {p0 : GEx} {r : Bool} (hh : dx.f k p0 = some r) : ai P 122 [.agg [iA p0.Kind, iA p0.Sym, iA p0.N, tA (qGEx p0.Kids)]] [hA] (bA r) := (AP hQ k).2 hh



theorem qI {k : Nat} {p0 : GEx} {r : Bool} (hh : ju.f k p0 = some r) : ai P 55 [.agg [iA p0.Kind, iA p0.Sym, iA p0.N, tA (qGEx p0.Kids)]] [hA] (bA r) := by
 obtain ⟨p0a, p0b, p0c, p0d⟩ := p0
 unfold ju.f at hh
 refine go (ts := [(2, none)]) (rm := [.own]) (pm := [.skip]) Tryz.func55 ?_
 unhygienic intros
 cbv
 replace hh := bind_some hh
 obtain ⟨⟨b, c⟩, s, hh⟩ := hh
 try dsimp only at hh
 refine ac hF (tK hQ s) ?_
 cbv
 replace hh := az hh
 rcases hh with ⟨o, hh⟩ | ⟨o, hh⟩
 have d : (lt 12 b) = true := Tb o
 have g := d; cbv at g; try rw [d]
 try rw [g]
 cbv
 exact Eb
 have d : (lt 12 b) = false := Fb o
 have g := d; cbv at g; try rw [d]
 try rw [g]
 cbv
 replace hh := az hh
 rcases hh with ⟨p, hh⟩ | ⟨p, hh⟩
 have j : (lt 5 c) = true := Tb p
 have g := j; cbv at g; try rw [j]
 try rw [g]
 cbv
 exact Eb
 have j : (lt 5 c) = false := Fb p
 have g := j; cbv at g; try rw [j]
 try rw [g]
 cbv
 replace hh := bind_some hh
 obtain ⟨u, t, hh⟩ := hh
 refine ac hF (rO hQ t) ?_
 cbv
 exact Eb

theorem vg {k : Nat} {p0 : GRule} {r : Bool} (hh : iW.f k p0 = some r) : ai P 33 [.agg [sA p0.Name, iA p0.Pri, iA p0.Mode, iA p0.Ex.Kind, iA p0.Ex.Sym, iA p0.Ex.N, tA (qGEx p0.Ex.Kids), iA p0.Low, iA p0.High, iA p0.Key, iA p0.Add, iA p0.Raise]] [hA] (bA r) := by
 obtain ⟨p0a, p0b, p0c, ⟨p0d, p0e, p0f, p0g⟩, p0h, p0i, p0j, p0k, p0l⟩ := p0
 unfold iW.f at hh
 refine go (ts := [(2, none)]) (rm := [.own]) (pm := [.skip]) Tryz.func33 ?_
 unhygienic intros
 cbv
 replace hh := bind_some hh
 obtain ⟨L, C, hh⟩ := hh
 refine ac hF (u4 hQ C) ?_
 cbv
 refine bcs (fun t => ?_) (fun t => ?_)
 replace hh := ifT hh t
 try rw [t]
 cbv
 replace hh := bind_some hh
 obtain ⟨M, D, hh⟩ := hh
 refine ac hF (bp hQ D) ?_
 cbv
 refine bcs (fun b => ?_) (fun b => ?_)
 replace hh := ifT hh b
 try rw [b]
 cbv
 replace hh := bind_some hh
 obtain ⟨F, v, hh⟩ := hh
 refine ac hF (kU hQ v) ?_
 cbv
 refine bcs (fun c => ?_) (fun c => ?_)
 replace hh := ifT hh c
 try rw [c]
 cbv
 replace hh := bind_some hh
 obtain ⟨G, w, hh⟩ := hh
 refine ac hF (qI hQ w) ?_
 cbv
 refine bcs (fun d => ?_) (fun d => ?_)
 replace hh := ifT hh d
 try rw [d]
 cbv
 replace hh := bind_some hh
 obtain ⟨H, y, hh⟩ := hh
 refine ac hF (bp hQ y) ?_
 cbv
 refine bcs (fun j => ?_) (fun j => ?_)
 replace hh := ifT hh j
 try rw [j]
 cbv
 replace hh := az hh
 rcases hh with ⟨u, hh⟩ | ⟨u, hh⟩
 have o : (lt 100 p0i) = true := Tb u
 have g := o; cbv at g; try rw [o]
 try rw [g]
 cbv
 exact Eb
 have o : (lt 100 p0i) = false := Fb u
 have g := o; cbv at g; try rw [o]
 try rw [g]
 cbv
 replace hh := bind_some hh
 obtain ⟨I, z, hh⟩ := hh
 refine ac hF (bp hQ z) ?_
 cbv
 refine bcs (fun p => ?_) (fun p => ?_)
 replace hh := ifT hh p
 try rw [p]
 cbv
 replace hh := bind_some hh
 obtain ⟨J, A, hh⟩ := hh
 refine ac hF (bp hQ A) ?_
 cbv
 refine bcs (fun s => ?_) (fun s => ?_)
 replace hh := ifT hh s
 try rw [s]
 cbv
 replace hh := bind_some hh
 obtain ⟨K, B, hh⟩ := hh
 refine ac hF (bp hQ B) ?_
 cbv
 exact Eb
 replace hh := ifF hh s
 try rw [s]
 cbv
 exact Eb
 replace hh := ifF hh p
 try rw [p]
 cbv
 exact Eb
 replace hh := ifF hh j
 try rw [j]
 cbv
 exact Eb
 replace hh := ifF hh d
 try rw [d]
 cbv
 exact Eb
 replace hh := ifF hh c
 try rw [c]
 cbv
 exact Eb
 replace hh := ifF hh b
 try rw [b]
 cbv
 exact Eb
 replace hh := ifF hh t
 try rw [t]
 cbv
 exact Eb

theorem rc {p0 : GRule} {c0 : GRule} {r : Bool} (hh : fU.f p0 c0 = some r) : ai P 86 [.agg [sA p0.Name, iA p0.Pri, iA p0.Mode, iA p0.Ex.Kind, iA p0.Ex.Sym, iA p0.Ex.N, tA (qGEx p0.Ex.Kids), iA p0.Low, iA p0.High, iA p0.Key, iA p0.Add, iA p0.Raise], .iptr [sA c0.Name, iA c0.Pri, iA c0.Mode, iA c0.Ex.Kind, iA c0.Ex.Sym, iA c0.Ex.N, tA (qGEx c0.Ex.Kids), iA c0.Low, iA c0.High, iA c0.Key, iA c0.Add, iA c0.Raise] 0] [hA, hA] (bA r) := by
 obtain ⟨p0a, p0b, p0c, ⟨p0d, p0e, p0f, p0g⟩, p0h, p0i, p0j, p0k, p0l⟩ := p0
 obtain ⟨c0a, c0b, c0c, ⟨c0d, c0e, c0f, c0g⟩, c0h, c0i, c0j, c0k, c0l⟩ := c0
 unfold fU.f at hh
 refine go (ts := [(3, none)]) (rm := [.own]) (pm := [.skip, .skip]) Tryz.func86 ?_
 unhygienic intros
 cbv
 exact Eb

theorem gL {k : Nat} {g1 : GRule → Option Bool} {cp1_0 : GRule} (hg1 : ∀ {y0 : GRule} {r : Bool}, g1 y0 = some r → ai P 86 [.agg [sA y0.Name, iA y0.Pri, iA y0.Mode, iA y0.Ex.Kind, iA y0.Ex.Sym, iA y0.Ex.N, tA (qGEx y0.Ex.Kids), iA y0.Low, iA y0.High, iA y0.Key, iA y0.Add, iA y0.Raise], .iptr [sA cp1_0.Name, iA cp1_0.Pri, iA cp1_0.Mode, iA cp1_0.Ex.Kind, iA cp1_0.Ex.Sym, iA cp1_0.Ex.N, tA (qGEx cp1_0.Ex.Kids), iA cp1_0.Low, iA cp1_0.High, iA cp1_0.Key, iA cp1_0.Add, iA cp1_0.Raise] 0] [hA, hA] (bA r)) {p0 : List GRule} {r : Int} (hh : bf.f g1 k p0 = some r) : ai P 144 [tA (qGRule p0), .clo 86 [.iptr [sA cp1_0.Name, iA cp1_0.Pri, iA cp1_0.Mode, iA cp1_0.Ex.Kind, iA cp1_0.Ex.Sym, iA cp1_0.Ex.N, tA (qGEx cp1_0.Ex.Kids), iA cp1_0.Low, iA cp1_0.High, iA cp1_0.Key, iA cp1_0.Add, iA cp1_0.Raise] 0]] [hA, hA] (iA r) := by
 obtain ⟨cp1_0a, cp1_0b, cp1_0c, ⟨cp1_0d, cp1_0e, cp1_0f, cp1_0g⟩, cp1_0h, cp1_0i, cp1_0j, cp1_0k, cp1_0l⟩ := cp1_0
 unfold bf.f at hh
 refine go (ts := [(4, none)]) (rm := [.own]) (pm := [.skip, .skip]) Tryz.func144 ?_
 unhygienic intros
 cbv
 replace hh := bind_some hh
 obtain ⟨L, D, d⟩ := hh
 refine au hC eok mixed (bf.l0 k g1 p0)
  (fun j => (⟨[(0, tA (qGRule p0)), (1, .clo 86 [.iptr [sA cp1_0a, iA cp1_0b, iA cp1_0c, iA cp1_0d, iA cp1_0e, iA cp1_0f, tA (qGEx cp1_0g), iA cp1_0h, iA cp1_0i, iA cp1_0j, iA cp1_0k, iA cp1_0l] 0]), (7, iA (cast (len (qGRule p0)))), (8, iA j)], []⟩ : St))
  (fun (_ : Unit) => (⟨[], []⟩ : St)) .ok (.exit 0)
  (i0 := _) D (fun _ => rfl) ?_ ?_ ?_
 ·rintro M e
  refine ah ?_
  cbv
  all_goals exact J1
 rintro _ hx
 subst L
 have hh := d
 cbv
 exact Eb
 rintro n j Q R hh F G H
 unfold bf.l0 at hh
 cbv
 refine bcs (fun b => ?_) (fun b => ?_)
 replace hh := ifT hh b
 try rw [b]
 cbv
 replace hh := aa hh
 obtain ⟨I, hh⟩ := hh
 replace hh := bind_some hh
 obtain ⟨⟨o, p, s, ⟨t, u, v, w⟩, y, z, A, B, C⟩, J, hh⟩ := hh
 try dsimp only at hh
 refine ⟨[sA o, iA p, iA s, iA t, iA u, iA v, tA (qGEx w), iA y, iA z, iA A, iA B, iA C], Nb I, Gb J, ?_⟩
 cbv
 replace hh := bind_some hh
 obtain ⟨O, K, hh⟩ := hh
 refine ac hF (hg1 K) ?_
 cbv
 refine bcs (fun c => ?_) (fun c => ?_)
 replace hh := ifT hh c
 try rw [c]
 cbv
 cases hh
 have hh : some _ = some _ := d
 refine H _ _ ?_
 cbv
 exact Eb
 replace hh := ifF hh c
 try rw [c]
 cbv
 ·refine F _ _ hh fun M e => ?_
  refine ah ?_
  cbv
  all_goals exact J1
 replace hh := ifF hh b
 try rw [b]
 cbv
 ·refine G () _ hh fun _ e => ?_
  refine ah ?_
  cbv
  all_goals exact J0

theorem fW {k : Nat} {g1 : GRule → Option Bool} {cp1_0 : GRule} (hg1 : ∀ {y0 : GRule} {r : Bool}, g1 y0 = some r → ai P 86 [.agg [sA y0.Name, iA y0.Pri, iA y0.Mode, iA y0.Ex.Kind, iA y0.Ex.Sym, iA y0.Ex.N, tA (qGEx y0.Ex.Kids), iA y0.Low, iA y0.High, iA y0.Key, iA y0.Add, iA y0.Raise], .iptr [sA cp1_0.Name, iA cp1_0.Pri, iA cp1_0.Mode, iA cp1_0.Ex.Kind, iA cp1_0.Ex.Sym, iA cp1_0.Ex.N, tA (qGEx cp1_0.Ex.Kids), iA cp1_0.Low, iA cp1_0.High, iA cp1_0.Key, iA cp1_0.Add, iA cp1_0.Raise] 0] [hA, hA] (bA r)) {p0 : List GRule} {r : Bool} (hh : cV.f g1 k p0 = some r) : ai P 85 [tA (qGRule p0), .clo 86 [.iptr [sA cp1_0.Name, iA cp1_0.Pri, iA cp1_0.Mode, iA cp1_0.Ex.Kind, iA cp1_0.Ex.Sym, iA cp1_0.Ex.N, tA (qGEx cp1_0.Ex.Kids), iA cp1_0.Low, iA cp1_0.High, iA cp1_0.Key, iA cp1_0.Add, iA cp1_0.Raise] 0]] [hA, hA] (bA r) := by
 obtain ⟨cp1_0a, cp1_0b, cp1_0c, ⟨cp1_0d, cp1_0e, cp1_0f, cp1_0g⟩, cp1_0h, cp1_0i, cp1_0j, cp1_0k, cp1_0l⟩ := cp1_0
 unfold cV.f at hh
 refine go (ts := [(4, none)]) (rm := [.own]) (pm := [.skip, .skip]) Tryz.func85 ?_
 unhygienic intros
 cbv
 replace hh := bind_some hh
 obtain ⟨c, b, hh⟩ := hh
 refine ac hF (gL hQ (g1 := g1) hg1 b) ?_
 cbv
 exact Eb

theorem j8 {k : Nat} {p0 : List GRule} {r : Bool} (hh : bF.f k p0 = some r) : ai P 38 [tA (qGRule p0)] [hA] (bA r) := by
 unfold bF.f at hh
 refine go (ts := [(2, none)]) (rm := [.own]) (pm := [.skip]) Tryz.func38 ?_
 unhygienic intros
 cbv
 replace hh := bind_some hh
 obtain ⟨T, I, j⟩ := hh
 refine au hC eok mixed (bF.l0 k p0)
  (fun F => (⟨[(0, tA (qGRule p0)), (5, tA (qGRule p0)), (6, iA (cast (len (qGRule p0)))), (7, iA F)], []⟩ : St))
  (fun (_ : Unit) => (⟨[(0, tA (qGRule p0))], []⟩ : St)) .ok (.exit 0)
  (i0 := _) I (fun _ => rfl) ?_ ?_ ?_
 ·rintro U e
  refine ah ?_
  cbv
  all_goals exact J1
 rintro _ hx
 subst T
 have hh := j
 cbv
 exact Eb
 rintro n F W X hh J K G
 unfold bF.l0 at hh
 cbv
 refine bcs (fun b => ?_) (fun b => ?_)
 replace hh := ifT hh b
 try rw [b]
 cbv
 replace hh := aa hh
 obtain ⟨L, hh⟩ := hh
 replace hh := bind_some hh
 obtain ⟨⟨o, p, s, ⟨t, u, v, w⟩, y, z, A, B, C⟩, M, hh⟩ := hh
 try dsimp only at hh
 refine ⟨[sA o, iA p, iA s, iA t, iA u, iA v, tA (qGEx w), iA y, iA z, iA A, iA B, iA C], Nb L, Gb M, ?_⟩
 cbv
 replace hh := bind_some hh
 obtain ⟨H, N, hh⟩ := hh
 refine ac hF (vg hQ N) ?_
 cbv
 replace hh := az hh
 rcases hh with ⟨D, hh⟩ | ⟨D, hh⟩
 have c : H = true := Tb D
 have g := c; cbv at g; try rw [c]
 try rw [g]
 cbv
 replace hh := aa hh
 obtain ⟨O, hh⟩ := hh
 replace hh := aa hh
 obtain ⟨Q, hh⟩ := hh
 replace hh := aa hh
 obtain ⟨R, hh⟩ := hh
 refine ⟨⟨Nb O, Nb Q, Nb R, Ab⟩, ?_⟩
 replace hh := bind_some hh
 obtain ⟨V, S, hh⟩ := hh
 refine ac hF (fW hQ (g1 := fun y0 => fU.f y0 ((⟨o, p, s, (⟨t, u, v, w⟩ : GEx), y, z, A, B, C⟩ : GRule))) (fun h => rc hQ h) S) ?_
 cbv
 refine bcs (fun d => ?_) (fun d => ?_)
 replace hh := ifT hh d
 try rw [d]
 cbv
 cases hh
 have hh : some _ = some _ := j
 refine G _ _ ?_
 cbv
 exact Eb
 replace hh := ifF hh d
 try rw [d]
 cbv
 ·refine J _ _ hh fun U e => ?_
  refine ah ?_
  cbv
  all_goals exact J1
 have c : H = false := Fb D
 have g := c; cbv at g; try rw [c]
 try rw [g]
 cbv
 cases hh
 have hh : some _ = some _ := j
 refine G _ _ ?_
 cbv
 exact Eb
 replace hh := ifF hh b
 try rw [b]
 cbv
 ·refine K () _ hh fun _ e => ?_
  refine ah ?_
  cbv
  all_goals exact J0
theorem ii {k : Nat} {p0 : List GRule} {r : Bool} (hh : bF.f k p0 = some r) : ai P 38 [oA 12 (qGRule p0)] [oA 12 (qGRule p0)] (bA r) := by
  cases hQ; exact (j8 .mk hh).lend (rfl) (.lend (congrArg A.tree (nO _).symm) .nil)

theorem AJ : ∀ k : Nat, (∀ {p0 : GEx} {r : GEx}, bv.f k p0 = some r → ai P 187 [.agg [iA p0.Kind, iA p0.Sym, iA p0.N, tA (qGEx p0.Kids)]] [hA] (.agg [iA r.Kind, iA r.Sym, iA r.N, oA 4 (qGExO r.Kids)])) := by
  intro k
  induction k using Nat.strongRecOn with
  | _ k ih =>
  · intro p0 r hh
    cases k with
    | zero => unfold bv.f at hh; cases hh
    | succ k =>
    obtain ⟨p0a, p0b, p0c, p0d⟩ := p0
    unfold bv.f at hh
    refine go (ts := [(2, some 25)]) (rm := [.own]) (pm := [.skip]) Tryz.func187 ?_
    unhygienic intros
    cbv
    replace hh := bind_some hh
    obtain ⟨F, u, v⟩ := hh
    refine au hC eok mixed (fun n (i : (List GEx) × Int) => bv.l0 k (bv.f k) (⟨p0a, p0b, p0c, p0d⟩ : GEx) n i.1 i.2)
     (fun ⟨c, j⟩ => (⟨[(1, .mptr (1, 0) 1 0 0), (2, .mptr (2, 0) 1 0 0), (3, .ref (3, 50) 1 0 (len (qGExO c))), (7, tA (qGEx p0d)), (8, iA (cast (len (qGEx p0d)))), (9, iA j)], [((1, 0), .box 1 [iA p0a, iA p0b, iA p0c, tA (qGEx p0d)]), ((2, 0), .box 1 [iA 0, iA 0, iA 0, .lit (.slice none 0 0)]), ((3, 50), .arr 1 4 (qGExO c))]⟩ : St))
     (fun (d : List GEx) => (⟨[(1, .mptr (1, 0) 1 0 0), (2, .mptr (2, 0) 1 0 0), (3, .ref (3, 50) 1 0 (len (qGExO d)))], [((1, 0), .box 1 [iA p0a, iA p0b, iA p0c, tA (qGEx p0d)]), ((2, 0), .box 1 [iA 0, iA 0, iA 0, .lit (.slice none 0 0)]), ((3, 50), .arr 1 4 (qGExO d))]⟩ : St)) (fun x => x) (.exit 0)
     (i0 := (_, _)) u (fun _ => rfl) ?_ ?_ ?_
    ·rintro ⟨w, G⟩ e
     refine aw [((1, 0), (1, 0)), ((2, 0), (2, 0))] ?_
     cbv
     all_goals exact J2
    rintro d hx
    subst F
    have hh := v
    cbv
    exact Eb
    rintro n ⟨c, j⟩ M O hh y z L
    try dsimp only at hh
    unfold bv.l0 at hh
    cbv
    refine bcs (fun b => ?_) (fun b => ?_)
    replace hh := ifT hh b
    try rw [b]
    cbv
    replace hh := aa hh
    obtain ⟨A, hh⟩ := hh
    replace hh := bind_some hh
    obtain ⟨⟨o, p, s, t⟩, B, hh⟩ := hh
    try dsimp only at hh
    refine ⟨[iA o, iA p, iA s, tA (qGEx t)], Nb A, Gb B, ?_⟩
    cbv
    replace hh := bind_some hh
    obtain ⟨⟨H, I, J, K⟩, C, hh⟩ := hh
    try dsimp only at hh
    have fc := (ih k (Nat.lt_succ_self k)) C
    try dsimp only at fc
    refine ac hF fc ?_
    cbv
    replace hh := aa hh
    obtain ⟨D, hh⟩ := hh
    refine ⟨⟨Ob, Ab⟩, ?_⟩
    refine ⟨⟨Ob, Wb D⟩, ?_⟩
    ·refine y (_, _) _ hh fun ⟨w, G⟩ e => ?_
     refine aw [((1, 0), (1, 0)), ((2, 0), (2, 0)), ((3, 50), (17, 0))] ?_
     cbv
     all_goals exact J2
    replace hh := ifF hh b
    try rw [b]
    cbv
    ·refine z _ _ hh fun w e => ?_
     refine ah ?_
     cbv
     all_goals exact J1
theorem sS {k : Nat} {p0 : GEx} {r : GEx} (hh : bv.f k p0 = some r) : ai P 187 [.agg [iA p0.Kind, iA p0.Sym, iA p0.N, tA (qGEx p0.Kids)]] [hA] (.agg [iA r.Kind, iA r.Sym, iA r.N, oA 4 (qGExO r.Kids)]) := (AJ hQ k) hh


theorem qd {k : Nat} {p0 : GRule} {r : GRule} (hh : gP.f k p0 = some r) : ai P 139 [.agg [sA p0.Name, iA p0.Pri, iA p0.Mode, iA p0.Ex.Kind, iA p0.Ex.Sym, iA p0.Ex.N, tA (qGEx p0.Ex.Kids), iA p0.Low, iA p0.High, iA p0.Key, iA p0.Add, iA p0.Raise]] [hA] (.agg [sA r.Name, iA r.Pri, iA r.Mode, iA r.Ex.Kind, iA r.Ex.Sym, iA r.Ex.N, oA 4 (qGExO r.Ex.Kids), iA r.Low, iA r.High, iA r.Key, iA r.Add, iA r.Raise]) := by
 obtain ⟨p0a, p0b, p0c, ⟨p0d, p0e, p0f, p0g⟩, p0h, p0i, p0j, p0k, p0l⟩ := p0
 unfold gP.f at hh
 refine go (ts := [(2, some 60)]) (rm := [.own]) (pm := [.skip]) Tryz.func139 ?_
 unhygienic intros
 cbv
 replace hh := bind_some hh
 obtain ⟨⟨c, d, j, o⟩, b, hh⟩ := hh
 try dsimp only at hh
 have fc := sS hQ b
 try dsimp only at fc
 refine ac hF fc ?_
 cbv
 exact Eb

theorem kZ {k : Nat} {p0 : List GRule} {r : List GRule} (hh : bI.f k p0 = some r) : ai P 82 [tA (qGRule p0)] [hA] (oA 12 (qGRule r)) := by
 unfold bI.f at hh
 refine go (ts := [(2, none)]) (rm := [.own]) (pm := [.skip]) Tryz.func82 ?_
 unhygienic intros
 cbv
 replace hh := bind_some hh
 obtain ⟨o1, R, S⟩ := hh
 refine au hC eok mixed (fun n (i : (List GRule) × Int) => bI.l0 k p0 n i.1 i.2)
  (fun ⟨c, j⟩ => (⟨[(3, .ref (3, 50) 1 0 (len (qGRule c))), (6, tA (qGRule p0)), (7, iA (cast (len (qGRule p0)))), (8, iA j)], [((3, 50), .arr 1 12 (qGRule c))]⟩ : St))
  (fun (d : List GRule) => (⟨[(3, .ref (3, 50) 1 0 (len (qGRule d)))], [((3, 50), .arr 1 12 (qGRule d))]⟩ : St)) (fun x => x) (.exit 0)
  (i0 := (_, _)) R (fun _ => rfl) ?_ ?_ ?_
 ·rintro ⟨T, t1⟩ e
  refine aw [] ?_
  cbv
  all_goals exact J2
 rintro d hx
 subst o1
 have hh := S
 cbv
 exact Eb
 rintro n ⟨c, j⟩ N1 D1 hh U V Bo
 try dsimp only at hh
 unfold bI.l0 at hh
 cbv
 refine bcs (fun b => ?_) (fun b => ?_)
 replace hh := ifT hh b
 try rw [b]
 cbv
 replace hh := aa hh
 obtain ⟨W, hh⟩ := hh
 replace hh := bind_some hh
 obtain ⟨⟨o, p, s, ⟨t, u, v, w⟩, y, z, A, B, C⟩, X, hh⟩ := hh
 try dsimp only at hh
 refine ⟨[sA o, iA p, iA s, iA t, iA u, iA v, tA (qGEx w), iA y, iA z, iA A, iA B, iA C], Nb W, Gb X, ?_⟩
 cbv
 replace hh := bind_some hh
 obtain ⟨⟨D, F, G, ⟨H, I, J, K⟩, L, M, N, O, Q⟩, Y, hh⟩ := hh
 try dsimp only at hh
 have fc := ai.frz (r' := .agg [sA D, iA F, iA G, iA H, iA I, iA J, tA (qGEx K), iA L, iA M, iA N, iA O, iA Q]) (qd hQ Y) (by cases hQ; simp)
 try dsimp only at fc
 refine ac hF fc ?_
 cbv
 replace hh := aa hh
 obtain ⟨Z, hh⟩ := hh
 refine ⟨⟨Ob, Ab⟩, ?_⟩
 refine ⟨⟨Ob, Wb Z⟩, ?_⟩
 ·refine U (_, _) _ hh fun ⟨T, t1⟩ e => ?_
  refine aw [((3, 50), (16, 0))] ?_
  cbv
  all_goals exact J2
 replace hh := ifF hh b
 try rw [b]
 cbv
 ·refine V _ _ hh fun T e => ?_
  refine ah ?_
  cbv
  all_goals exact J1

theorem tg {k : Nat} {p0 : List Int} {p1 : List Int} {r : Bool} (hh : cx.f k p0 p1 = some r) : ai P 113 [tA (qInt p0), tA (qInt p1)] [hA, hA] (bA r) := by
 unfold cx.f at hh
 refine go (ts := [(4, none)]) (rm := [.own]) (pm := [.skip, .skip]) Tryz.func113 ?_
 unhygienic intros
 cbv
 replace hh := az hh
 rcases hh with ⟨u, hh⟩ | ⟨u, hh⟩
 have d : (eq (cast (len (qInt p0))) (cast (len (qInt p1)))) = true := Tb u
 have g := d; cbv at g; try rw [d]
 try rw [g]
 cbv
 replace hh := bind_some hh
 obtain ⟨F, v, s⟩ := hh
 refine au hC eok mixed (cx.l0 k p0 p1)
  (fun t => (⟨[(0, tA (qInt p0)), (1, tA (qInt p1)), (12, iA (cast (len (qInt p0)))), (13, iA t)], []⟩ : St))
  (fun (_ : Unit) => (⟨[], []⟩ : St)) .ok (.exit 0)
  (i0 := _) v (fun _ => rfl) ?_ ?_ ?_
 ·rintro G e
  refine ah ?_
  cbv
  all_goals exact J1
 rintro _ hx
 subst F
 have hh := s
 cbv
 exact Eb
 rintro n t H I hh w y z
 unfold cx.l0 at hh
 cbv
 refine bcs (fun b => ?_) (fun b => ?_)
 replace hh := ifT hh b
 try rw [b]
 cbv
 replace hh := aa hh
 obtain ⟨A, hh⟩ := hh
 replace hh := bind_some hh
 obtain ⟨j, B, hh⟩ := hh
 refine ⟨[iA j], Nb A, Gb B, ?_⟩
 cbv
 replace hh := aa hh
 obtain ⟨C, hh⟩ := hh
 replace hh := bind_some hh
 obtain ⟨o, D, hh⟩ := hh
 refine ⟨[iA o], Nb C, Gb D, ?_⟩
 cbv
 replace hh := az hh
 rcases hh with ⟨p, hh⟩ | ⟨p, hh⟩
 have c : (eq j o) = true := Tb p
 have g := c; cbv at g; try rw [c]
 try rw [g]
 cbv
 ·refine w _ _ hh fun G e => ?_
  refine ah ?_
  cbv
  all_goals exact J1
 have c : (eq j o) = false := Fb p
 have g := c; cbv at g; try rw [c]
 try rw [g]
 cbv
 cases hh
 have hh : some _ = some _ := s
 refine z _ _ ?_
 cbv
 exact Eb
 replace hh := ifF hh b
 try rw [b]
 cbv
 ·refine y () _ hh fun _ e => ?_
  refine ah ?_
  cbv
  all_goals exact J0
 have d : (eq (cast (len (qInt p0))) (cast (len (qInt p1)))) = false := Fb u
 have g := d; cbv at g; try rw [d]
 try rw [g]
 cbv
 exact Eb

theorem pw {k : Nat} {p0 : GNode} {c0 : GNode} {r : Bool} (hh : dr.f k p0 c0 = some r) : ai P 181 [.agg [iA p0.Kind, iA p0.Sym, iA p0.N, tA (qInt p0.Kids), tA (qGOcc p0.Pair.Left), tA (qGOcc p0.Pair.Right), tA (qGOcc p0.Span.Left), tA (qGOcc p0.Span.Mid), tA (qGOcc p0.Due), iA p0.Many], .iptr [iA c0.Kind, iA c0.Sym, iA c0.N, tA (qInt c0.Kids), tA (qGOcc c0.Pair.Left), tA (qGOcc c0.Pair.Right), tA (qGOcc c0.Span.Left), tA (qGOcc c0.Span.Mid), tA (qGOcc c0.Due), iA c0.Many] 0] [hA, hA] (bA r) := by
 obtain ⟨p0a, p0b, p0c, p0d, ⟨p0e, p0f⟩, ⟨p0g, p0h⟩, p0i, p0j⟩ := p0
 obtain ⟨c0a, c0b, c0c, c0d, ⟨c0e, c0f⟩, ⟨c0g, c0h⟩, c0i, c0j⟩ := c0
 unfold dr.f at hh
 refine go (ts := [(3, none)]) (rm := [.own]) (pm := [.skip, .skip]) Tryz.func181 ?_
 unhygienic intros
 cbv
 refine bcs (fun b => ?_) (fun b => ?_)
 replace hh := ifT hh b
 try rw [b]
 cbv
 refine bcs (fun c => ?_) (fun c => ?_)
 replace hh := ifT hh c
 try rw [c]
 cbv
 refine bcs (fun d => ?_) (fun d => ?_)
 replace hh := ifT hh d
 try rw [d]
 cbv
 replace hh := bind_some hh
 obtain ⟨o, j, hh⟩ := hh
 refine ac hF (tg hQ j) ?_
 cbv
 exact Eb
 replace hh := ifF hh d
 try rw [d]
 cbv
 exact Eb
 replace hh := ifF hh c
 try rw [c]
 cbv
 exact Eb
 replace hh := ifF hh b
 try rw [b]
 cbv
 exact Eb

theorem gb {k : Nat} {g1 : GNode → Option Bool} {cp1_0 : GNode} (hg1 : ∀ {y0 : GNode} {r : Bool}, g1 y0 = some r → ai P 181 [.agg [iA y0.Kind, iA y0.Sym, iA y0.N, tA (qInt y0.Kids), tA (qGOcc y0.Pair.Left), tA (qGOcc y0.Pair.Right), tA (qGOcc y0.Span.Left), tA (qGOcc y0.Span.Mid), tA (qGOcc y0.Due), iA y0.Many], .iptr [iA cp1_0.Kind, iA cp1_0.Sym, iA cp1_0.N, tA (qInt cp1_0.Kids), tA (qGOcc cp1_0.Pair.Left), tA (qGOcc cp1_0.Pair.Right), tA (qGOcc cp1_0.Span.Left), tA (qGOcc cp1_0.Span.Mid), tA (qGOcc cp1_0.Due), iA cp1_0.Many] 0] [hA, hA] (bA r)) {p0 : List GNode} {r : Int} (hh : aA.f g1 k p0 = some r) : ai P 180 [tA (qGNode p0), .clo 181 [.iptr [iA cp1_0.Kind, iA cp1_0.Sym, iA cp1_0.N, tA (qInt cp1_0.Kids), tA (qGOcc cp1_0.Pair.Left), tA (qGOcc cp1_0.Pair.Right), tA (qGOcc cp1_0.Span.Left), tA (qGOcc cp1_0.Span.Mid), tA (qGOcc cp1_0.Due), iA cp1_0.Many] 0]] [hA, hA] (iA r) := by
 obtain ⟨cp1_0a, cp1_0b, cp1_0c, cp1_0d, ⟨cp1_0e, cp1_0f⟩, ⟨cp1_0g, cp1_0h⟩, cp1_0i, cp1_0j⟩ := cp1_0
 unfold aA.f at hh
 refine go (ts := [(4, none)]) (rm := [.own]) (pm := [.skip, .skip]) Tryz.func180 ?_
 unhygienic intros
 cbv
 replace hh := bind_some hh
 obtain ⟨J, B, d⟩ := hh
 refine au hC eok mixed (aA.l0 k g1 p0)
  (fun j => (⟨[(0, tA (qGNode p0)), (1, .clo 181 [.iptr [iA cp1_0a, iA cp1_0b, iA cp1_0c, tA (qInt cp1_0d), tA (qGOcc cp1_0e), tA (qGOcc cp1_0f), tA (qGOcc cp1_0g), tA (qGOcc cp1_0h), tA (qGOcc cp1_0i), iA cp1_0j] 0]), (7, iA (cast (len (qGNode p0)))), (8, iA j)], []⟩ : St))
  (fun (_ : Unit) => (⟨[], []⟩ : St)) .ok (.exit 0)
  (i0 := _) B (fun _ => rfl) ?_ ?_ ?_
 ·rintro K e
  refine ah ?_
  cbv
  all_goals exact J1
 rintro _ hx
 subst J
 have hh := d
 cbv
 exact Eb
 rintro n j M O hh C D F
 unfold aA.l0 at hh
 cbv
 refine bcs (fun b => ?_) (fun b => ?_)
 replace hh := ifT hh b
 try rw [b]
 cbv
 replace hh := aa hh
 obtain ⟨G, hh⟩ := hh
 replace hh := bind_some hh
 obtain ⟨⟨o, p, s, t, ⟨u, v⟩, ⟨w, y⟩, z, A⟩, H, hh⟩ := hh
 try dsimp only at hh
 refine ⟨[iA o, iA p, iA s, tA (qInt t), tA (qGOcc u), tA (qGOcc v), tA (qGOcc w), tA (qGOcc y), tA (qGOcc z), iA A], Nb G, Gb H, ?_⟩
 cbv
 replace hh := bind_some hh
 obtain ⟨L, I, hh⟩ := hh
 refine ac hF (hg1 I) ?_
 cbv
 refine bcs (fun c => ?_) (fun c => ?_)
 replace hh := ifT hh c
 try rw [c]
 cbv
 cases hh
 have hh : some _ = some _ := d
 refine F _ _ ?_
 cbv
 exact Eb
 replace hh := ifF hh c
 try rw [c]
 cbv
 ·refine C _ _ hh fun K e => ?_
  refine ah ?_
  cbv
  all_goals exact J1
 replace hh := ifF hh b
 try rw [b]
 cbv
 ·refine D () _ hh fun _ e => ?_
  refine ah ?_
  cbv
  all_goals exact J0
theorem ft {k : Nat} {g1 : GNode → Option Bool} {cp1_0 : GNode} (hg1 : ∀ {y0 : GNode} {r : Bool}, g1 y0 = some r → ai P 181 [.agg [iA y0.Kind, iA y0.Sym, iA y0.N, tA (qInt y0.Kids), tA (qGOcc y0.Pair.Left), tA (qGOcc y0.Pair.Right), tA (qGOcc y0.Span.Left), tA (qGOcc y0.Span.Mid), tA (qGOcc y0.Due), iA y0.Many], .iptr [iA cp1_0.Kind, iA cp1_0.Sym, iA cp1_0.N, tA (qInt cp1_0.Kids), tA (qGOcc cp1_0.Pair.Left), tA (qGOcc cp1_0.Pair.Right), tA (qGOcc cp1_0.Span.Left), tA (qGOcc cp1_0.Span.Mid), tA (qGOcc cp1_0.Due), iA cp1_0.Many] 0] [hA, hA] (bA r)) {p0 : List GNode} {r : Int} (hh : aA.f g1 k p0 = some r) : ai P 180 [oA 10 (qGNode p0), .clo 181 [.iptr [iA cp1_0.Kind, iA cp1_0.Sym, iA cp1_0.N, tA (qInt cp1_0.Kids), tA (qGOcc cp1_0.Pair.Left), tA (qGOcc cp1_0.Pair.Right), tA (qGOcc cp1_0.Span.Left), tA (qGOcc cp1_0.Span.Mid), tA (qGOcc cp1_0.Due), iA cp1_0.Many] 0]] [oA 10 (qGNode p0), hA] (iA r) := by
  cases hQ; exact (gb .mk hg1 hh).lend (rfl) (.lend (congrArg A.tree (lp _).symm) (.same rfl .nil))

theorem A5 : ∀ k : Nat, (∀ {p0 : GGraph} {p1 : GEx} {r : Int × GGraph}, bn.f k p0 p1 = some r → ai P 127 [.obox [iA p0.Mode, oA 10 (qGNode p0.Nodes), iA p0.Seen, iA p0.Now, bA p0.Full], .agg [iA p1.Kind, iA p1.Sym, iA p1.N, tA (qGEx p1.Kids)]] [.obox [iA r.2.Mode, oA 10 (qGNode r.2.Nodes), iA r.2.Seen, iA r.2.Now, bA r.2.Full], hA] (iA r.1)) := by
  intro k
  induction k using Nat.strongRecOn with
  | _ k ih =>
  · intro p0 p1 r hh
    cases k with
    | zero => unfold bn.f at hh; cases hh
    | succ k =>
    obtain ⟨p0a, p0b, p0c, p0d, p0e⟩ := p0
    obtain ⟨p1a, p1b, p1c, p1d⟩ := p1
    unfold bn.f at hh
    refine go (ts := [(4, none)]) (rm := [.own]) (pm := [.own, .skip]) Tryz.func127 ?_
    unhygienic intros
    cbv
    replace hh := bind_some hh
    obtain ⟨o1, H, I⟩ := hh
    refine au hC eok mixed (fun n (i : Int × (List GNode) × Int × Int × Bool × (List Int) × Int) => bn.l0 k (bn.f k) (⟨p1a, p1b, p1c, p1d⟩ : GEx) n i.1 i.2.1 i.2.2.1 i.2.2.2.1 i.2.2.2.2.1 i.2.2.2.2.2.1 i.2.2.2.2.2.2)
     (fun ⟨s, j, t, u, v, o, w⟩ => (⟨[(0, .mptr (0, 0) 1 0 0), (5, .mptr (5, 0) 1 0 0), (17, tA (qGEx p1d)), (18, iA (cast (len (qGEx p1d)))), (19, iA w), (1000000, .mptr (0, 0) 1 0 0)], [((0, 0), .box 1 [iA s, .ref (900, 0) 1 0 (len (qGNode j)), iA t, iA u, bA v]), ((5, 0), .box 1 [iA p1a, iA p1b, iA p1c, .ref (5, 53) 1 0 (len (qInt o)), .lit (.slice none 0 0), .lit (.slice none 0 0), .lit (.slice none 0 0), .lit (.slice none 0 0), .lit (.slice none 0 0), iA 0]), ((5, 53), .arr 1 1 (qInt o)), ((900, 0), .arr 1 10 (qGNode j))]⟩ : St))
     (fun (⟨y, p, z, A, B, d⟩ : Int × (List GNode) × Int × Int × Bool × (List Int)) => (⟨[(0, .mptr (0, 0) 1 0 0), (5, .mptr (5, 0) 1 0 0), (1000000, .mptr (0, 0) 1 0 0)], [((0, 0), .box 1 [iA y, .ref (900, 0) 1 0 (len (qGNode p)), iA z, iA A, bA B]), ((5, 0), .box 1 [iA p1a, iA p1b, iA p1c, .ref (5, 53) 1 0 (len (qInt d)), .lit (.slice none 0 0), .lit (.slice none 0 0), .lit (.slice none 0 0), .lit (.slice none 0 0), .lit (.slice none 0 0), iA 0]), ((5, 53), .arr 1 1 (qInt d)), ((900, 0), .arr 1 10 (qGNode p))]⟩ : St)) (fun x => x) (.exit 0)
     (i0 := (_, _, _, _, _, _, _)) H (fun _ => rfl) ?_ ?_ ?_
    ·rintro ⟨J, K, L, M, O, Q, t6⟩ e
     refine eN hC (0, 0) 900 ?_
     cbv
     refine aw [((0, 0), (0, 0)), ((5, 0), (5, 0)), ((900, 0), (900, 0))] ?_
     cbv
     all_goals exact J7
    rintro ⟨y, p, z, A, B, d⟩ hx
    subst o1
    have hh := I
    cbv
    replace hh := bind_some hh
    obtain ⟨Ck, R, hh⟩ := hh
    refine ⟨Ob, ?_⟩
    refine ac hF (ft hQ (g1 := fun y0 => dr.f k y0 ((⟨p1a, p1b, p1c, d, (⟨[], []⟩ : GPair), (⟨[], []⟩ : GSpan), [], 0⟩ : GNode))) (fun h => pw hQ h) R) ?_
    cbv
    refine bcs (fun b => ?_) (fun b => ?_)
    replace hh := ifT hh b
    try rw [b]
    cbv
    replace hh := aa hh
    obtain ⟨S, hh⟩ := hh
    refine ⟨⟨Ob, Ab⟩, ?_⟩
    refine ⟨⟨Ob, Wb S⟩, ?_⟩
    exact Eb
    replace hh := ifF hh b
    try rw [b]
    cbv
    exact Eb
    rintro n ⟨s, j, t, u, v, o, w⟩ N1 D1 hh T U Cm
    try dsimp only at hh
    unfold bn.l0 at hh
    cbv
    refine bcs (fun c => ?_) (fun c => ?_)
    replace hh := ifT hh c
    try rw [c]
    cbv
    replace hh := aa hh
    obtain ⟨V, hh⟩ := hh
    replace hh := bind_some hh
    obtain ⟨⟨C, D, F, G⟩, W, hh⟩ := hh
    try dsimp only at hh
    refine ⟨[iA C, iA D, iA F, tA (qGEx G)], Nb V, Gb W, ?_⟩
    cbv
    replace hh := bind_some hh
    obtain ⟨⟨B3, ⟨X, Y, Z, dv, xI⟩⟩, Bo, hh⟩ := hh
    try dsimp only at hh
    have fc := (ih k (Nat.lt_succ_self k)) Bo
    try dsimp only at fc
    refine ac hF fc ?_
    cbv
    replace hh := aa hh
    obtain ⟨B2, hh⟩ := hh
    refine ⟨⟨Ob, Ab⟩, ?_⟩
    refine ⟨⟨Ob, Wb B2⟩, ?_⟩
    ·refine T (_, _, _, _, _, _, _) _ hh fun ⟨J, K, L, M, O, Q, t6⟩ e => ?_
     refine eN hC (0, 0) 900 ?_
     cbv
     refine aw [((0, 0), (0, 0)), ((5, 0), (5, 0)), ((5, 53), (29, 0)), ((900, 0), (900, 0))] ?_
     cbv
     all_goals exact J7
    replace hh := ifF hh c
    try rw [c]
    cbv
    ·refine U (_, _, _, _, _, _) _ hh fun ⟨J, K, L, M, O, Q⟩ e => ?_
     refine ah ?_
     cbv
     all_goals exact J6
theorem rx {k : Nat} {p0 : GGraph} {p1 : GEx} {r : Int × GGraph} (hh : bn.f k p0 p1 = some r) : ai P 127 [.obox [iA p0.Mode, oA 10 (qGNode p0.Nodes), iA p0.Seen, iA p0.Now, bA p0.Full], .agg [iA p1.Kind, iA p1.Sym, iA p1.N, tA (qGEx p1.Kids)]] [.obox [iA r.2.Mode, oA 10 (qGNode r.2.Nodes), iA r.2.Seen, iA r.2.Now, bA r.2.Full], hA] (iA r.1) := (A5 hQ k) hh


theorem tv {k : Nat} {p0 : GEx} {p1 : Int} {r : GGraph} (hh : fO.f k p0 p1 = some r) : ai P 60 [.agg [iA p0.Kind, iA p0.Sym, iA p0.N, tA (qGEx p0.Kids)], iA p1] [hA, hA] (.agg [iA r.Mode, oA 10 (qGNode r.Nodes), iA r.Seen, iA r.Now, bA r.Full]) := by
 obtain ⟨p0a, p0b, p0c, p0d⟩ := p0
 unfold fO.f at hh
 refine go (ts := [(4, some 91)]) (rm := [.own]) (pm := [.skip, .skip]) Tryz.func60 ?_
 unhygienic intros
 cbv
 replace hh := bind_some hh
 obtain ⟨o, A, hh⟩ := hh
 refine ac hF (qI hQ A) ?_
 cbv
 replace hh := az hh
 rcases hh with ⟨d, hh⟩ | ⟨d, hh⟩
 have c : o = true := Tb d
 have g := c; cbv at g; try rw [c]
 try rw [g]
 cbv
 replace hh := bind_some hh
 obtain ⟨p, B, hh⟩ := hh
 refine ac hF (kU hQ B) ?_
 cbv
 replace hh := az hh
 rcases hh with ⟨j, hh⟩ | ⟨j, hh⟩
 have b : p = true := Tb j
 have g := b; cbv at g; try rw [b]
 try rw [g]
 cbv
 replace hh := bind_some hh
 obtain ⟨⟨z, ⟨s, t, u, v, w⟩⟩, y, hh⟩ := hh
 try dsimp only at hh
 refine ⟨10, ?_⟩
 cbv
 have fc := rx hQ y
 try dsimp only at fc
 refine ac hF fc ?_
 cbv
 exact Eb
 have b : p = false := Fb j
 have g := b; cbv at g; try rw [b]
 try rw [g]
 cbv
 refine ⟨10, ?_⟩
 cbv
 exact Eb
 have c : o = false := Fb d
 have g := c; cbv at g; try rw [c]
 try rw [g]
 cbv
 refine ⟨10, ?_⟩
 cbv
 exact Eb

theorem np {k : Nat} {p0 : List GRule} {r : GEng} (hh : ce.f k p0 = some r) : ai P 34 [tA (qGRule p0)] [hA] (.agg [tA (qGRule r.Rules), oA 5 (qGGraphS r.Graphs), oA 3 (qGEv r.Events), oA 1 (qInt r.Keys), oA 4 (qGFire r.Fired)]) := by
 unfold ce.f at hh
 refine go (ts := [(2, some 53)]) (rm := [.own]) (pm := [.skip]) Tryz.func34 ?_
 unhygienic intros
 cbv
 replace hh := bind_some hh
 obtain ⟨H, U, hh⟩ := hh
 refine ac hF (j8 hQ U) ?_
 cbv
 replace hh := az hh
 rcases hh with ⟨p, hh⟩ | ⟨p, hh⟩
 have c : H = true := Tb p
 have g := c; cbv at g; try rw [c]
 try rw [g]
 cbv
 replace hh := bind_some hh
 obtain ⟨s, V, hh⟩ := hh
 refine ac hF (ai.frz (r' := tA (qGRule s)) (kZ hQ V) (by cases hQ; simp)) ?_
 cbv
 replace hh := aa hh
 obtain ⟨W, hh⟩ := hh
 replace hh := aa hh
 obtain ⟨I, hh⟩ := hh
 replace hh := aa hh
 obtain ⟨J, hh⟩ := hh
 refine ⟨⟨Nb W, Nb I, Wb J⟩, ?_⟩
 replace hh := bind_some hh
 obtain ⟨X, K, L⟩ := hh
 refine au hC eok mixed (fun n (i : (List GGraph) × Int) => ce.l0 k p0 n i.1 i.2)
  (fun ⟨d, o⟩ => (⟨[(2, .mptr (2, 0) 1 0 0), (3, .mptr (3, 0) 1 0 0), (14, tA (qGRule p0)), (15, iA (cast (len (qGRule p0)))), (16, iA o)], [((2, 0), .box 1 [.lit (.slice none 0 0), .lit (.slice none 0 0), .lit (.slice none 0 0), .lit (.slice none 0 0), .lit (.slice none 0 0)]), ((3, 0), .box 1 [tA (qGRule s), .ref (3, 51) 1 0 (len (qGGraphS d)), .lit (.slice none 0 0), .ref (12, 0) 1 0 (len (qInt (List.replicate 4 0))), .lit (.slice none 0 0)]), ((3, 51), .arr 1 5 (qGGraphS d)), ((12, 0), .arr 1 1 (qInt (List.replicate 4 0)))]⟩ : St))
  (fun (j : List GGraph) => (⟨[(2, .mptr (2, 0) 1 0 0), (3, .mptr (3, 0) 1 0 0)], [((2, 0), .box 1 [.lit (.slice none 0 0), .lit (.slice none 0 0), .lit (.slice none 0 0), .lit (.slice none 0 0), .lit (.slice none 0 0)]), ((3, 0), .box 1 [tA (qGRule s), .ref (3, 51) 1 0 (len (qGGraphS j)), .lit (.slice none 0 0), .ref (12, 0) 1 0 (len (qInt (List.replicate 4 0))), .lit (.slice none 0 0)]), ((3, 51), .arr 1 5 (qGGraphS j)), ((12, 0), .arr 1 1 (qInt (List.replicate 4 0)))]⟩ : St)) (fun x => x) (.exit 0)
  (i0 := (_, _)) K (fun _ => rfl) ?_ ?_ ?_
 ·rintro ⟨M, Y⟩ e
  refine aw [((2, 0), (2, 0)), ((3, 0), (3, 0)), ((12, 0), (12, 0))] ?_
  cbv
  all_goals exact J2
 rintro j hx
 subst X
 have hh := L
 cbv
 refine ⟨3, ?_⟩
 cbv
 refine ⟨4, ?_⟩
 cbv
 exact Eb
 rintro n ⟨d, o⟩ N1 D1 hh N O B3
 try dsimp only at hh
 unfold ce.l0 at hh
 cbv
 refine bcs (fun b => ?_) (fun b => ?_)
 replace hh := ifT hh b
 try rw [b]
 cbv
 replace hh := aa hh
 obtain ⟨Q, hh⟩ := hh
 replace hh := bind_some hh
 obtain ⟨⟨t, u, v, ⟨w, y, z, A⟩, B, C, D, F, G⟩, R, hh⟩ := hh
 try dsimp only at hh
 refine ⟨[sA t, iA u, iA v, iA w, iA y, iA z, tA (qGEx A), iA B, iA C, iA D, iA F, iA G], Nb Q, Gb R, ?_⟩
 cbv
 replace hh := bind_some hh
 obtain ⟨⟨Z, dv, xI, Bo, B2⟩, S, hh⟩ := hh
 try dsimp only at hh
 have fc := tv hQ S
 try dsimp only at fc
 refine ac hF fc ?_
 cbv
 replace hh := aa hh
 obtain ⟨T, hh⟩ := hh
 refine ⟨⟨Ob, Ab⟩, ?_⟩
 refine ⟨⟨Ob, Wb T⟩, ?_⟩
 ·refine N (_, _) _ hh fun ⟨M, Y⟩ e => ?_
  refine aw [((2, 0), (2, 0)), ((3, 0), (3, 0)), ((3, 51), (28, 0)), ((12, 0), (12, 0))] ?_
  cbv
  all_goals exact J2
 replace hh := ifF hh b
 try rw [b]
 cbv
 ·refine O _ _ hh fun M e => ?_
  refine ah ?_
  cbv
  all_goals exact J1
 have c : H = false := Fb p
 have g := c; cbv at g; try rw [c]
 try rw [g]
 cbv
 refine ⟨0, ?_⟩
 cbv
 refine ⟨5, ?_⟩
 cbv
 refine ⟨3, ?_⟩
 cbv
 refine ⟨1, ?_⟩
 cbv
 refine ⟨4, ?_⟩
 cbv
 exact Eb

theorem wV {p0 : GEv} {r : Bool} (hh : kD.f p0 = some r) : ai P 126 [.agg [iA p0.Sym, iA p0.At, iA p0.Val]] [hA] (bA r) := by
 obtain ⟨p0a, p0b, p0c⟩ := p0
 unfold kD.f at hh
 refine go (ts := [(2, none)]) (rm := [.own]) (pm := [.skip]) Tryz.func126 ?_
 unhygienic intros
 cbv
 replace hh := bind_some hh
 obtain ⟨s, j, hh⟩ := hh
 refine ac hF (im hQ j) ?_
 cbv
 refine bcs (fun c => ?_) (fun c => ?_)
 replace hh := ifT hh c
 try rw [c]
 cbv
 replace hh := bind_some hh
 obtain ⟨t, o, hh⟩ := hh
 refine ac hF (bp hQ o) ?_
 cbv
 refine bcs (fun b => ?_) (fun b => ?_)
 replace hh := ifT hh b
 try rw [b]
 cbv
 replace hh := bind_some hh
 obtain ⟨p, d, hh⟩ := hh
 refine ac hF (bp hQ d) ?_
 cbv
 exact Eb
 replace hh := ifF hh b
 try rw [b]
 cbv
 exact Eb
 replace hh := ifF hh c
 try rw [c]
 cbv
 exact Eb

theorem wo {k : Nat} {p0 : List GEv} {r : Bool} (hh : cO.f k p0 = some r) : ai P 59 [tA (qGEv p0)] [hA] (bA r) := by
 unfold cO.f at hh
 refine go (ts := [(2, none)]) (rm := [.own]) (pm := [.skip]) Tryz.func59 ?_
 unhygienic intros
 cbv
 replace hh := bind_some hh
 obtain ⟨N, F, s⟩ := hh
 refine au hC eok mixed (cO.l0 k p0)
  (fun v => (⟨[(0, tA (qGEv p0)), (5, tA (qGEv p0)), (6, iA (cast (len (qGEv p0)))), (7, iA v)], []⟩ : St))
  (fun (_ : Unit) => (⟨[(0, tA (qGEv p0))], []⟩ : St)) .ok (.exit 0)
  (i0 := _) F (fun _ => rfl) ?_ ?_ ?_
 ·rintro G e
  refine ah ?_
  cbv
  all_goals exact J1
 rintro _ hx
 subst N
 have hh := s
 cbv
 exact Eb
 rintro n v O Q hh w H y
 unfold cO.l0 at hh
 cbv
 refine bcs (fun b => ?_) (fun b => ?_)
 replace hh := ifT hh b
 try rw [b]
 cbv
 replace hh := aa hh
 obtain ⟨I, hh⟩ := hh
 replace hh := bind_some hh
 obtain ⟨⟨A, o, B⟩, J, hh⟩ := hh
 try dsimp only at hh
 refine ⟨[iA A, iA o, iA B], Nb I, Gb J, ?_⟩
 cbv
 replace hh := bind_some hh
 obtain ⟨z, K, hh⟩ := hh
 refine ac hF (wV hQ K) ?_
 cbv
 replace hh := az hh
 rcases hh with ⟨t, hh⟩ | ⟨t, hh⟩
 have c : z = true := Tb t
 have g := c; cbv at g; try rw [c]
 try rw [g]
 cbv
 refine bcs (fun d => ?_) (fun d => ?_)
 replace hh := ifT hh d
 try rw [d]
 cbv
 replace hh := aa hh
 obtain ⟨L, hh⟩ := hh
 replace hh := bind_some hh
 obtain ⟨⟨C, p, D⟩, M, hh⟩ := hh
 try dsimp only at hh
 refine ⟨[iA C, iA p, iA D], Nb L, Gb M, ?_⟩
 cbv
 replace hh := az hh
 rcases hh with ⟨u, hh⟩ | ⟨u, hh⟩
 have j : (lt p o) = true := Tb u
 have g := j; cbv at g; try rw [j]
 try rw [g]
 cbv
 ·refine w _ _ hh fun G e => ?_
  refine ah ?_
  cbv
  all_goals exact J1
 have j : (lt p o) = false := Fb u
 have g := j; cbv at g; try rw [j]
 try rw [g]
 cbv
 cases hh
 have hh : some _ = some _ := s
 refine y _ _ ?_
 cbv
 exact Eb
 replace hh := ifF hh d
 try rw [d]
 cbv
 ·refine w _ _ hh fun G e => ?_
  refine ah ?_
  cbv
  all_goals exact J1
 have c : z = false := Fb t
 have g := c; cbv at g; try rw [c]
 try rw [g]
 cbv
 cases hh
 have hh : some _ = some _ := s
 refine y _ _ ?_
 cbv
 exact Eb
 replace hh := ifF hh b
 try rw [b]
 cbv
 ·refine H () _ hh fun _ e => ?_
  refine ah ?_
  cbv
  all_goals exact J0

theorem rk {p0 : Int} {c0 : Int} {r : Bool} (hh : dX.f p0 c0 = some r) : ai P 226 [iA p0, .iptr [iA c0] 0] [hA, hA] (bA r) := by
 unfold dX.f at hh
 refine go (ts := [(3, none)]) (rm := [.own]) (pm := [.skip, .skip]) Tryz.func226 ?_
 unhygienic intros
 cbv
 replace hh := bind_some hh
 obtain ⟨c, b, hh⟩ := hh
 refine ac hF (bp hQ b) ?_
 cbv
 exact Eb

theorem iR {k : Nat} {g1 : Int → Option Bool} {cp1_0 : Int} (hg1 : ∀ {y0 : Int} {r : Bool}, g1 y0 = some r → ai P 226 [iA y0, .iptr [iA cp1_0] 0] [hA, hA] (bA r)) {p0 : List Int} {r : Int} (hh : bi.f g1 k p0 = some r) : ai P 150 [tA (qInt p0), .clo 226 [.iptr [iA cp1_0] 0]] [hA, hA] (iA r) := by
 unfold bi.f at hh
 refine go (ts := [(4, none)]) (rm := [.own]) (pm := [.skip, .skip]) Tryz.func150 ?_
 unhygienic intros
 cbv
 replace hh := bind_some hh
 obtain ⟨z, o, d⟩ := hh
 refine au hC eok mixed (bi.l0 k g1 p0)
  (fun j => (⟨[(0, tA (qInt p0)), (1, .clo 226 [.iptr [iA cp1_0] 0]), (7, iA (cast (len (qInt p0)))), (8, iA j)], []⟩ : St))
  (fun (_ : Unit) => (⟨[], []⟩ : St)) .ok (.exit 0)
  (i0 := _) o (fun _ => rfl) ?_ ?_ ?_
 ·rintro A e
  refine ah ?_
  cbv
  all_goals exact J1
 rintro _ hx
 subst z
 have hh := d
 cbv
 exact Eb
 rintro n j C D hh p s t
 unfold bi.l0 at hh
 cbv
 refine bcs (fun b => ?_) (fun b => ?_)
 replace hh := ifT hh b
 try rw [b]
 cbv
 replace hh := aa hh
 obtain ⟨u, hh⟩ := hh
 replace hh := bind_some hh
 obtain ⟨v, w, hh⟩ := hh
 refine ⟨[iA v], Nb u, Gb w, ?_⟩
 cbv
 replace hh := bind_some hh
 obtain ⟨B, y, hh⟩ := hh
 refine ac hF (hg1 y) ?_
 cbv
 refine bcs (fun c => ?_) (fun c => ?_)
 replace hh := ifT hh c
 try rw [c]
 cbv
 cases hh
 have hh : some _ = some _ := d
 refine t _ _ ?_
 cbv
 exact Eb
 replace hh := ifF hh c
 try rw [c]
 cbv
 ·refine p _ _ hh fun A e => ?_
  refine ah ?_
  cbv
  all_goals exact J1
 replace hh := ifF hh b
 try rw [b]
 cbv
 ·refine s () _ hh fun _ e => ?_
  refine ah ?_
  cbv
  all_goals exact J0

theorem ir {k : Nat} {g1 : Int → Option Bool} {cp1_0 : Int} (hg1 : ∀ {y0 : Int} {r : Bool}, g1 y0 = some r → ai P 226 [iA y0, .iptr [iA cp1_0] 0] [hA, hA] (bA r)) {p0 : List Int} {r : Bool} (hh : cp.f g1 k p0 = some r) : ai P 90 [tA (qInt p0), .clo 226 [.iptr [iA cp1_0] 0]] [hA, hA] (bA r) := by
 unfold cp.f at hh
 refine go (ts := [(4, none)]) (rm := [.own]) (pm := [.skip, .skip]) Tryz.func90 ?_
 unhygienic intros
 cbv
 replace hh := bind_some hh
 obtain ⟨c, b, hh⟩ := hh
 refine ac hF (iR hQ (g1 := g1) hg1 b) ?_
 cbv
 exact Eb

theorem pr {k : Nat} {p0 : GOcc} {r : Bool} (hh : cP.f k p0 = some r) : ai P 94 [.agg [iA p0.From, iA p0.To, tA (qInt p0.Ids)]] [hA] (bA r) := by
 obtain ⟨p0a, p0b, p0c⟩ := p0
 unfold cP.f at hh
 refine go (ts := [(2, none)]) (rm := [.own]) (pm := [.skip]) Tryz.func94 ?_
 unhygienic intros
 cbv
 replace hh := bind_some hh
 obtain ⟨H, w, s⟩ := hh
 refine au hC eok mixed (fun n (i : Int × Int) => cP.l0 k (⟨p0a, p0b, p0c⟩ : GOcc) n i.1 i.2)
  (fun ⟨t, u⟩ => (⟨[(1, .mptr (1, 0) 1 0 0), (3, iA t), (7, tA (qInt p0c)), (8, iA (cast (len (qInt p0c)))), (9, iA u)], [((1, 0), .box 1 [iA p0a, iA p0b, tA (qInt p0c)])]⟩ : St))
  (fun (_ : Unit) => (⟨[(1, .mptr (1, 0) 1 0 0)], [((1, 0), .box 1 [iA p0a, iA p0b, tA (qInt p0c)])]⟩ : St)) .ok (.exit 0)
  (i0 := (_, _)) w (fun _ => rfl) ?_ ?_ ?_
 ·rintro ⟨I, J⟩ e
  refine ah ?_
  cbv
  all_goals exact J2
 rintro _ hx
 subst H
 have hh := s
 cbv
 replace hh := az hh
 rcases hh with ⟨o, hh⟩ | ⟨o, hh⟩
 have b : (lt p0a 1) = true := Tb o
 have g := b; cbv at g; try rw [b]
 try rw [g]
 cbv
 exact Eb
 have b : (lt p0a 1) = false := Fb o
 have g := b; cbv at g; try rw [b]
 try rw [g]
 cbv
 replace hh := bind_some hh
 obtain ⟨K, y, hh⟩ := hh
 refine ac hF (bp hQ y) ?_
 cbv
 refine bcs (fun c => ?_) (fun c => ?_)
 replace hh := ifT hh c
 try rw [c]
 cbv
 exact Eb
 replace hh := ifF hh c
 try rw [c]
 cbv
 exact Eb
 rintro n ⟨t, u⟩ L M hh z A B
 try dsimp only at hh
 unfold cP.l0 at hh
 cbv
 refine bcs (fun d => ?_) (fun d => ?_)
 replace hh := ifT hh d
 try rw [d]
 cbv
 replace hh := aa hh
 obtain ⟨C, hh⟩ := hh
 replace hh := bind_some hh
 obtain ⟨D, F, hh⟩ := hh
 refine ⟨[iA D], Nb C, Gb F, ?_⟩
 cbv
 replace hh := bind_some hh
 obtain ⟨v, G, hh⟩ := hh
 refine ac hF (bp hQ G) ?_
 cbv
 replace hh := az hh
 rcases hh with ⟨p, hh⟩ | ⟨p, hh⟩
 have j : v = true := Tb p
 have g := j; cbv at g; try rw [j]
 try rw [g]
 cbv
 ·refine z (_, _) _ hh fun ⟨I, J⟩ e => ?_
  refine ah ?_
  cbv
  all_goals exact J2
 have j : v = false := Fb p
 have g := j; cbv at g; try rw [j]
 try rw [g]
 cbv
 cases hh
 have hh : some _ = some _ := s
 refine B _ _ ?_
 cbv
 exact Eb
 replace hh := ifF hh d
 try rw [d]
 cbv
 ·refine A () _ hh fun _ e => ?_
  refine ah ?_
  cbv
  all_goals exact J0

theorem qO {p0 : Int} {r : Bool} (hh : kG.f p0 = some r) : ai P 220 [iA p0] [hA] (bA r) := by
 unfold kG.f at hh
 refine go (ts := [(2, none)]) (rm := [.own]) (pm := [.skip]) Tryz.func220 ?_
 unhygienic intros
 cbv
 exact Eb

theorem uZ {p0 : Int} {p1 : Int} {r : Int} (hh : iP.f p0 p1 = some r) : ai P 186 [iA p0, iA p1] [hA, hA] (iA r) := by
 unfold iP.f at hh
 refine go (ts := [(4, none)]) (rm := [.own]) (pm := [.skip, .skip]) Tryz.func186 ?_
 unhygienic intros
 cbv
 replace hh := bind_some hh
 obtain ⟨t, p, hh⟩ := hh
 refine ac hF (qO hQ p) ?_
 cbv
 replace hh := bind_some hh
 obtain ⟨u, s, hh⟩ := hh
 refine ac hF (qO hQ s) ?_
 cbv
 refine bcs (fun o => ?_) (fun o => ?_)
 replace hh := ifT hh o
 try rw [o]
 cbv
 refine bcs (fun b => ?_) (fun b => ?_)
 replace hh := ifT hh b
 try rw [b]
 cbv
 exact Eb
 replace hh := ifF hh b
 try rw [b]
 cbv
 exact Eb
 replace hh := ifF hh o
 try rw [o]
 cbv
 refine bcs (fun c => ?_) (fun c => ?_)
 replace hh := ifT hh c
 try rw [c]
 cbv
 exact Eb
 replace hh := ifF hh c
 try rw [c]
 cbv
 refine bcs (fun d => ?_) (fun d => ?_)
 replace hh := ifT hh d
 try rw [d]
 cbv
 exact Eb
 replace hh := ifF hh d
 try rw [d]
 cbv
 refine bcs (fun j => ?_) (fun j => ?_)
 replace hh := ifT hh j
 try rw [j]
 cbv
 exact Eb
 replace hh := ifF hh j
 try rw [j]
 cbv
 exact Eb

theorem rA {k : Nat} {p0 : List Int} {p1 : List Int} {r : Int} (hh : bX.f k p0 p1 = some r) : ai P 133 [tA (qInt p0), tA (qInt p1)] [hA, hA] (iA r) := by
 unfold bX.f at hh
 refine go (ts := [(4, none)]) (rm := [.own]) (pm := [.skip, .skip]) Tryz.func133 ?_
 unhygienic intros
 cbv
 replace hh := bind_some hh
 obtain ⟨I, w, p⟩ := hh
 refine au hC eok mixed (bX.l0 k p0 p1)
  (fun o => (⟨[(0, tA (qInt p0)), (1, tA (qInt p1)), (9, tA (qInt p0)), (10, iA (cast (len (qInt p0)))), (11, iA o)], []⟩ : St))
  (fun (_ : Unit) => (⟨[(0, tA (qInt p0)), (1, tA (qInt p1))], []⟩ : St)) .ok (.exit 0)
  (i0 := _) w (fun _ => rfl) ?_ ?_ ?_
 ·rintro J e
  refine ah ?_
  cbv
  all_goals exact J1
 rintro _ hx
 subst I
 have hh := p
 cbv
 refine bcs (fun b => ?_) (fun b => ?_)
 replace hh := ifT hh b
 try rw [b]
 cbv
 exact Eb
 replace hh := ifF hh b
 try rw [b]
 cbv
 exact Eb
 rintro n o K L hh y z u
 unfold bX.l0 at hh
 cbv
 refine bcs (fun c => ?_) (fun c => ?_)
 replace hh := ifT hh c
 try rw [c]
 cbv
 replace hh := aa hh
 obtain ⟨A, hh⟩ := hh
 replace hh := bind_some hh
 obtain ⟨B, C, hh⟩ := hh
 refine ⟨[iA B], Nb A, Gb C, ?_⟩
 cbv
 replace hh := az hh
 rcases hh with ⟨s, hh⟩ | ⟨s, hh⟩
 have d : (lt o (cast (len (qInt p1)))) = true := Tb s
 have g := d; cbv at g; try rw [d]
 try rw [g]
 cbv
 replace hh := aa hh
 obtain ⟨D, hh⟩ := hh
 replace hh := bind_some hh
 obtain ⟨F, G, hh⟩ := hh
 refine ⟨[iA F], Nb D, Gb G, ?_⟩
 cbv
 replace hh := bind_some hh
 obtain ⟨v, H, hh⟩ := hh
 refine ac hF (uZ hQ H) ?_
 cbv
 replace hh := az hh
 rcases hh with ⟨t, hh⟩ | ⟨t, hh⟩
 have j : (eq v 0) = true := Tb t
 have g := j; cbv at g; try rw [j]
 try rw [g]
 cbv
 ·refine y _ _ hh fun J e => ?_
  refine ah ?_
  cbv
  all_goals exact J1
 have j : (eq v 0) = false := Fb t
 have g := j; cbv at g; try rw [j]
 try rw [g]
 cbv
 cases hh
 have hh : some _ = some _ := p
 refine u _ _ ?_
 cbv
 exact Eb
 have d : (lt o (cast (len (qInt p1)))) = false := Fb s
 have g := d; cbv at g; try rw [d]
 try rw [g]
 cbv
 cases hh
 have hh : some _ = some _ := p
 refine u _ _ ?_
 cbv
 exact Eb
 replace hh := ifF hh c
 try rw [c]
 cbv
 ·refine z () _ hh fun _ e => ?_
  refine ah ?_
  cbv
  all_goals exact J0

theorem qz {p0 : Bool} {r : Int} (hh : kF.f p0 = some r) : ai P 132 [bA p0] [hA] (iA r) := by
 unfold kF.f at hh
 refine go (ts := [(2, none)]) (rm := [.own]) (pm := [.skip]) Tryz.func132 ?_
 unhygienic intros
 cbv
 refine bcs (fun b => ?_) (fun b => ?_)
 replace hh := ifT hh b
 try rw [b]
 cbv
 exact Eb
 replace hh := ifF hh b
 try rw [b]
 cbv
 exact Eb

theorem iC {k : Nat} {p0 : GOcc} {p1 : GOcc} {r : Int} (hh : ci.f k p0 p1 = some r) : ai P 70 [.agg [iA p0.From, iA p0.To, tA (qInt p0.Ids)], .agg [iA p1.From, iA p1.To, tA (qInt p1.Ids)]] [hA, hA] (iA r) := by
 obtain ⟨p0a, p0b, p0c⟩ := p0
 obtain ⟨p1a, p1b, p1c⟩ := p1
 unfold ci.f at hh
 refine go (ts := [(4, none)]) (rm := [.own]) (pm := [.skip, .skip]) Tryz.func70 ?_
 unhygienic intros
 cbv
 replace hh := az hh
 rcases hh with ⟨d, hh⟩ | ⟨d, hh⟩
 have b : (eq p0b p1b) = true := Tb d
 have g := b; cbv at g; try rw [b]
 try rw [g]
 cbv
 replace hh := az hh
 rcases hh with ⟨j, hh⟩ | ⟨j, hh⟩
 have c : (eq p0a p1a) = true := Tb j
 have g := c; cbv at g; try rw [c]
 try rw [g]
 cbv
 replace hh := bind_some hh
 obtain ⟨u, p, hh⟩ := hh
 refine ac hF (rA hQ p) ?_
 cbv
 exact Eb
 have c : (eq p0a p1a) = false := Fb j
 have g := c; cbv at g; try rw [c]
 try rw [g]
 cbv
 replace hh := bind_some hh
 obtain ⟨v, s, hh⟩ := hh
 refine ac hF (qz hQ s) ?_
 cbv
 exact Eb
 have b : (eq p0b p1b) = false := Fb d
 have g := b; cbv at g; try rw [b]
 try rw [g]
 cbv
 replace hh := bind_some hh
 obtain ⟨t, o, hh⟩ := hh
 refine ac hF (qz hQ o) ?_
 cbv
 exact Eb

theorem uo {k : Nat} {p0 : GOcc} {p1 : GOcc} {r : Bool} (hh : gY.f k p0 p1 = some r) : ai P 46 [.agg [iA p0.From, iA p0.To, tA (qInt p0.Ids)], .agg [iA p1.From, iA p1.To, tA (qInt p1.Ids)]] [hA, hA] (bA r) := by
 obtain ⟨p0a, p0b, p0c⟩ := p0
 obtain ⟨p1a, p1b, p1c⟩ := p1
 unfold gY.f at hh
 refine go (ts := [(4, none)]) (rm := [.own]) (pm := [.skip, .skip]) Tryz.func46 ?_
 unhygienic intros
 cbv
 replace hh := bind_some hh
 obtain ⟨c, b, hh⟩ := hh
 refine ac hF (iC hQ b) ?_
 cbv
 exact Eb

theorem eT {k : Nat} {p0 : List GOcc} {r : Bool} (hh : bw.f k p0 = some r) : ai P 194 [tA (qGOcc p0)] [hA] (bA r) := by
 unfold bw.f at hh
 refine go (ts := [(2, none)]) (rm := [.own]) (pm := [.skip]) Tryz.func194 ?_
 unhygienic intros
 cbv
 replace hh := bind_some hh
 obtain ⟨Q, G, o⟩ := hh
 refine au hC eok mixed (bw.l0 k p0)
  (fun t => (⟨[(0, tA (qGOcc p0)), (5, tA (qGOcc p0)), (6, iA (cast (len (qGOcc p0)))), (7, iA t)], []⟩ : St))
  (fun (_ : Unit) => (⟨[(0, tA (qGOcc p0))], []⟩ : St)) .ok (.exit 0)
  (i0 := _) G (fun _ => rfl) ?_ ?_ ?_
 ·rintro H e
  refine ah ?_
  cbv
  all_goals exact J1
 rintro _ hx
 subst Q
 have hh := o
 cbv
 exact Eb
 rintro n t R S hh u I v
 unfold bw.l0 at hh
 cbv
 refine bcs (fun b => ?_) (fun b => ?_)
 replace hh := ifT hh b
 try rw [b]
 cbv
 replace hh := aa hh
 obtain ⟨J, hh⟩ := hh
 replace hh := bind_some hh
 obtain ⟨⟨z, A, B⟩, K, hh⟩ := hh
 try dsimp only at hh
 refine ⟨[iA z, iA A, tA (qInt B)], Nb J, Gb K, ?_⟩
 cbv
 replace hh := bind_some hh
 obtain ⟨w, L, hh⟩ := hh
 refine ac hF (pr hQ L) ?_
 cbv
 replace hh := az hh
 rcases hh with ⟨p, hh⟩ | ⟨p, hh⟩
 have c : w = true := Tb p
 have g := c; cbv at g; try rw [c]
 try rw [g]
 cbv
 refine bcs (fun d => ?_) (fun d => ?_)
 replace hh := ifT hh d
 try rw [d]
 cbv
 replace hh := aa hh
 obtain ⟨M, hh⟩ := hh
 replace hh := bind_some hh
 obtain ⟨⟨C, D, F⟩, N, hh⟩ := hh
 try dsimp only at hh
 refine ⟨[iA C, iA D, tA (qInt F)], Nb M, Gb N, ?_⟩
 cbv
 replace hh := bind_some hh
 obtain ⟨y, O, hh⟩ := hh
 refine ac hF (uo hQ O) ?_
 cbv
 replace hh := az hh
 rcases hh with ⟨s, hh⟩ | ⟨s, hh⟩
 have j : y = true := Tb s
 have g := j; cbv at g; try rw [j]
 try rw [g]
 cbv
 ·refine u _ _ hh fun H e => ?_
  refine ah ?_
  cbv
  all_goals exact J1
 have j : y = false := Fb s
 have g := j; cbv at g; try rw [j]
 try rw [g]
 cbv
 cases hh
 have hh : some _ = some _ := o
 refine v _ _ ?_
 cbv
 exact Eb
 replace hh := ifF hh d
 try rw [d]
 cbv
 ·refine u _ _ hh fun H e => ?_
  refine ah ?_
  cbv
  all_goals exact J1
 have c : w = false := Fb p
 have g := c; cbv at g; try rw [c]
 try rw [g]
 cbv
 cases hh
 have hh : some _ = some _ := o
 refine v _ _ ?_
 cbv
 exact Eb
 replace hh := ifF hh b
 try rw [b]
 cbv
 ·refine I () _ hh fun _ e => ?_
  refine ah ?_
  cbv
  all_goals exact J0

theorem oz {k : Nat} {p0 : GPair} {r : Bool} (hh : gz.f k p0 = some r) : ai P 227 [.agg [tA (qGOcc p0.Left), tA (qGOcc p0.Right)]] [hA] (bA r) := by
 obtain ⟨p0a, p0b⟩ := p0
 unfold gz.f at hh
 refine go (ts := [(2, none)]) (rm := [.own]) (pm := [.skip]) Tryz.func227 ?_
 unhygienic intros
 cbv
 replace hh := bind_some hh
 obtain ⟨j, c, hh⟩ := hh
 refine ac hF (eT hQ c) ?_
 cbv
 refine bcs (fun b => ?_) (fun b => ?_)
 replace hh := ifT hh b
 try rw [b]
 cbv
 replace hh := bind_some hh
 obtain ⟨o, d, hh⟩ := hh
 refine ac hF (eT hQ d) ?_
 cbv
 exact Eb
 replace hh := ifF hh b
 try rw [b]
 cbv
 exact Eb

theorem oH {k : Nat} {p0 : GSpan} {r : Bool} (hh : gE.f k p0 = some r) : ai P 228 [.agg [tA (qGOcc p0.Left), tA (qGOcc p0.Mid)]] [hA] (bA r) := by
 obtain ⟨p0a, p0b⟩ := p0
 unfold gE.f at hh
 refine go (ts := [(2, none)]) (rm := [.own]) (pm := [.skip]) Tryz.func228 ?_
 unhygienic intros
 cbv
 replace hh := bind_some hh
 obtain ⟨j, c, hh⟩ := hh
 refine ac hF (eT hQ c) ?_
 cbv
 refine bcs (fun b => ?_) (fun b => ?_)
 replace hh := ifT hh b
 try rw [b]
 cbv
 replace hh := bind_some hh
 obtain ⟨o, d, hh⟩ := hh
 refine ac hF (eT hQ d) ?_
 cbv
 exact Eb
 replace hh := ifF hh b
 try rw [b]
 cbv
 exact Eb

theorem lT {p0 : GOcc} {c0 : Int} {r : Bool} (hh : c9.f p0 c0 = some r) : ai P 229 [.agg [iA p0.From, iA p0.To, tA (qInt p0.Ids)], .iptr [iA c0] 0] [hA, hA] (bA r) := by
 obtain ⟨p0a, p0b, p0c⟩ := p0
 unfold c9.f at hh
 refine go (ts := [(3, none)]) (rm := [.own]) (pm := [.skip, .skip]) Tryz.func229 ?_
 unhygienic intros
 cbv
 exact Eb

theorem gU {k : Nat} {g1 : GOcc → Option Bool} {cp1_0 : Int} (hg1 : ∀ {y0 : GOcc} {r : Bool}, g1 y0 = some r → ai P 229 [.agg [iA y0.From, iA y0.To, tA (qInt y0.Ids)], .iptr [iA cp1_0] 0] [hA, hA] (bA r)) {p0 : List GOcc} {r : Int} (hh : aB.f g1 k p0 = some r) : ai P 230 [tA (qGOcc p0), .clo 229 [.iptr [iA cp1_0] 0]] [hA, hA] (iA r) := by
 unfold aB.f at hh
 refine go (ts := [(4, none)]) (rm := [.own]) (pm := [.skip, .skip]) Tryz.func230 ?_
 unhygienic intros
 cbv
 replace hh := bind_some hh
 obtain ⟨B, t, d⟩ := hh
 refine au hC eok mixed (aB.l0 k g1 p0)
  (fun j => (⟨[(0, tA (qGOcc p0)), (1, .clo 229 [.iptr [iA cp1_0] 0]), (7, iA (cast (len (qGOcc p0)))), (8, iA j)], []⟩ : St))
  (fun (_ : Unit) => (⟨[], []⟩ : St)) .ok (.exit 0)
  (i0 := _) t (fun _ => rfl) ?_ ?_ ?_
 ·rintro C e
  refine ah ?_
  cbv
  all_goals exact J1
 rintro _ hx
 subst B
 have hh := d
 cbv
 exact Eb
 rintro n j F G hh u v w
 unfold aB.l0 at hh
 cbv
 refine bcs (fun b => ?_) (fun b => ?_)
 replace hh := ifT hh b
 try rw [b]
 cbv
 replace hh := aa hh
 obtain ⟨y, hh⟩ := hh
 replace hh := bind_some hh
 obtain ⟨⟨o, p, s⟩, z, hh⟩ := hh
 try dsimp only at hh
 refine ⟨[iA o, iA p, tA (qInt s)], Nb y, Gb z, ?_⟩
 cbv
 replace hh := bind_some hh
 obtain ⟨D, A, hh⟩ := hh
 refine ac hF (hg1 A) ?_
 cbv
 refine bcs (fun c => ?_) (fun c => ?_)
 replace hh := ifT hh c
 try rw [c]
 cbv
 cases hh
 have hh : some _ = some _ := d
 refine w _ _ ?_
 cbv
 exact Eb
 replace hh := ifF hh c
 try rw [c]
 cbv
 ·refine u _ _ hh fun C e => ?_
  refine ah ?_
  cbv
  all_goals exact J1
 replace hh := ifF hh b
 try rw [b]
 cbv
 ·refine v () _ hh fun _ e => ?_
  refine ah ?_
  cbv
  all_goals exact J0

theorem dL {k : Nat} {g1 : GOcc → Option Bool} {cp1_0 : Int} (hg1 : ∀ {y0 : GOcc} {r : Bool}, g1 y0 = some r → ai P 229 [.agg [iA y0.From, iA y0.To, tA (qInt y0.Ids)], .iptr [iA cp1_0] 0] [hA, hA] (bA r)) {p0 : List GOcc} {r : Bool} (hh : aR.f g1 k p0 = some r) : ai P 192 [tA (qGOcc p0), .clo 229 [.iptr [iA cp1_0] 0]] [hA, hA] (bA r) := by
 unfold aR.f at hh
 refine go (ts := [(4, none)]) (rm := [.own]) (pm := [.skip, .skip]) Tryz.func192 ?_
 unhygienic intros
 cbv
 replace hh := bind_some hh
 obtain ⟨c, b, hh⟩ := hh
 refine ac hF (gU hQ (g1 := g1) hg1 b) ?_
 cbv
 exact Eb

theorem tp {k : Nat} {p0 : GNode} {p1 : Int} {p2 : Int} {r : Bool} (hh : hU.f k p0 p1 p2 = some r) : ai P 191 [.agg [iA p0.Kind, iA p0.Sym, iA p0.N, tA (qInt p0.Kids), tA (qGOcc p0.Pair.Left), tA (qGOcc p0.Pair.Right), tA (qGOcc p0.Span.Left), tA (qGOcc p0.Span.Mid), tA (qGOcc p0.Due), iA p0.Many], iA p1, iA p2] [hA, hA, hA] (bA r) := by
 obtain ⟨p0a, p0b, p0c, p0d, ⟨p0e, p0f⟩, ⟨p0g, p0h⟩, p0i, p0j⟩ := p0
 unfold hU.f at hh
 refine go (ts := [(6, none)]) (rm := [.own]) (pm := [.skip, .skip, .skip]) Tryz.func191 ?_
 unhygienic intros
 cbv
 replace hh := bind_some hh
 obtain ⟨K, h1, hh⟩ := hh
 refine ac hF (oC hQ h1) ?_
 cbv
 replace hh := az hh
 rcases hh with ⟨I, hh⟩ | ⟨I, hh⟩
 have D : K = true := Tb I
 have g := D; cbv at g; try rw [D]
 try rw [g]
 cbv
 replace hh := bind_some hh
 obtain ⟨L, h6, hh⟩ := hh
 refine ac hF (qM hQ h6) ?_
 cbv
 replace hh := az hh
 rcases hh with ⟨J, hh⟩ | ⟨J, hh⟩
 have c : (eq (cast (len (qInt p0d))) L) = true := Tb J
 have g := c; cbv at g; try rw [c]
 try rw [g]
 cbv
 replace hh := bind_some hh
 obtain ⟨B3, M, hh⟩ := hh
 refine ac hF (ir hQ (g1 := fun y0 => dX.f y0 p1) (fun h => rk hQ h) M) ?_
 cbv
 refine bcs (fun d => ?_) (fun d => ?_)
 replace hh := ifT hh d
 try rw [d]
 cbv
 exact Eb
 replace hh := ifF hh d
 try rw [d]
 cbv
 refine bcs (fun b => ?_) (fun b => ?_)
 replace hh := ifT hh b
 try rw [b]
 cbv
 replace hh := bind_some hh
 obtain ⟨H, O, hh⟩ := hh
 refine ac hF (bp hQ O) ?_
 cbv
 replace hh := az hh
 rcases hh with ⟨F, hh⟩ | ⟨F, hh⟩
 have j : H = true := Tb F
 have g := j; cbv at g; try rw [j]
 try rw [g]
 cbv
 first | rw [b] | (have g := b; cbv at g; rw [g])
 cbv
 replace hh := bind_some hh
 obtain ⟨Ce, Q, hh⟩ := hh
 refine ac hF (im hQ Q) ?_
 cbv
 refine bcs (fun o => ?_) (fun o => ?_)
 replace hh := ifT hh o
 try rw [o]
 cbv
 replace hh := bind_some hh
 obtain ⟨Cj, R, hh⟩ := hh
 refine ac hF (bp hQ R) ?_
 cbv
 refine bcs (fun p => ?_) (fun p => ?_)
 replace hh := ifT hh p
 try rw [p]
 cbv
 replace hh := bind_some hh
 obtain ⟨Ck, S, hh⟩ := hh
 refine ac hF (oz hQ S) ?_
 cbv
 refine bcs (fun s => ?_) (fun s => ?_)
 replace hh := ifT hh s
 try rw [s]
 cbv
 replace hh := bind_some hh
 obtain ⟨Cm, T, hh⟩ := hh
 refine ac hF (oH hQ T) ?_
 cbv
 refine bcs (fun t => ?_) (fun t => ?_)
 replace hh := ifT hh t
 try rw [t]
 cbv
 replace hh := bind_some hh
 obtain ⟨Cn, U, hh⟩ := hh
 refine ac hF (eT hQ U) ?_
 cbv
 refine bcs (fun u => ?_) (fun u => ?_)
 replace hh := ifT hh u
 try rw [u]
 cbv
 replace hh := bind_some hh
 obtain ⟨Co, V, hh⟩ := hh
 refine ac hF (dL hQ (g1 := fun y0 => c9.f y0 p2) (fun h => lT hQ h) V) ?_
 cbv
 exact Eb
 replace hh := ifF hh u
 try rw [u]
 cbv
 exact Eb
 replace hh := ifF hh t
 try rw [t]
 cbv
 exact Eb
 replace hh := ifF hh s
 try rw [s]
 cbv
 exact Eb
 replace hh := ifF hh p
 try rw [p]
 cbv
 exact Eb
 replace hh := ifF hh o
 try rw [o]
 cbv
 exact Eb
 have j : H = false := Fb F
 have g := j; cbv at g; try rw [j]
 try rw [g]
 cbv
 exact Eb
 replace hh := ifF hh b
 try rw [b]
 cbv
 first | rw [b] | (have g := b; cbv at g; rw [g])
 cbv
 replace hh := az hh
 rcases hh with ⟨G, hh⟩ | ⟨G, hh⟩
 have v : (eq p0c 0) = true := Tb G
 have g := v; cbv at g; try rw [v]
 try rw [g]
 cbv
 refine bcs (fun w => ?_) (fun w => ?_)
 replace hh := ifT hh w
 try rw [w]
 cbv
 exact Eb
 replace hh := ifF hh w
 try rw [w]
 cbv
 replace hh := bind_some hh
 obtain ⟨Cp, W, hh⟩ := hh
 refine ac hF (im hQ W) ?_
 cbv
 refine bcs (fun y => ?_) (fun y => ?_)
 replace hh := ifT hh y
 try rw [y]
 cbv
 replace hh := bind_some hh
 obtain ⟨Cq, X, hh⟩ := hh
 refine ac hF (bp hQ X) ?_
 cbv
 refine bcs (fun z => ?_) (fun z => ?_)
 replace hh := ifT hh z
 try rw [z]
 cbv
 replace hh := bind_some hh
 obtain ⟨Cs, Y, hh⟩ := hh
 refine ac hF (oz hQ Y) ?_
 cbv
 refine bcs (fun A => ?_) (fun A => ?_)
 replace hh := ifT hh A
 try rw [A]
 cbv
 replace hh := bind_some hh
 obtain ⟨Ct, Z, hh⟩ := hh
 refine ac hF (oH hQ Z) ?_
 cbv
 refine bcs (fun B => ?_) (fun B => ?_)
 replace hh := ifT hh B
 try rw [B]
 cbv
 replace hh := bind_some hh
 obtain ⟨Cw, dv, hh⟩ := hh
 refine ac hF (eT hQ dv) ?_
 cbv
 refine bcs (fun C => ?_) (fun C => ?_)
 replace hh := ifT hh C
 try rw [C]
 cbv
 replace hh := bind_some hh
 obtain ⟨Cy, xI, hh⟩ := hh
 refine ac hF (dL hQ (g1 := fun y0 => c9.f y0 p2) (fun h => lT hQ h) xI) ?_
 cbv
 exact Eb
 replace hh := ifF hh C
 try rw [C]
 cbv
 exact Eb
 replace hh := ifF hh B
 try rw [B]
 cbv
 exact Eb
 replace hh := ifF hh A
 try rw [A]
 cbv
 exact Eb
 replace hh := ifF hh z
 try rw [z]
 cbv
 exact Eb
 replace hh := ifF hh y
 try rw [y]
 cbv
 exact Eb
 have v : (eq p0c 0) = false := Fb G
 have g := v; cbv at g; try rw [v]
 try rw [g]
 cbv
 exact Eb
 have c : (eq (cast (len (qInt p0d))) L) = false := Fb J
 have g := c; cbv at g; try rw [c]
 try rw [g]
 cbv
 exact Eb
 have D : K = false := Fb I
 have g := D; cbv at g; try rw [D]
 try rw [g]
 cbv
 exact Eb

theorem tI {k : Nat} {p0 : GGraph} {r : Bool} (hh : cC.f k p0 = some r) : ai P 146 [.agg [iA p0.Mode, tA (qGNode p0.Nodes), iA p0.Seen, iA p0.Now, bA p0.Full]] [hA] (bA r) := by
 obtain ⟨p0a, p0b, p0c, p0d, p0e⟩ := p0
 unfold cC.f at hh
 refine go (ts := [(2, none)]) (rm := [.own]) (pm := [.skip]) Tryz.func146 ?_
 unhygienic intros
 cbv
 replace hh := bind_some hh
 obtain ⟨T, H, s⟩ := hh
 refine au hC eok mixed (cC.l0 k (⟨p0a, p0b, p0c, p0d, p0e⟩ : GGraph))
  (fun t => (⟨[(1, .mptr (1, 0) 1 0 0), (6, tA (qGNode p0b)), (7, iA (cast (len (qGNode p0b)))), (8, iA t)], [((1, 0), .box 1 [iA p0a, tA (qGNode p0b), iA p0c, iA p0d, bA p0e])]⟩ : St))
  (fun (_ : Unit) => (⟨[(1, .mptr (1, 0) 1 0 0)], [((1, 0), .box 1 [iA p0a, tA (qGNode p0b), iA p0c, iA p0d, bA p0e])]⟩ : St)) .ok (.exit 0)
  (i0 := _) H (fun _ => rfl) ?_ ?_ ?_
 ·rintro U e
  refine ah ?_
  cbv
  all_goals exact J1
 rintro _ hx
 subst T
 have hh := s
 cbv
 replace hh := bind_some hh
 obtain ⟨V, I, hh⟩ := hh
 refine ac hF (kU hQ I) ?_
 cbv
 refine bcs (fun b => ?_) (fun b => ?_)
 replace hh := ifT hh b
 try rw [b]
 cbv
 replace hh := bind_some hh
 obtain ⟨W, J, hh⟩ := hh
 refine ac hF (bp hQ J) ?_
 cbv
 refine bcs (fun c => ?_) (fun c => ?_)
 replace hh := ifT hh c
 try rw [c]
 cbv
 replace hh := bind_some hh
 obtain ⟨X, K, hh⟩ := hh
 refine ac hF (bp hQ K) ?_
 cbv
 refine bcs (fun d => ?_) (fun d => ?_)
 replace hh := ifT hh d
 try rw [d]
 cbv
 replace hh := bind_some hh
 obtain ⟨Y, L, hh⟩ := hh
 refine ac hF (bp hQ L) ?_
 cbv
 exact Eb
 replace hh := ifF hh d
 try rw [d]
 cbv
 exact Eb
 replace hh := ifF hh c
 try rw [c]
 cbv
 exact Eb
 replace hh := ifF hh b
 try rw [b]
 cbv
 exact Eb
 rintro n t Z D1 hh M N O
 unfold cC.l0 at hh
 cbv
 refine bcs (fun j => ?_) (fun j => ?_)
 replace hh := ifT hh j
 try rw [j]
 cbv
 replace hh := aa hh
 obtain ⟨Q, hh⟩ := hh
 replace hh := bind_some hh
 obtain ⟨⟨v, w, y, z, ⟨A, B⟩, ⟨C, D⟩, F, G⟩, R, hh⟩ := hh
 try dsimp only at hh
 refine ⟨[iA v, iA w, iA y, tA (qInt z), tA (qGOcc A), tA (qGOcc B), tA (qGOcc C), tA (qGOcc D), tA (qGOcc F), iA G], Nb Q, Gb R, ?_⟩
 cbv
 replace hh := bind_some hh
 obtain ⟨u, S, hh⟩ := hh
 refine ac hF (tp hQ S) ?_
 cbv
 replace hh := az hh
 rcases hh with ⟨p, hh⟩ | ⟨p, hh⟩
 have o : u = true := Tb p
 have g := o; cbv at g; try rw [o]
 try rw [g]
 cbv
 ·refine M _ _ hh fun U e => ?_
  refine ah ?_
  cbv
  all_goals exact J1
 have o : u = false := Fb p
 have g := o; cbv at g; try rw [o]
 try rw [g]
 cbv
 cases hh
 have hh : some _ = some _ := s
 refine O _ _ ?_
 cbv
 exact Eb
 replace hh := ifF hh j
 try rw [j]
 cbv
 ·refine N () _ hh fun _ e => ?_
  refine ah ?_
  cbv
  all_goals exact J0

theorem rZ {p0 : List GEv} {r : Int} (hh : iv.f p0 = some r) : ai P 142 [tA (qGEv p0)] [hA] (iA r) := by
 unfold iv.f at hh
 refine go (ts := [(2, none)]) (rm := [.own]) (pm := [.skip]) Tryz.func142 ?_
 unhygienic intros
 cbv
 refine bcs (fun b => ?_) (fun b => ?_)
 replace hh := ifT hh b
 try rw [b]
 cbv
 exact Eb
 replace hh := ifF hh b
 try rw [b]
 cbv
 replace hh := aa hh
 obtain ⟨o, hh⟩ := hh
 replace hh := bind_some hh
 obtain ⟨⟨c, d, j⟩, p, hh⟩ := hh
 try dsimp only at hh
 refine ⟨[iA c, iA d, iA j], Nb o, Gb p, ?_⟩
 cbv
 exact Eb
theorem vf {p0 : List GEv} {r : Int} (hh : iv.f p0 = some r) : ai P 142 [oA 3 (qGEv p0)] [oA 3 (qGEv p0)] (iA r) := by
  cases hQ; exact (rZ .mk hh).lend (rfl) (.lend (congrArg A.tree (oj _).symm) .nil)

theorem jC {p0 : GOcc} {r : Int} (hh : dp.f p0 = some r) : ai P 95 [.agg [iA p0.From, iA p0.To, tA (qInt p0.Ids)]] [hA] (iA r) := by
 obtain ⟨p0a, p0b, p0c⟩ := p0
 unfold dp.f at hh
 refine go (ts := [(2, none)]) (rm := [.own]) (pm := [.skip]) Tryz.func95 ?_
 unhygienic intros
 cbv
 replace hh := aa hh
 obtain ⟨b, hh⟩ := hh
 try dsimp only at b
 replace hh := bind_some hh
 obtain ⟨c, d, hh⟩ := hh
 refine ⟨[iA c], Nb b, Gb d, ?_⟩
 cbv
 exact Eb

theorem pc {p0 : GOcc} {c0 : GEng} {r : Bool} (hh : dY.f p0 c0 = some r) : ai P 193 [.agg [iA p0.From, iA p0.To, tA (qInt p0.Ids)], .iptr [tA (qGRule c0.Rules), tA (qGGraph c0.Graphs), tA (qGEv c0.Events), tA (qInt c0.Keys), tA (qGFire c0.Fired)] 0] [hA, hA] (bA r) := by
 obtain ⟨p0a, p0b, p0c⟩ := p0
 obtain ⟨c0a, c0b, c0c, c0d, c0e⟩ := c0
 unfold dY.f at hh
 refine go (ts := [(3, none)]) (rm := [.own]) (pm := [.skip, .skip]) Tryz.func193 ?_
 unhygienic intros
 cbv
 replace hh := bind_some hh
 obtain ⟨c, b, hh⟩ := hh
 refine ac hF (jC hQ b) ?_
 cbv
 exact Eb

theorem gv {k : Nat} {g1 : GOcc → Option Bool} {cp1_0 : GEng} (hg1 : ∀ {y0 : GOcc} {r : Bool}, g1 y0 = some r → ai P 193 [.agg [iA y0.From, iA y0.To, tA (qInt y0.Ids)], .iptr [tA (qGRule cp1_0.Rules), tA (qGGraph cp1_0.Graphs), tA (qGEv cp1_0.Events), tA (qInt cp1_0.Keys), tA (qGFire cp1_0.Fired)] 0] [hA, hA] (bA r)) {p0 : List GOcc} {r : Int} (hh : aB.f g1 k p0 = some r) : ai P 230 [tA (qGOcc p0), .clo 193 [.iptr [tA (qGRule cp1_0.Rules), tA (qGGraph cp1_0.Graphs), tA (qGEv cp1_0.Events), tA (qInt cp1_0.Keys), tA (qGFire cp1_0.Fired)] 0]] [hA, hA] (iA r) := by
 obtain ⟨cp1_0a, cp1_0b, cp1_0c, cp1_0d, cp1_0e⟩ := cp1_0
 unfold aB.f at hh
 refine go (ts := [(4, none)]) (rm := [.own]) (pm := [.skip, .skip]) Tryz.func230 ?_
 unhygienic intros
 cbv
 replace hh := bind_some hh
 obtain ⟨B, t, d⟩ := hh
 refine au hC eok mixed (aB.l0 k g1 p0)
  (fun j => (⟨[(0, tA (qGOcc p0)), (1, .clo 193 [.iptr [tA (qGRule cp1_0a), tA (qGGraph cp1_0b), tA (qGEv cp1_0c), tA (qInt cp1_0d), tA (qGFire cp1_0e)] 0]), (7, iA (cast (len (qGOcc p0)))), (8, iA j)], []⟩ : St))
  (fun (_ : Unit) => (⟨[], []⟩ : St)) .ok (.exit 0)
  (i0 := _) t (fun _ => rfl) ?_ ?_ ?_
 ·rintro C e
  refine ah ?_
  cbv
  all_goals exact J1
 rintro _ hx
 subst B
 have hh := d
 cbv
 exact Eb
 rintro n j F G hh u v w
 unfold aB.l0 at hh
 cbv
 refine bcs (fun b => ?_) (fun b => ?_)
 replace hh := ifT hh b
 try rw [b]
 cbv
 replace hh := aa hh
 obtain ⟨y, hh⟩ := hh
 replace hh := bind_some hh
 obtain ⟨⟨o, p, s⟩, z, hh⟩ := hh
 try dsimp only at hh
 refine ⟨[iA o, iA p, tA (qInt s)], Nb y, Gb z, ?_⟩
 cbv
 replace hh := bind_some hh
 obtain ⟨D, A, hh⟩ := hh
 refine ac hF (hg1 A) ?_
 cbv
 refine bcs (fun c => ?_) (fun c => ?_)
 replace hh := ifT hh c
 try rw [c]
 cbv
 cases hh
 have hh : some _ = some _ := d
 refine w _ _ ?_
 cbv
 exact Eb
 replace hh := ifF hh c
 try rw [c]
 cbv
 ·refine u _ _ hh fun C e => ?_
  refine ah ?_
  cbv
  all_goals exact J1
 replace hh := ifF hh b
 try rw [b]
 cbv
 ·refine v () _ hh fun _ e => ?_
  refine ah ?_
  cbv
  all_goals exact J0

theorem fN {k : Nat} {g1 : GOcc → Option Bool} {cp1_0 : GEng} (hg1 : ∀ {y0 : GOcc} {r : Bool}, g1 y0 = some r → ai P 193 [.agg [iA y0.From, iA y0.To, tA (qInt y0.Ids)], .iptr [tA (qGRule cp1_0.Rules), tA (qGGraph cp1_0.Graphs), tA (qGEv cp1_0.Events), tA (qInt cp1_0.Keys), tA (qGFire cp1_0.Fired)] 0] [hA, hA] (bA r)) {p0 : List GOcc} {r : Bool} (hh : aR.f g1 k p0 = some r) : ai P 192 [tA (qGOcc p0), .clo 193 [.iptr [tA (qGRule cp1_0.Rules), tA (qGGraph cp1_0.Graphs), tA (qGEv cp1_0.Events), tA (qInt cp1_0.Keys), tA (qGFire cp1_0.Fired)] 0]] [hA, hA] (bA r) := by
 obtain ⟨cp1_0a, cp1_0b, cp1_0c, cp1_0d, cp1_0e⟩ := cp1_0
 unfold aR.f at hh
 refine go (ts := [(4, none)]) (rm := [.own]) (pm := [.skip, .skip]) Tryz.func192 ?_
 unhygienic intros
 cbv
 replace hh := bind_some hh
 obtain ⟨c, b, hh⟩ := hh
 refine ac hF (gv hQ (g1 := g1) hg1 b) ?_
 cbv
 exact Eb

end Go.Proofs.YtlbnmldopjadoaaGreat
