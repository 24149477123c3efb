/- The functions of this program do what the plain ones do. -/
import Derived.Test.YtlbnmldopjadoaaGreatN
import Derived.Test.YtlbnmldopjadoaaGreatVE
import Derived.Test.YtlbnmldopjadoaaGreatX
namespace Go.Proofs.YtlbnmldopjadoaaGreat
open Go Go.Vm
set_option linter.unusedVariables false
set_option maxHeartbeats 4000000
set_option maxRecDepth 4000
noncomputable abbrev P : Program := Tryz.prog
variable {qIu8 : List Int → Vm.Rows} {qGEx : List GEx → Vm.Rows} {qGRule : List GRule → Vm.Rows} {qStr : List ByteArray → Vm.Rows} {qInt : List Int → Vm.Rows} {qGExO : List GEx → Vm.Rows} {qGOcc : List GOcc → Vm.Rows} {qGNode : List GNode → Vm.Rows} {qGGraphS : List GGraph → Vm.Rows} {qGGraph : List GGraph → Vm.Rows} {qGEv : List GEv → Vm.Rows} {qGFire : List GFire → Vm.Rows} {qLGOcc : List (List GOcc) → Vm.Rows} {qGOccO : List GOcc → Vm.Rows} {qLInt : List (List Int) → Vm.Rows} (hQ : EQ qIu8 qGEx qGRule qStr qInt qGExO qGOcc qGNode qGGraphS qGGraph qGEv qGFire qLGOcc qGOccO qLInt)
include hQ
theorem tn {p0 : List Int} {r : Gl14Rd} (hh : gS.f p0 = some r) : ah P 48 [tA (qIu8 p0)] [hA] (.obox [tA (qIu8 r.b), iA r.p]) := by
 unfold gS.f at hh
 refine go (ts := [(2, none)]) (rm := [.own]) (pm := [.skip]) Tryz.func48 ?_
 intro Fn LW IN len cast toNat wrap add sub mul bin lt eq At set part app fz' rep nadd nmax ssize sext sget scat seq slt Wide Flat Ones Room r' post' hC hF hr hp
 cbv
 refine bcs (fun c => ?_) (fun c => ?_)
 replace hh := ifT hh c
 try rw [c]
 cbv
 replace hh := aa hh
 obtain ⟨d, hh⟩ := hh
 replace hh := aa hh
 obtain ⟨j, hh⟩ := hh
 replace hh := aa hh
 obtain ⟨o, hh⟩ := hh
 refine ⟨⟨Nb d, Nb j, Nb o, Ab⟩, ?_⟩
 exact Eb
 replace hh := ifF hh c
 try rw [c]
 cbv
 exact Eb

theorem bE {p0 : Gl14Rd} {p1 : Int} {r : Int × Gl14Rd} (hh : aY.f p0 p1 = some r) : ah P 117 [.obox [tA (qIu8 p0.b), iA p0.p], iA p1] [.obox [tA (qIu8 r.2.b), iA r.2.p], hA] (iA r.1) := by
 obtain ⟨p0a, p0b⟩ := p0
 unfold aY.f at hh
 refine go (ts := [(4, none)]) (rm := [.own]) (pm := [.own, .skip]) Tryz.func117 ?_
 intro Fn LW IN len cast toNat wrap add sub mul bin lt eq At set part app fz' rep nadd nmax ssize sext sget scat seq slt Wide Flat Ones Room r' post' hC hF hr hp
 cbv
 refine bcs (fun c => ?_) (fun c => ?_)
 replace hh := ifT hh c
 try rw [c]
 cbv
 exact Eb
 replace hh := ifF hh c
 try rw [c]
 cbv
 refine bcs (fun d => ?_) (fun d => ?_)
 replace hh := ifT hh d
 try rw [d]
 cbv
 exact Eb
 replace hh := ifF hh d
 try rw [d]
 cbv
 refine bcs (fun j => ?_) (fun j => ?_)
 replace hh := ifT hh j
 try rw [j]
 cbv
 replace hh := aa hh
 obtain ⟨w, hh⟩ := hh
 try dsimp only at w
 replace hh := bind_some hh
 obtain ⟨F, G, hh⟩ := hh
 refine ⟨[.lit (.int .u8 F)], Nb w, Gb G, ?_⟩
 cbv
 replace hh := aa hh
 obtain ⟨y, hh⟩ := hh
 refine ⟨Wb y, ?_⟩
 exact Eb
 replace hh := ifF hh j
 try rw [j]
 cbv
 replace hh := aa hh
 obtain ⟨o, hh⟩ := hh
 try dsimp only at o
 refine ⟨Wb o, ?_⟩
 replace hh := aa hh
 obtain ⟨s, hh⟩ := hh
 try dsimp only at s
 replace hh := bind_some hh
 obtain ⟨z, A, hh⟩ := hh
 refine ⟨[.lit (.int .u8 z)], Nb s, Gb A, ?_⟩
 cbv
 replace hh := aa hh
 obtain ⟨t, hh⟩ := hh
 try dsimp only at t
 refine ⟨Wb t, ?_⟩
 replace hh := aa hh
 obtain ⟨u, hh⟩ := hh
 try dsimp only at u
 replace hh := bind_some hh
 obtain ⟨B, C, hh⟩ := hh
 refine ⟨[.lit (.int .u8 B)], Nb u, Gb C, ?_⟩
 cbv
 replace hh := aa hh
 obtain ⟨v, hh⟩ := hh
 try dsimp only at v
 refine ⟨Wb v, ?_⟩
 replace hh := aa hh
 obtain ⟨D, hh⟩ := hh
 refine ⟨Wb D, ?_⟩
 exact Eb

theorem aT {p0 : Gl14Rd} {p1 : List Int} {r : Int × Gl14Rd} (hh : aG.f p0 p1 = some r) : ah P 101 [.obox [tA (qIu8 p0.b), iA p0.p], tA (qInt p1)] [.obox [tA (qIu8 r.2.b), iA r.2.p], hA] (iA r.1) := by
 obtain ⟨p0a, p0b⟩ := p0
 unfold aG.f at hh
 refine go (ts := [(4, none)]) (rm := [.own]) (pm := [.own, .skip]) Tryz.func101 ?_
 intro Fn LW IN len cast toNat wrap add sub mul bin lt eq At set part app fz' rep nadd nmax ssize sext sget scat seq slt Wide Flat Ones Room r' post' hC hF hr hp
 cbv
 replace hh := bind_some hh
 obtain ⟨⟨o, ⟨d, j⟩⟩, s, hh⟩ := hh
 try dsimp only at hh
 have fc := bE hQ s
 try dsimp only at fc
 refine ac hF fc ?_
 cbv
 replace hh := aa hh
 obtain ⟨c, hh⟩ := hh
 try dsimp only at c
 replace hh := bind_some hh
 obtain ⟨t, u, hh⟩ := hh
 refine ⟨[iA t], Nb c, Gb u, ?_⟩
 cbv
 exact Eb

theorem kL {p0 : Int} {r : Int} (hh : fe.f p0 = some r) : ah P 120 [iA p0] [hA] (iA r) := by
 unfold fe.f at hh
 refine go (ts := [(2, none)]) (rm := [.own]) (pm := [.skip]) Tryz.func120 ?_
 intro Fn LW IN len cast toNat wrap add sub mul bin lt eq At set part app fz' rep nadd nmax ssize sext sget scat seq slt Wide Flat Ones Room r' post' hC hF hr hp
 cbv
 refine bcs (fun j => ?_) (fun j => ?_)
 replace hh := ifT hh j
 try rw [j]
 cbv
 exact Eb
 replace hh := ifF hh j
 try rw [j]
 cbv
 refine bcs (fun o => ?_) (fun o => ?_)
 replace hh := ifT hh o
 try rw [o]
 cbv
 exact Eb
 replace hh := ifF hh o
 try rw [o]
 cbv
 refine bcs (fun p => ?_) (fun p => ?_)
 replace hh := ifT hh p
 try rw [p]
 cbv
 exact Eb
 replace hh := ifF hh p
 try rw [p]
 cbv
 refine bcs (fun s => ?_) (fun s => ?_)
 replace hh := ifT hh s
 try rw [s]
 cbv
 exact Eb
 replace hh := ifF hh s
 try rw [s]
 cbv
 refine bcs (fun b => ?_) (fun b => ?_)
 replace hh := ifT hh b
 try rw [b]
 cbv
 exact Eb
 replace hh := ifF hh b
 try rw [b]
 cbv
 refine bcs (fun c => ?_) (fun c => ?_)
 replace hh := ifT hh c
 try rw [c]
 cbv
 exact Eb
 replace hh := ifF hh c
 try rw [c]
 cbv
 refine bcs (fun d => ?_) (fun d => ?_)
 replace hh := ifT hh d
 try rw [d]
 cbv
 exact Eb
 replace hh := ifF hh d
 try rw [d]
 cbv
 exact Eb

theorem Ah : ∀ k : Nat, (∀ {p0 : Gl14Rd} {p1 : Int} {r : GEx × Gl14Rd}, aW.f k p0 p1 = some r → ah P 138 [.obox [tA (qIu8 p0.b), iA p0.p], iA p1] [.obox [tA (qIu8 r.2.b), iA r.2.p], hA] (.agg [iA r.1.Kind, iA r.1.Sym, iA r.1.N, oA 4 (qGExO r.1.Kids)])) := by
  intro k
  induction k using Nat.strongRecOn with
  | _ k ih =>
  · intro p0 p1 r hh
    cases k with
    | zero => unfold aW.f at hh; cases hh
    | succ k =>
    obtain ⟨p0a, p0b⟩ := p0
    unfold aW.f at hh
    refine go (ts := [(4, some 25)]) (rm := [.own]) (pm := [.own, .skip]) Tryz.func138 ?_
    intro Fn LW IN len cast toNat wrap add sub mul bin lt eq At set part app fz' rep nadd nmax ssize sext sget scat seq slt Wide Flat Ones Room r' post' hC hF hr hp
    cbv
    replace hh := aD hh
    rcases hh with ⟨U, hh⟩ | ⟨U, hh⟩
    have t : (lt 1 p1) = true := Tb U
    have g := t; cbv at g; try rw [t]
    try rw [g]
    cbv
    replace hh := bind_some hh
    obtain ⟨⟨Cx, ⟨Cm, Cn⟩⟩, h3, hh⟩ := hh
    try dsimp only at hh
    have fc := bE hQ h3
    try dsimp only at fc
    refine ac hF fc ?_
    cbv
    refine bcs (fun u => ?_) (fun u => ?_)
    replace hh := ifT hh u
    try rw [u]
    cbv
    replace hh := bind_some hh
    obtain ⟨⟨Cz, ⟨Cq, Cv⟩⟩, h8, hh⟩ := hh
    try dsimp only at hh
    refine ⟨Ob, ?_⟩
    have fc := aT hQ h8
    try dsimp only at fc
    refine ac hF fc ?_
    cbv
    refine ⟨4, ?_⟩
    cbv
    exact Eb
    replace hh := ifF hh u
    try rw [u]
    cbv
    replace hh := bind_some hh
    obtain ⟨⟨c, ⟨X, Y⟩⟩, Z, hh⟩ := hh
    try dsimp only at hh
    refine ⟨Ob, ?_⟩
    have fc := aT hQ Z
    try dsimp only at fc
    refine ac hF fc ?_
    cbv
    refine bcs (fun d => ?_) (fun d => ?_)
    replace hh := ifT hh d
    try rw [d]
    cbv
    replace hh := bind_some hh
    obtain ⟨⟨s, ⟨dj, xm⟩⟩, AU, hh⟩ := hh
    try dsimp only at hh
    refine ⟨Ob, ?_⟩
    have fc := aT hQ AU
    try dsimp only at fc
    refine ac hF fc ?_
    cbv
    replace hh := bind_some hh
    obtain ⟨CD, Bz, hh⟩ := hh
    refine ac hF (kL hQ Bz) ?_
    cbv
    replace hh := bind_some hh
    obtain ⟨V, v, w⟩ := hh
    refine au hC eok mixed (fun n (i : (List Int) × Int × (List GEx) × Int) => aW.l0 k (aW.f k) p1 n i.1 i.2.1 i.2.2.1 i.2.2.2)
     (fun ⟨I, J, y, K⟩ => (⟨[(0, .mptr (0, 0) 1 0 0), (1, iA p1), (4, .mptr (4, 0) 1 0 0), (5, .mptr (5, 0) 1 0 0), (6, iA K), (1000000, .mptr (0, 0) 1 0 0)], [((0, 0), .box 1 [tA (qIu8 I), iA J]), ((4, 0), .box 1 [iA 0, iA 0, iA 0, .lit (.slice none 0 0)]), ((5, 0), .box 1 [iA c, iA 0, iA s, .ref (5, 53) 1 0 (len (qGExO y))]), ((5, 53), .arr 1 4 (qGExO y))]⟩ : St))
     (fun (⟨z, L, M⟩ : (List GEx) × (List Int) × Int) => (⟨[(4, .mptr (4, 0) 1 0 0), (5, .mptr (5, 0) 1 0 0), (1000000, .mptr (0, 0) 1 0 0)], [((0, 0), .box 1 [tA (qIu8 L), iA M]), ((4, 0), .box 1 [iA 0, iA 0, iA 0, .lit (.slice none 0 0)]), ((5, 0), .box 1 [iA c, iA 0, iA s, .ref (5, 53) 1 0 (len (qGExO z))]), ((5, 53), .arr 1 4 (qGExO z))]⟩ : St)) (fun x => x) (.exit 0)
     (i0 := (_, _, _, _)) v (fun _ => rfl) ?_ ?_ ?_
    ·rintro ⟨A, B, C, W⟩ e
     refine aw [((0, 0), (0, 0)), ((4, 0), (4, 0)), ((5, 0), (5, 0))] ?_
     cbv
     all_goals exact J4
    rintro ⟨z, L, M⟩ hx
    subst V
    have hh := w
    cbv
    exact Eb
    rintro n ⟨I, J, y, K⟩ N1 D1 hh D F BB
    try dsimp only at hh
    unfold aW.l0 at hh
    cbv
    refine bcs (fun j => ?_) (fun j => ?_)
    replace hh := ifT hh j
    try rw [j]
    cbv
    replace hh := bind_some hh
    obtain ⟨⟨⟨BL, BR, BS, BU⟩, ⟨BV, BW⟩⟩, BX, hh⟩ := hh
    try dsimp only at hh
    have fc := (ih k (Nat.lt_succ_self k)) BX
    try dsimp only at fc
    refine ac hF fc ?_
    cbv
    replace hh := aa hh
    obtain ⟨BY, hh⟩ := hh
    refine ⟨⟨Ob, Ab⟩, ?_⟩
    refine ⟨⟨Ob, Wb BY⟩, ?_⟩
    ·refine D (_, _, _, _) _ hh fun ⟨A, B, C, W⟩ e => ?_
     refine aw [((0, 0), (0, 0)), ((4, 0), (4, 0)), ((5, 0), (5, 0)), ((5, 53), (43, 0))] ?_
     cbv
     all_goals exact J4
    replace hh := ifF hh j
    try rw [j]
    cbv
    ·refine F (_, _, _) _ hh fun ⟨A, B, C⟩ e => ?_
     refine ai ?_
     cbv
     all_goals exact J3
    replace hh := ifF hh d
    try rw [d]
    cbv
    replace hh := bind_some hh
    obtain ⟨CE, B0, hh⟩ := hh
    refine ac hF (kL hQ B0) ?_
    cbv
    replace hh := bind_some hh
    obtain ⟨V, v, w⟩ := hh
    refine au hC eok mixed (fun n (i : (List Int) × Int × (List GEx) × Int) => aW.l1 k (aW.f k) p1 n i.1 i.2.1 i.2.2.1 i.2.2.2)
     (fun ⟨O, Q, G, R⟩ => (⟨[(0, .mptr (0, 0) 1 0 0), (1, iA p1), (4, .mptr (4, 0) 1 0 0), (5, .mptr (5, 0) 1 0 0), (6, iA R), (1000000, .mptr (0, 0) 1 0 0)], [((0, 0), .box 1 [tA (qIu8 O), iA Q]), ((4, 0), .box 1 [iA 0, iA 0, iA 0, .lit (.slice none 0 0)]), ((5, 0), .box 1 [iA c, iA 0, iA 0, .ref (5, 53) 1 0 (len (qGExO G))]), ((5, 53), .arr 1 4 (qGExO G))]⟩ : St))
     (fun (⟨H, S, T⟩ : (List GEx) × (List Int) × Int) => (⟨[(4, .mptr (4, 0) 1 0 0), (5, .mptr (5, 0) 1 0 0), (1000000, .mptr (0, 0) 1 0 0)], [((0, 0), .box 1 [tA (qIu8 S), iA T]), ((4, 0), .box 1 [iA 0, iA 0, iA 0, .lit (.slice none 0 0)]), ((5, 0), .box 1 [iA c, iA 0, iA 0, .ref (5, 53) 1 0 (len (qGExO H))]), ((5, 53), .arr 1 4 (qGExO H))]⟩ : St)) (fun x => x) (.exit 0)
     (i0 := (_, _, _, _)) v (fun _ => rfl) ?_ ?_ ?_
    ·rintro ⟨A, B, C, W⟩ e
     refine aw [((0, 0), (0, 0)), ((4, 0), (4, 0)), ((5, 0), (5, 0))] ?_
     cbv
     all_goals exact J4
    rintro ⟨H, S, T⟩ hx
    subst V
    have hh := w
    cbv
    exact Eb
    rintro n ⟨O, Q, G, R⟩ N1 D1 hh D F BB
    try dsimp only at hh
    unfold aW.l1 at hh
    cbv
    refine bcs (fun o => ?_) (fun o => ?_)
    replace hh := ifT hh o
    try rw [o]
    cbv
    replace hh := bind_some hh
    obtain ⟨⟨⟨B1, B4, B6, B7⟩, ⟨B9, Cc⟩⟩, Cd, hh⟩ := hh
    try dsimp only at hh
    have fc := (ih k (Nat.lt_succ_self k)) Cd
    try dsimp only at fc
    refine ac hF fc ?_
    cbv
    replace hh := aa hh
    obtain ⟨Ce, hh⟩ := hh
    refine ⟨⟨Ob, Ab⟩, ?_⟩
    refine ⟨⟨Ob, Wb Ce⟩, ?_⟩
    ·refine D (_, _, _, _) _ hh fun ⟨A, B, C, W⟩ e => ?_
     refine aw [((0, 0), (0, 0)), ((4, 0), (4, 0)), ((5, 0), (5, 0)), ((5, 53), (43, 0))] ?_
     cbv
     all_goals exact J4
    replace hh := ifF hh o
    try rw [o]
    cbv
    ·refine F (_, _, _) _ hh fun ⟨A, B, C⟩ e => ?_
     refine ai ?_
     cbv
     all_goals exact J3
    have t : (lt 1 p1) = false := Fb U
    have g := t; cbv at g; try rw [t]
    try rw [g]
    cbv
    replace hh := bind_some hh
    obtain ⟨⟨Cw, ⟨Cf, Cg⟩⟩, Ch, hh⟩ := hh
    try dsimp only at hh
    refine ⟨Ob, ?_⟩
    have fc := aT hQ Ch
    try dsimp only at fc
    refine ac hF fc ?_
    cbv
    refine ⟨4, ?_⟩
    cbv
    exact Eb
theorem mA {k : Nat} {p0 : Gl14Rd} {p1 : Int} {r : GEx × Gl14Rd} (hh : aW.f k p0 p1 = some r) : ah P 138 [.obox [tA (qIu8 p0.b), iA p0.p], iA p1] [.obox [tA (qIu8 r.2.b), iA r.2.p], hA] (.agg [iA r.1.Kind, iA r.1.Sym, iA r.1.N, oA 4 (qGExO r.1.Kids)]) := (Ah hQ k) hh


theorem Bv : ∀ k : Nat, (∀ {p0 : GEx} {p1 : Int} {r : Bool}, ax.f k p0 p1 = some r → ah P 53 [.agg [iA p0.Kind, iA p0.Sym, iA p0.N, tA (qGEx p0.Kids)], iA p1] [hA, hA] (bA r)) := by
  intro k
  induction k using Nat.strongRecOn with
  | _ k ih =>
  · intro p0 p1 r hh
    cases k with
    | zero => unfold ax.f at hh; cases hh
    | succ k =>
    obtain ⟨p0a, p0b, p0c, p0d⟩ := p0
    unfold ax.f at hh
    refine go (ts := [(4, none)]) (rm := [.own]) (pm := [.skip, .skip]) Tryz.func53 ?_
    intro Fn LW IN len cast toNat wrap add sub mul bin lt eq At set part app fz' rep nadd nmax ssize sext sget scat seq slt Wide Flat Ones Room r' post' hC hF hr hp
    cbv
    refine bcs (fun T => ?_) (fun T => ?_)
    replace hh := ifT hh T
    try rw [T]
    cbv
    exact Eb
    replace hh := ifF hh T
    try rw [T]
    cbv
    replace hh := bind_some hh
    obtain ⟨x4, h3, hh⟩ := hh
    refine ac hF (kL hQ h3) ?_
    cbv
    replace hh := aD hh
    rcases hh with ⟨b6, hh⟩ | ⟨b6, hh⟩
    have U : (eq x4 (cast (len (qGEx p0d)))) = true := Tb b6
    have g := U; cbv at g; try rw [U]
    try rw [g]
    cbv
    refine bcs (fun V => ?_) (fun V => ?_)
    replace hh := ifT hh V
    try rw [V]
    cbv
    exact Eb
    replace hh := ifF hh V
    try rw [V]
    cbv
    replace hh := aD hh
    rcases hh with ⟨W, hh⟩ | ⟨W, hh⟩
    have z : (lt p0b 5) = true := Tb W
    have g := z; cbv at g; try rw [z]
    try rw [g]
    cbv
    replace hh := aD hh
    rcases hh with ⟨X, hh⟩ | ⟨X, hh⟩
    have A : (eq p0a 1) = true := Tb X
    have g := A; cbv at g; try rw [A]
    try rw [g]
    cbv
    refine bcs (fun c => ?_) (fun c => ?_)
    replace hh := ifT hh c
    try rw [c]
    cbv
    refine bcs (fun B => ?_) (fun B => ?_)
    replace hh := ifT hh B
    try rw [B]
    cbv
    exact Eb
    replace hh := ifF hh B
    try rw [B]
    cbv
    refine bcs (fun C => ?_) (fun C => ?_)
    replace hh := ifT hh C
    try rw [C]
    cbv
    exact Eb
    replace hh := ifF hh C
    try rw [C]
    cbv
    first | rw [c] | (have g := c; cbv at g; rw [g])
    cbv
    replace hh := bind_some hh
    obtain ⟨M, j, b⟩ := hh
    refine au hC eok mixed (ax.l0 k (ax.f k) (⟨p0a, p0b, p0c, p0d⟩ : GEx) p1)
     (fun B1 => (⟨[(1, iA p1), (2, .mptr (2, 0) 1 0 0), (5, iA B1)], [((2, 0), .box 1 [iA p0a, iA p0b, iA p0c, tA (qGEx p0d)])]⟩ : St))
     (fun (_ : Unit) => (⟨[], []⟩ : St)) .ok (.exit 0)
     (i0 := _) j (fun _ => rfl) ?_ ?_ ?_
    ·rintro O e
     refine ai ?_
     cbv
     all_goals exact J1
    rintro _ hx
    subst M
    have hh := b
    cbv
    exact Eb
    rintro n B1 N1 D1 hh o p s
    unfold ax.l0 at hh
    cbv
    refine bcs (fun D => ?_) (fun D => ?_)
    replace hh := ifT hh D
    try rw [D]
    cbv
    replace hh := aa hh
    obtain ⟨CD, hh⟩ := hh
    replace hh := bind_some hh
    obtain ⟨⟨Ce, Cf, Cg, Ch⟩, CE, hh⟩ := hh
    try dsimp only at hh
    refine ⟨[iA Ce, iA Cf, iA Cg, tA (qGEx Ch)], Nb CD, Gb CE, ?_⟩
    cbv
    replace hh := bind_some hh
    obtain ⟨B4, CF, hh⟩ := hh
    refine ac hF ((ih k (Nat.lt_succ_self k)) CF) ?_
    cbv
    replace hh := aD hh
    rcases hh with ⟨Y, hh⟩ | ⟨Y, hh⟩
    have F : B4 = true := Tb Y
    have g := F; cbv at g; try rw [F]
    try rw [g]
    cbv
    ·refine o _ _ hh fun O e => ?_
     refine ai ?_
     cbv
     all_goals exact J1
    have F : B4 = false := Fb Y
    have g := F; cbv at g; try rw [F]
    try rw [g]
    cbv
    cases hh
    have hh : some _ = some _ := b
    refine s _ _ ?_
    cbv
    exact Eb
    replace hh := ifF hh D
    try rw [D]
    cbv
    ·refine p () _ hh fun _ e => ?_
     refine ai ?_
     cbv
     all_goals exact J0
    replace hh := ifF hh c
    try rw [c]
    cbv
    first | rw [c] | (have g := c; cbv at g; rw [g])
    cbv
    replace hh := aD hh
    rcases hh with ⟨Z, hh⟩ | ⟨Z, hh⟩
    have G : (eq p0c 0) = true := Tb Z
    have g := G; cbv at g; try rw [G]
    try rw [g]
    cbv
    replace hh := bind_some hh
    obtain ⟨M, j, b⟩ := hh
    refine au hC eok mixed (ax.l1 k (ax.f k) (⟨p0a, p0b, p0c, p0d⟩ : GEx) p1)
     (fun B6 => (⟨[(1, iA p1), (2, .mptr (2, 0) 1 0 0), (5, iA B6)], [((2, 0), .box 1 [iA p0a, iA p0b, iA p0c, tA (qGEx p0d)])]⟩ : St))
     (fun (_ : Unit) => (⟨[], []⟩ : St)) .ok (.exit 0)
     (i0 := _) j (fun _ => rfl) ?_ ?_ ?_
    ·rintro O e
     refine ai ?_
     cbv
     all_goals exact J1
    rintro _ hx
    subst M
    have hh := b
    cbv
    exact Eb
    rintro n B6 N1 D1 hh o p s
    unfold ax.l1 at hh
    cbv
    refine bcs (fun H => ?_) (fun H => ?_)
    replace hh := ifT hh H
    try rw [H]
    cbv
    replace hh := aa hh
    obtain ⟨CG, hh⟩ := hh
    replace hh := bind_some hh
    obtain ⟨⟨Cm, Cn, Cq, Cv⟩, CH, hh⟩ := hh
    try dsimp only at hh
    refine ⟨[iA Cm, iA Cn, iA Cq, tA (qGEx Cv)], Nb CG, Gb CH, ?_⟩
    cbv
    replace hh := bind_some hh
    obtain ⟨B7, CI, hh⟩ := hh
    refine ac hF ((ih k (Nat.lt_succ_self k)) CI) ?_
    cbv
    replace hh := aD hh
    rcases hh with ⟨dj, hh⟩ | ⟨dj, hh⟩
    have I : B7 = true := Tb dj
    have g := I; cbv at g; try rw [I]
    try rw [g]
    cbv
    ·refine o _ _ hh fun O e => ?_
     refine ai ?_
     cbv
     all_goals exact J1
    have I : B7 = false := Fb dj
    have g := I; cbv at g; try rw [I]
    try rw [g]
    cbv
    cases hh
    have hh : some _ = some _ := b
    refine s _ _ ?_
    cbv
    exact Eb
    replace hh := ifF hh H
    try rw [H]
    cbv
    ·refine p () _ hh fun _ e => ?_
     refine ai ?_
     cbv
     all_goals exact J0
    have G : (eq p0c 0) = false := Fb Z
    have g := G; cbv at g; try rw [G]
    try rw [g]
    cbv
    exact Eb
    have A : (eq p0a 1) = false := Fb X
    have g := A; cbv at g; try rw [A]
    try rw [g]
    cbv
    replace hh := aD hh
    rcases hh with ⟨xm, hh⟩ | ⟨xm, hh⟩
    have J : (eq p0b 0) = true := Tb xm
    have g := J; cbv at g; try rw [J]
    try rw [g]
    cbv
    refine bcs (fun d => ?_) (fun d => ?_)
    replace hh := ifT hh d
    try rw [d]
    cbv
    refine bcs (fun K => ?_) (fun K => ?_)
    replace hh := ifT hh K
    try rw [K]
    cbv
    exact Eb
    replace hh := ifF hh K
    try rw [K]
    cbv
    refine bcs (fun L => ?_) (fun L => ?_)
    replace hh := ifT hh L
    try rw [L]
    cbv
    exact Eb
    replace hh := ifF hh L
    try rw [L]
    cbv
    first | rw [d] | (have g := d; cbv at g; rw [g])
    cbv
    replace hh := bind_some hh
    obtain ⟨M, j, b⟩ := hh
    refine au hC eok mixed (ax.l2 k (ax.f k) (⟨p0a, p0b, p0c, p0d⟩ : GEx) p1)
     (fun AU => (⟨[(1, iA p1), (2, .mptr (2, 0) 1 0 0), (5, iA AU)], [((2, 0), .box 1 [iA p0a, iA p0b, iA p0c, tA (qGEx p0d)])]⟩ : St))
     (fun (_ : Unit) => (⟨[], []⟩ : St)) .ok (.exit 0)
     (i0 := _) j (fun _ => rfl) ?_ ?_ ?_
    ·rintro O e
     refine ai ?_
     cbv
     all_goals exact J1
    rintro _ hx
    subst M
    have hh := b
    cbv
    exact Eb
    rintro n AU N1 D1 hh o p s
    unfold ax.l2 at hh
    cbv
    refine bcs (fun t => ?_) (fun t => ?_)
    replace hh := ifT hh t
    try rw [t]
    cbv
    replace hh := aa hh
    obtain ⟨Cw, hh⟩ := hh
    replace hh := bind_some hh
    obtain ⟨⟨BR, BS, BU, BV⟩, Cx, hh⟩ := hh
    try dsimp only at hh
    refine ⟨[iA BR, iA BS, iA BU, tA (qGEx BV)], Nb Cw, Gb Cx, ?_⟩
    cbv
    replace hh := bind_some hh
    obtain ⟨Bz, Cy, hh⟩ := hh
    refine ac hF ((ih k (Nat.lt_succ_self k)) Cy) ?_
    cbv
    replace hh := aD hh
    rcases hh with ⟨Q, hh⟩ | ⟨Q, hh⟩
    have u : Bz = true := Tb Q
    have g := u; cbv at g; try rw [u]
    try rw [g]
    cbv
    ·refine o _ _ hh fun O e => ?_
     refine ai ?_
     cbv
     all_goals exact J1
    have u : Bz = false := Fb Q
    have g := u; cbv at g; try rw [u]
    try rw [g]
    cbv
    cases hh
    have hh : some _ = some _ := b
    refine s _ _ ?_
    cbv
    exact Eb
    replace hh := ifF hh t
    try rw [t]
    cbv
    ·refine p () _ hh fun _ e => ?_
     refine ai ?_
     cbv
     all_goals exact J0
    replace hh := ifF hh d
    try rw [d]
    cbv
    first | rw [d] | (have g := d; cbv at g; rw [g])
    cbv
    replace hh := aD hh
    rcases hh with ⟨R, hh⟩ | ⟨R, hh⟩
    have v : (eq p0c 0) = true := Tb R
    have g := v; cbv at g; try rw [v]
    try rw [g]
    cbv
    replace hh := bind_some hh
    obtain ⟨M, j, b⟩ := hh
    refine au hC eok mixed (ax.l3 k (ax.f k) (⟨p0a, p0b, p0c, p0d⟩ : GEx) p1)
     (fun BB => (⟨[(1, iA p1), (2, .mptr (2, 0) 1 0 0), (5, iA BB)], [((2, 0), .box 1 [iA p0a, iA p0b, iA p0c, tA (qGEx p0d)])]⟩ : St))
     (fun (_ : Unit) => (⟨[], []⟩ : St)) .ok (.exit 0)
     (i0 := _) j (fun _ => rfl) ?_ ?_ ?_
    ·rintro O e
     refine ai ?_
     cbv
     all_goals exact J1
    rintro _ hx
    subst M
    have hh := b
    cbv
    exact Eb
    rintro n BB N1 D1 hh o p s
    unfold ax.l3 at hh
    cbv
    refine bcs (fun w => ?_) (fun w => ?_)
    replace hh := ifT hh w
    try rw [w]
    cbv
    replace hh := aa hh
    obtain ⟨Cz, hh⟩ := hh
    replace hh := bind_some hh
    obtain ⟨⟨BW, BX, BY, B0⟩, CA, hh⟩ := hh
    try dsimp only at hh
    refine ⟨[iA BW, iA BX, iA BY, tA (qGEx B0)], Nb Cz, Gb CA, ?_⟩
    cbv
    replace hh := bind_some hh
    obtain ⟨BL, CB, hh⟩ := hh
    refine ac hF ((ih k (Nat.lt_succ_self k)) CB) ?_
    cbv
    replace hh := aD hh
    rcases hh with ⟨S, hh⟩ | ⟨S, hh⟩
    have y : BL = true := Tb S
    have g := y; cbv at g; try rw [y]
    try rw [g]
    cbv
    ·refine o _ _ hh fun O e => ?_
     refine ai ?_
     cbv
     all_goals exact J1
    have y : BL = false := Fb S
    have g := y; cbv at g; try rw [y]
    try rw [g]
    cbv
    cases hh
    have hh : some _ = some _ := b
    refine s _ _ ?_
    cbv
    exact Eb
    replace hh := ifF hh w
    try rw [w]
    cbv
    ·refine p () _ hh fun _ e => ?_
     refine ai ?_
     cbv
     all_goals exact J0
    have v : (eq p0c 0) = false := Fb R
    have g := v; cbv at g; try rw [v]
    try rw [g]
    cbv
    exact Eb
    have J : (eq p0b 0) = false := Fb xm
    have g := J; cbv at g; try rw [J]
    try rw [g]
    cbv
    exact Eb
    have z : (lt p0b 5) = false := Fb W
    have g := z; cbv at g; try rw [z]
    try rw [g]
    cbv
    exact Eb
    have U : (eq x4 (cast (len (qGEx p0d)))) = false := Fb b6
    have g := U; cbv at g; try rw [U]
    try rw [g]
    cbv
    exact Eb
theorem u9 {k : Nat} {p0 : GEx} {p1 : Int} {r : Bool} (hh : ax.f k p0 p1 = some r) : ah P 53 [.agg [iA p0.Kind, iA p0.Sym, iA p0.N, tA (qGEx p0.Kids)], iA p1] [hA, hA] (bA r) := (Bv hQ k) hh


theorem Ba : ∀ k : Nat, (∀ {p0 : GEx} {p1 : Int} {r : Int}, bR.f k p0 p1 = some r → ah P 54 [.agg [iA p0.Kind, iA p0.Sym, iA p0.N, tA (qGEx p0.Kids)], iA p1] [hA, hA] (iA r)) := by
  intro k
  induction k using Nat.strongRecOn with
  | _ k ih =>
  · intro p0 p1 r hh
    cases k with
    | zero => unfold bR.f at hh; cases hh
    | succ k =>
    obtain ⟨p0a, p0b, p0c, p0d⟩ := p0
    unfold bR.f at hh
    refine go (ts := [(4, none)]) (rm := [.own]) (pm := [.skip, .skip]) Tryz.func54 ?_
    intro Fn LW IN len cast toNat wrap add sub mul bin lt eq At set part app fz' rep nadd nmax ssize sext sget scat seq slt Wide Flat Ones Room r' post' hC hF hr hp
    cbv
    replace hh := bind_some hh
    obtain ⟨F, y, z⟩ := hh
    refine au hC eok mixed (fun n (i : Int × Int) => bR.l0 k (bR.f k) (⟨p0a, p0b, p0c, p0d⟩ : GEx) p1 n i.1 i.2)
     (fun ⟨d, j⟩ => (⟨[(1, iA p1), (2, .mptr (2, 0) 1 0 0), (5, iA d), (6, iA j)], [((2, 0), .box 1 [iA p0a, iA p0b, iA p0c, tA (qGEx p0d)])]⟩ : St))
     (fun (o : Int) => (⟨[(5, iA o)], []⟩ : St)) (fun x => x) (.exit 0)
     (i0 := (_, _)) y (fun _ => rfl) ?_ ?_ ?_
    ·rintro ⟨s, G⟩ e
     refine ai ?_
     cbv
     all_goals exact J2
    rintro o hx
    subst F
    have hh := z
    cbv
    exact Eb
    rintro n ⟨d, j⟩ J K hh A p H
    try dsimp only at hh
    unfold bR.l0 at hh
    cbv
    refine bcs (fun b => ?_) (fun b => ?_)
    replace hh := ifT hh b
    try rw [b]
    cbv
    refine bcs (fun c => ?_) (fun c => ?_)
    replace hh := ifT hh c
    try rw [c]
    cbv
    replace hh := aa hh
    obtain ⟨B, hh⟩ := hh
    replace hh := bind_some hh
    obtain ⟨⟨t, u, v, w⟩, C, hh⟩ := hh
    try dsimp only at hh
    refine ⟨[iA t, iA u, iA v, tA (qGEx w)], Nb B, Gb C, ?_⟩
    cbv
    replace hh := bind_some hh
    obtain ⟨I, D, hh⟩ := hh
    refine ac hF ((ih k (Nat.lt_succ_self k)) D) ?_
    cbv
    ·refine A (_, _) _ hh fun ⟨s, G⟩ e => ?_
     refine ai ?_
     cbv
     all_goals exact J2
    replace hh := ifF hh c
    try rw [c]
    cbv
    ·refine p _ _ hh fun s e => ?_
     refine ai ?_
     cbv
     all_goals exact J1
    replace hh := ifF hh b
    try rw [b]
    cbv
    ·refine p _ _ hh fun s e => ?_
     refine ai ?_
     cbv
     all_goals exact J1
theorem uW {k : Nat} {p0 : GEx} {p1 : Int} {r : Int} (hh : bR.f k p0 p1 = some r) : ah P 54 [.agg [iA p0.Kind, iA p0.Sym, iA p0.N, tA (qGEx p0.Kids)], iA p1] [hA, hA] (iA r) := (Ba hQ k) hh


theorem qx {k : Nat} {p0 : GEx} {r : Bool} (hh : gY.f k p0 = some r) : ah P 17 [.agg [iA p0.Kind, iA p0.Sym, iA p0.N, tA (qGEx p0.Kids)]] [hA] (bA r) := by
 obtain ⟨p0a, p0b, p0c, p0d⟩ := p0
 unfold gY.f at hh
 refine go (ts := [(2, none)]) (rm := [.own]) (pm := [.skip]) Tryz.func17 ?_
 intro Fn LW IN len cast toNat wrap add sub mul bin lt eq At set part app fz' rep nadd nmax ssize sext sget scat seq slt Wide Flat Ones Room r' post' hC hF hr hp
 cbv
 replace hh := bind_some hh
 obtain ⟨j, c, hh⟩ := hh
 refine ac hF (u9 hQ c) ?_
 cbv
 refine bcs (fun b => ?_) (fun b => ?_)
 replace hh := ifT hh b
 try rw [b]
 cbv
 replace hh := bind_some hh
 obtain ⟨o, d, hh⟩ := hh
 refine ac hF (uW hQ d) ?_
 cbv
 exact Eb
 replace hh := ifF hh b
 try rw [b]
 cbv
 exact Eb
theorem ta {k : Nat} {p0 : GEx} {r : Bool} (hh : gY.f k p0 = some r) : ah P 17 [.agg [iA p0.Kind, iA p0.Sym, iA p0.N, oA 4 (qGExO p0.Kids)]] [.agg [iA p0.Kind, iA p0.Sym, iA p0.N, oA 4 (qGExO p0.Kids)]] (bA r) := by
  cases hQ; exact (qx .mk hh).lend (rfl) (.lend (by simp) .nil)

theorem ow {k : Nat} {p0 : Gl14Rd} {r : GEx × Gl14Rd} (hh : gq.f k p0 = some r) : ah P 116 [.obox [tA (qIu8 p0.b), iA p0.p]] [.obox [tA (qIu8 r.2.b), iA r.2.p]] (.agg [iA r.1.Kind, iA r.1.Sym, iA r.1.N, oA 4 (qGExO r.1.Kids)]) := by
 obtain ⟨p0a, p0b⟩ := p0
 unfold gq.f at hh
 refine go (ts := [(2, some 25)]) (rm := [.own]) (pm := [.own]) Tryz.func116 ?_
 intro Fn LW IN len cast toNat wrap add sub mul bin lt eq At set part app fz' rep nadd nmax ssize sext sget scat seq slt Wide Flat Ones Room r' post' hC hF hr hp
 cbv
 replace hh := bind_some hh
 obtain ⟨⟨I, ⟨z, A⟩⟩, J, hh⟩ := hh
 try dsimp only at hh
 have fc := bE hQ J
 try dsimp only at fc
 refine ac hF fc ?_
 cbv
 replace hh := bind_some hh
 obtain ⟨⟨⟨B, C, D, F⟩, ⟨G, H⟩⟩, K, hh⟩ := hh
 try dsimp only at hh
 have fc := mA hQ K
 try dsimp only at fc
 refine ac hF fc ?_
 cbv
 replace hh := bind_some hh
 obtain ⟨j, L, hh⟩ := hh
 have fc := ta hQ L
 try dsimp only at fc
 refine ac hF fc ?_
 cbv
 replace hh := aD hh
 rcases hh with ⟨d, hh⟩ | ⟨d, hh⟩
 have c : j = true := Tb d
 have g := c; cbv at g; try rw [c]
 try rw [g]
 cbv
 exact Eb
 have c : j = false := Fb d
 have g := c; cbv at g; try rw [c]
 try rw [g]
 cbv
 replace hh := bind_some hh
 obtain ⟨⟨⟨o, s, t, u⟩, ⟨v, w⟩⟩, y, hh⟩ := hh
 try dsimp only at hh
 have fc := mA hQ y
 try dsimp only at fc
 refine ac hF fc ?_
 cbv
 exact Eb

theorem oy {k : Nat} {p0 : Gl14Rd} {p1 : ByteArray} {r : GRule × Gl14Rd} (hh : gt.f k p0 p1 = some r) : ah P 77 [.obox [tA (qIu8 p0.b), iA p0.p], sA p1] [.obox [tA (qIu8 r.2.b), iA r.2.p], hA] (.agg [sA r.1.Name, iA r.1.Pri, iA r.1.Mode, iA r.1.Ex.Kind, iA r.1.Ex.Sym, iA r.1.Ex.N, oA 4 (qGExO r.1.Ex.Kids), iA r.1.Low, iA r.1.High, iA r.1.Key, iA r.1.Add, iA r.1.Raise]) := by
 obtain ⟨p0a, p0b⟩ := p0
 unfold gt.f at hh
 refine go (ts := [(4, some 60)]) (rm := [.own]) (pm := [.own, .skip]) Tryz.func77 ?_
 intro Fn LW IN len cast toNat wrap add sub mul bin lt eq At set part app fz' rep nadd nmax ssize sext sget scat seq slt Wide Flat Ones Room r' post' hC hF hr hp
 cbv
 replace hh := bind_some hh
 obtain ⟨⟨⟨B4, B6, B7, B9⟩, ⟨Cc, Cd⟩⟩, h1, hh⟩ := hh
 try dsimp only at hh
 have fc := ow hQ h1
 try dsimp only at fc
 refine ac hF fc ?_
 cbv
 replace hh := bind_some hh
 obtain ⟨⟨CF, ⟨Ce, Cf⟩⟩, h4, hh⟩ := hh
 try dsimp only at hh
 have fc := bE hQ h4
 try dsimp only at fc
 refine ac hF fc ?_
 cbv
 refine bcs (fun c => ?_) (fun c => ?_)
 replace hh := ifT hh c
 try rw [c]
 cbv
 replace hh := bind_some hh
 obtain ⟨⟨⟨d, j, o, s⟩, ⟨t, u⟩⟩, h9, hh⟩ := hh
 try dsimp only at hh
 have fc := mA hQ h9
 try dsimp only at fc
 refine ac hF fc ?_
 cbv
 replace hh := bind_some hh
 obtain ⟨⟨Cg, ⟨v, w⟩⟩, y, hh⟩ := hh
 try dsimp only at hh
 refine ⟨Ob, ?_⟩
 have fc := aT hQ y
 try dsimp only at fc
 refine ac hF fc ?_
 cbv
 replace hh := bind_some hh
 obtain ⟨⟨Ch, ⟨z, A⟩⟩, B, hh⟩ := hh
 try dsimp only at hh
 refine ⟨Ob, ?_⟩
 have fc := aT hQ B
 try dsimp only at fc
 refine ac hF fc ?_
 cbv
 replace hh := bind_some hh
 obtain ⟨⟨Cm, ⟨C, D⟩⟩, F, hh⟩ := hh
 try dsimp only at hh
 have fc := bE hQ F
 try dsimp only at fc
 refine ac hF fc ?_
 cbv
 replace hh := bind_some hh
 obtain ⟨⟨Cn, ⟨G, H⟩⟩, I, hh⟩ := hh
 try dsimp only at hh
 refine ⟨Ob, ?_⟩
 have fc := aT hQ I
 try dsimp only at fc
 refine ac hF fc ?_
 cbv
 replace hh := bind_some hh
 obtain ⟨⟨Cq, ⟨J, K⟩⟩, L, hh⟩ := hh
 try dsimp only at hh
 have fc := bE hQ L
 try dsimp only at fc
 refine ac hF fc ?_
 cbv
 replace hh := bind_some hh
 obtain ⟨⟨Cv, ⟨M, O⟩⟩, Q, hh⟩ := hh
 try dsimp only at hh
 refine ⟨Ob, ?_⟩
 have fc := aT hQ Q
 try dsimp only at fc
 refine ac hF fc ?_
 cbv
 replace hh := bind_some hh
 obtain ⟨⟨Cw, ⟨R, S⟩⟩, T, hh⟩ := hh
 try dsimp only at hh
 refine ⟨Ob, ?_⟩
 have fc := aT hQ T
 try dsimp only at fc
 refine ac hF fc ?_
 cbv
 exact Eb
 replace hh := ifF hh c
 try rw [c]
 cbv
 replace hh := bind_some hh
 obtain ⟨⟨Cx, ⟨U, V⟩⟩, W, hh⟩ := hh
 try dsimp only at hh
 refine ⟨Ob, ?_⟩
 have fc := aT hQ W
 try dsimp only at fc
 refine ac hF fc ?_
 cbv
 replace hh := bind_some hh
 obtain ⟨⟨Cy, ⟨X, Y⟩⟩, Z, hh⟩ := hh
 try dsimp only at hh
 refine ⟨Ob, ?_⟩
 have fc := aT hQ Z
 try dsimp only at fc
 refine ac hF fc ?_
 cbv
 replace hh := bind_some hh
 obtain ⟨⟨Cz, ⟨dj, xm⟩⟩, AU, hh⟩ := hh
 try dsimp only at hh
 have fc := bE hQ AU
 try dsimp only at fc
 refine ac hF fc ?_
 cbv
 replace hh := bind_some hh
 obtain ⟨⟨CA, ⟨Bz, BB⟩⟩, BL, hh⟩ := hh
 try dsimp only at hh
 refine ⟨Ob, ?_⟩
 have fc := aT hQ BL
 try dsimp only at fc
 refine ac hF fc ?_
 cbv
 replace hh := bind_some hh
 obtain ⟨⟨CB, ⟨BR, BS⟩⟩, BU, hh⟩ := hh
 try dsimp only at hh
 have fc := bE hQ BU
 try dsimp only at fc
 refine ac hF fc ?_
 cbv
 replace hh := bind_some hh
 obtain ⟨⟨CC, ⟨BV, BW⟩⟩, BX, hh⟩ := hh
 try dsimp only at hh
 refine ⟨Ob, ?_⟩
 have fc := aT hQ BX
 try dsimp only at fc
 refine ac hF fc ?_
 cbv
 replace hh := bind_some hh
 obtain ⟨⟨CD, ⟨BY, B0⟩⟩, B1, hh⟩ := hh
 try dsimp only at hh
 refine ⟨Ob, ?_⟩
 have fc := aT hQ B1
 try dsimp only at fc
 refine ac hF fc ?_
 cbv
 exact Eb

theorem tI {k : Nat} {p0 : Gl14Rd} {r : (List GRule) × Gl14Rd} (hh : cu.f k p0 = some r) : ah P 136 [.obox [tA (qIu8 p0.b), iA p0.p]] [.obox [tA (qIu8 r.2.b), iA r.2.p]] (oA 12 (qGRule r.1)) := by
 obtain ⟨p0a, p0b⟩ := p0
 unfold cu.f at hh
 refine go (ts := [(2, none)]) (rm := [.own]) (pm := [.own]) Tryz.func136 ?_
 intro Fn LW IN len cast toNat wrap add sub mul bin lt eq At set part app fz' rep nadd nmax ssize sext sget scat seq slt Wide Flat Ones Room r' post' hC hF hr hp
 cbv
 replace hh := bind_some hh
 obtain ⟨⟨AU, ⟨dj, xm⟩⟩, h1, hh⟩ := hh
 try dsimp only at hh
 have fc := bE hQ h1
 try dsimp only at fc
 refine ac hF fc ?_
 cbv
 replace hh := bind_some hh
 obtain ⟨o1, K, L⟩ := hh
 refine au hC eok mixed (fun n (i : (List Int) × Int × (List GRule) × Int) => cu.l0 k n i.1 i.2.1 i.2.2.1 i.2.2.2)
  (fun ⟨F, G, d, H⟩ => (⟨[(0, .mptr (0, 0) 1 0 0), (3, .ref (5, 0) 1 0 (len (qGRule d))), (4, iA H), (1000000, .mptr (0, 0) 1 0 0)], [((0, 0), .box 1 [tA (qIu8 F), iA G]), ((5, 0), .arr 1 12 (qGRule d))]⟩ : St))
  (fun (⟨j, I, J⟩ : (List GRule) × (List Int) × Int) => (⟨[(3, .ref (5, 0) 1 0 (len (qGRule j))), (1000000, .mptr (0, 0) 1 0 0)], [((0, 0), .box 1 [tA (qIu8 I), iA J]), ((5, 0), .arr 1 12 (qGRule j))]⟩ : St)) (fun x => x) (.exit 0)
  (i0 := (_, _, _, _)) K (fun _ => rfl) ?_ ?_ ?_
 ·rintro ⟨M, N, O, t3⟩ e
  refine ai ?_
  cbv
  all_goals exact J4
 rintro ⟨j, I, J⟩ hx
 subst o1
 have hh := L
 cbv
 exact Eb
 rintro n ⟨F, G, d, H⟩ N1 D1 hh Q R BR
 try dsimp only at hh
 unfold cu.l0 at hh
 cbv
 refine bcs (fun c => ?_) (fun c => ?_)
 replace hh := ifT hh c
 try rw [c]
 cbv
 replace hh := aa hh
 obtain ⟨S, hh⟩ := hh
 replace hh := aa hh
 obtain ⟨T, hh⟩ := hh
 refine ⟨Nb S, Mb T, ?_⟩
 replace hh := bind_some hh
 obtain ⟨U, V, hh⟩ := hh
 refine ⟨[sA U], Gb V, ?_⟩
 cbv
 replace hh := bind_some hh
 obtain ⟨⟨⟨o, s, t, ⟨u, v, w, y⟩, z, A, B, C, D⟩, ⟨W, X⟩⟩, Y, hh⟩ := hh
 try dsimp only at hh
 have fc := ah.frz (r' := .agg [sA o, iA s, iA t, iA u, iA v, iA w, tA (qGEx y), iA z, iA A, iA B, iA C, iA D]) (oy hQ Y) (by cases hQ; simp)
 try dsimp only at fc
 refine ac hF fc ?_
 cbv
 replace hh := aa hh
 obtain ⟨Z, hh⟩ := hh
 refine ⟨⟨Ob, Ab⟩, ?_⟩
 refine ⟨⟨Ob, Wb Z⟩, ?_⟩
 ·refine Q (_, _, _, _) _ hh fun ⟨M, N, O, t3⟩ e => ?_
  refine aw [((0, 0), (0, 0)), ((5, 0), (21, 0))] ?_
  cbv
  all_goals exact J4
 replace hh := ifF hh c
 try rw [c]
 cbv
 ·refine R (_, _, _) _ hh fun ⟨M, N, O⟩ e => ?_
  refine ai ?_
  cbv
  all_goals exact J3

theorem sk {p0 : Gl14Rd} {p1 : List ByteArray} {r : ByteArray × Gl14Rd} (hh : gi.f p0 p1 = some r) : ah P 137 [.obox [tA (qIu8 p0.b), iA p0.p], tA (qStr p1)] [.obox [tA (qIu8 r.2.b), iA r.2.p], hA] (sA r.1) := by
 obtain ⟨p0a, p0b⟩ := p0
 unfold gi.f at hh
 refine go (ts := [(4, none)]) (rm := [.own]) (pm := [.own, .skip]) Tryz.func137 ?_
 intro Fn LW IN len cast toNat wrap add sub mul bin lt eq At set part app fz' rep nadd nmax ssize sext sget scat seq slt Wide Flat Ones Room r' post' hC hF hr hp
 cbv
 replace hh := bind_some hh
 obtain ⟨⟨o, ⟨d, j⟩⟩, s, hh⟩ := hh
 try dsimp only at hh
 have fc := bE hQ s
 try dsimp only at fc
 refine ac hF fc ?_
 cbv
 replace hh := aa hh
 obtain ⟨c, hh⟩ := hh
 try dsimp only at c
 replace hh := bind_some hh
 obtain ⟨t, u, hh⟩ := hh
 refine ⟨[sA t], Nb c, Gb u, ?_⟩
 cbv
 exact Eb

theorem AF : ∀ k : Nat, (∀ {p0 : GEx} {r : GEx}, bL.f k p0 = some r → ah P 118 [.agg [iA p0.Kind, iA p0.Sym, iA p0.N, tA (qGEx p0.Kids)]] [hA] (.agg [iA r.Kind, iA r.Sym, iA r.N, oA 4 (qGExO r.Kids)])) := by
  intro k
  induction k using Nat.strongRecOn with
  | _ k ih =>
  · intro p0 r hh
    cases k with
    | zero => unfold bL.f at hh; cases hh
    | succ k =>
    obtain ⟨p0a, p0b, p0c, p0d⟩ := p0
    unfold bL.f at hh
    refine go (ts := [(2, some 25)]) (rm := [.own]) (pm := [.skip]) Tryz.func118 ?_
    intro Fn LW IN len cast toNat wrap add sub mul bin lt eq At set part app fz' rep nadd nmax ssize sext sget scat seq slt Wide Flat Ones Room r' post' hC hF hr hp
    cbv
    replace hh := bind_some hh
    obtain ⟨F, u, v⟩ := hh
    refine au hC eok mixed (fun n (i : (List GEx) × Int) => bL.l0 k (bL.f k) (⟨p0a, p0b, p0c, p0d⟩ : GEx) n i.1 i.2)
     (fun ⟨c, j⟩ => (⟨[(1, .mptr (1, 0) 1 0 0), (2, .mptr (2, 0) 1 0 0), (3, .mptr (3, 0) 1 0 0), (4, iA j)], [((1, 0), .box 1 [iA p0a, iA p0b, iA p0c, tA (qGEx p0d)]), ((2, 0), .box 1 [iA 0, iA 0, iA 0, .lit (.slice none 0 0)]), ((3, 0), .box 1 [iA p0a, iA p0b, iA p0c, .ref (3, 53) 1 0 (len (qGExO c))]), ((3, 53), .arr 1 4 (qGExO c))]⟩ : St))
     (fun (d : List GEx) => (⟨[(2, .mptr (2, 0) 1 0 0), (3, .mptr (3, 0) 1 0 0)], [((2, 0), .box 1 [iA 0, iA 0, iA 0, .lit (.slice none 0 0)]), ((3, 0), .box 1 [iA p0a, iA p0b, iA p0c, .ref (3, 53) 1 0 (len (qGExO d))]), ((3, 53), .arr 1 4 (qGExO d))]⟩ : St)) (fun x => x) (.exit 0)
     (i0 := (_, _)) u (fun _ => rfl) ?_ ?_ ?_
    ·rintro ⟨w, G⟩ e
     refine aw [((1, 0), (1, 0)), ((2, 0), (2, 0)), ((3, 0), (3, 0))] ?_
     cbv
     all_goals exact J2
    rintro d hx
    subst F
    have hh := v
    cbv
    exact Eb
    rintro n ⟨c, j⟩ M O hh y z L
    try dsimp only at hh
    unfold bL.l0 at hh
    cbv
    refine bcs (fun b => ?_) (fun b => ?_)
    replace hh := ifT hh b
    try rw [b]
    cbv
    replace hh := aa hh
    obtain ⟨A, hh⟩ := hh
    replace hh := bind_some hh
    obtain ⟨⟨o, p, s, t⟩, B, hh⟩ := hh
    try dsimp only at hh
    refine ⟨[iA o, iA p, iA s, tA (qGEx t)], Nb A, Gb B, ?_⟩
    cbv
    replace hh := bind_some hh
    obtain ⟨⟨H, I, J, K⟩, C, hh⟩ := hh
    try dsimp only at hh
    have fc := (ih k (Nat.lt_succ_self k)) C
    try dsimp only at fc
    refine ac hF fc ?_
    cbv
    replace hh := aa hh
    obtain ⟨D, hh⟩ := hh
    refine ⟨⟨Ob, Ab⟩, ?_⟩
    refine ⟨⟨Ob, Wb D⟩, ?_⟩
    ·refine y (_, _) _ hh fun ⟨w, G⟩ e => ?_
     refine aw [((1, 0), (1, 0)), ((2, 0), (2, 0)), ((3, 0), (3, 0)), ((3, 53), (28, 0))] ?_
     cbv
     all_goals exact J2
    replace hh := ifF hh b
    try rw [b]
    cbv
    ·refine z _ _ hh fun w e => ?_
     refine ai ?_
     cbv
     all_goals exact J1
theorem uY {k : Nat} {p0 : GEx} {r : GEx} (hh : bL.f k p0 = some r) : ah P 118 [.agg [iA p0.Kind, iA p0.Sym, iA p0.N, tA (qGEx p0.Kids)]] [hA] (.agg [iA r.Kind, iA r.Sym, iA r.N, oA 4 (qGExO r.Kids)]) := (AF hQ k) hh

theorem rk {k : Nat} {p0 : GEx} {r : GEx} (hh : bL.f k p0 = some r) : ah P 118 [.agg [iA p0.Kind, iA p0.Sym, iA p0.N, oA 4 (qGExO p0.Kids)]] [.agg [iA p0.Kind, iA p0.Sym, iA p0.N, oA 4 (qGExO p0.Kids)]] (.agg [iA r.Kind, iA r.Sym, iA r.N, oA 4 (qGExO r.Kids)]) := by
  cases hQ; exact (uY .mk hh).lend (by simp [Vm.ownd, gb, -kW, mF]) (.lend (by simp) .nil)

theorem vg {k : Nat} {p0 : Gl14Rd} {r : GEx × Gl14Rd} (hh : bx.f k p0 = some r) : ah P 49 [.obox [tA (qIu8 p0.b), iA p0.p]] [.obox [tA (qIu8 r.2.b), iA r.2.p]] (.agg [iA r.1.Kind, iA r.1.Sym, iA r.1.N, oA 4 (qGExO r.1.Kids)]) := by
 obtain ⟨p0a, p0b⟩ := p0
 unfold bx.f at hh
 refine go (ts := [(2, some 25)]) (rm := [.own]) (pm := [.own]) Tryz.func49 ?_
 intro Fn LW IN len cast toNat wrap add sub mul bin lt eq At set part app fz' rep nadd nmax ssize sext sget scat seq slt Wide Flat Ones Room r' post' hC hF hr hp
 cbv
 replace hh := bind_some hh
 obtain ⟨⟨⟨B0, B1, B4, B6⟩, ⟨B7, B9⟩⟩, h1, hh⟩ := hh
 try dsimp only at hh
 have fc := ow hQ h1
 try dsimp only at fc
 refine ac hF fc ?_
 cbv
 replace hh := bind_some hh
 obtain ⟨⟨Cg, ⟨c, d⟩⟩, h4, hh⟩ := hh
 try dsimp only at hh
 have fc := bE hQ h4
 try dsimp only at fc
 refine ac hF fc ?_
 cbv
 refine bcs (fun w => ?_) (fun w => ?_)
 replace hh := ifT hh w
 try rw [w]
 cbv
 replace hh := bind_some hh
 obtain ⟨⟨Cc, ⟨Bz, BB⟩⟩, h9, hh⟩ := hh
 try dsimp only at hh
 refine ⟨Ob, ?_⟩
 have fc := aT hQ h9
 try dsimp only at fc
 refine ac hF fc ?_
 cbv
 exact Eb
 replace hh := ifF hh w
 try rw [w]
 cbv
 refine bcs (fun j => ?_) (fun j => ?_)
 replace hh := ifT hh j
 try rw [j]
 cbv
 replace hh := bind_some hh
 obtain ⟨⟨Cd, ⟨BL, BR⟩⟩, BS, hh⟩ := hh
 try dsimp only at hh
 refine ⟨Ob, ?_⟩
 have fc := aT hQ BS
 try dsimp only at fc
 refine ac hF fc ?_
 cbv
 exact Eb
 replace hh := ifF hh j
 try rw [j]
 cbv
 refine bcs (fun o => ?_) (fun o => ?_)
 replace hh := ifT hh o
 try rw [o]
 cbv
 replace hh := bind_some hh
 obtain ⟨⟨Ce, ⟨BU, BV⟩⟩, BW, hh⟩ := hh
 try dsimp only at hh
 refine ⟨Ob, ?_⟩
 have fc := aT hQ BW
 try dsimp only at fc
 refine ac hF fc ?_
 cbv
 exact Eb
 replace hh := ifF hh o
 try rw [o]
 cbv
 refine bcs (fun s => ?_) (fun s => ?_)
 replace hh := ifT hh s
 try rw [s]
 cbv
 replace hh := bind_some hh
 obtain ⟨o1, y, z⟩ := hh
 refine au hC eok mixed (fun n (i : Int × Int × Int × (List GEx) × Int) => bx.l0 k n i.1 i.2.1 i.2.2.1 i.2.2.2.1 i.2.2.2.2)
  (fun ⟨L, M, O, A, Q⟩ => (⟨[(2, .mptr (2, 0) 1 0 0), (3, .mptr (3, 0) 1 0 0), (4, iA Q), (1000000, .mptr (0, 0) 1 0 0)], [((0, 0), .box 1 [tA (qIu8 c), iA d]), ((2, 0), .box 1 [iA 0, iA 0, iA 0, .lit (.slice none 0 0)]), ((3, 0), .box 1 [iA L, iA M, iA O, .ref (7, 0) 1 0 (len (qGExO A))]), ((7, 0), .arr 1 4 (qGExO A))]⟩ : St))
  (fun (⟨R, S, T, B⟩ : Int × Int × Int × (List GEx)) => (⟨[(2, .mptr (2, 0) 1 0 0), (3, .mptr (3, 0) 1 0 0), (1000000, .mptr (0, 0) 1 0 0)], [((0, 0), .box 1 [tA (qIu8 c), iA d]), ((2, 0), .box 1 [iA 0, iA 0, iA 0, .lit (.slice none 0 0)]), ((3, 0), .box 1 [iA R, iA S, iA T, .ref (7, 0) 1 0 (len (qGExO B))]), ((7, 0), .arr 1 4 (qGExO B))]⟩ : St)) (fun x => x) (.exit 1)
  (i0 := (_, _, _, _, _)) y (fun _ => rfl) ?_ ?_ ?_
 ·rintro ⟨C, D, F, G, t4⟩ e
  refine ai ?_
  cbv
  all_goals exact J5
 rintro ⟨R, S, T, B⟩ hx
 subst o1
 have hh := z
 cbv
 exact Eb
 rintro n ⟨L, M, O, A, Q⟩ N1 D1 hh H I BX
 try dsimp only at hh
 unfold bx.l0 at hh
 cbv
 refine bcs (fun t => ?_) (fun t => ?_)
 replace hh := ifT hh t
 try rw [t]
 cbv
 ·refine H (_, _, _, _, _) _ hh fun ⟨C, D, F, G, t4⟩ e => ?_
  refine aw [((0, 0), (0, 0)), ((2, 0), (2, 0)), ((3, 0), (3, 0)), ((7, 0), (35, 0))] ?_
  cbv
  all_goals exact J5
 replace hh := ifF hh t
 try rw [t]
 cbv
 ·refine I (_, _, _, _) _ hh fun ⟨C, D, F, G⟩ e => ?_
  refine ai ?_
  cbv
  all_goals exact J4
 replace hh := ifF hh s
 try rw [s]
 cbv
 refine bcs (fun u => ?_) (fun u => ?_)
 replace hh := ifT hh u
 try rw [u]
 cbv
 replace hh := bind_some hh
 obtain ⟨o1, y, z⟩ := hh
 refine au hC eok mixed (fun n (i : Int × Int × Int × (List GEx) × Int) => bx.l1 k n i.1 i.2.1 i.2.2.1 i.2.2.2.1 i.2.2.2.2)
  (fun ⟨U, V, W, J, X⟩ => (⟨[(2, .mptr (2, 0) 1 0 0), (3, .mptr (3, 0) 1 0 0), (5, iA X), (1000000, .mptr (0, 0) 1 0 0)], [((0, 0), .box 1 [tA (qIu8 c), iA d]), ((2, 0), .box 1 [iA 0, iA 0, iA 0, .lit (.slice none 0 0)]), ((3, 0), .box 1 [iA U, iA V, iA W, .ref (7, 0) 1 0 (len (qGExO J))]), ((7, 0), .arr 1 4 (qGExO J))]⟩ : St))
  (fun (⟨Y, Z, dj, K⟩ : Int × Int × Int × (List GEx)) => (⟨[(2, .mptr (2, 0) 1 0 0), (3, .mptr (3, 0) 1 0 0), (1000000, .mptr (0, 0) 1 0 0)], [((0, 0), .box 1 [tA (qIu8 c), iA d]), ((2, 0), .box 1 [iA 0, iA 0, iA 0, .lit (.slice none 0 0)]), ((3, 0), .box 1 [iA Y, iA Z, iA dj, .ref (7, 0) 1 0 (len (qGExO K))]), ((7, 0), .arr 1 4 (qGExO K))]⟩ : St)) (fun x => x) (.exit 3)
  (i0 := (_, _, _, _, _)) y (fun _ => rfl) ?_ ?_ ?_
 ·rintro ⟨C, D, F, G, t4⟩ e
  refine ai ?_
  cbv
  all_goals exact J5
 rintro ⟨Y, Z, dj, K⟩ hx
 subst o1
 have hh := z
 cbv
 exact Eb
 rintro n ⟨U, V, W, J, X⟩ N1 D1 hh H I BX
 try dsimp only at hh
 unfold bx.l1 at hh
 cbv
 refine bcs (fun v => ?_) (fun v => ?_)
 replace hh := ifT hh v
 try rw [v]
 cbv
 replace hh := bind_some hh
 obtain ⟨⟨Cv, Cw, Cx, Cy⟩, BY, hh⟩ := hh
 try dsimp only at hh
 have fc := rk hQ BY
 try dsimp only at fc
 refine ac hF fc ?_
 cbv
 ·refine H (_, _, _, _, _) _ hh fun ⟨C, D, F, G, t4⟩ e => ?_
  refine aw [((0, 0), (0, 0)), ((2, 0), (2, 0)), ((3, 0), (3, 0)), ((7, 0), (46, 0))] ?_
  cbv
  all_goals exact J5
 replace hh := ifF hh v
 try rw [v]
 cbv
 ·refine I (_, _, _, _) _ hh fun ⟨C, D, F, G⟩ e => ?_
  refine ai ?_
  cbv
  all_goals exact J4
 replace hh := ifF hh u
 try rw [u]
 cbv
 exact Eb

theorem u7 {k : Nat} {p0 : Gl14Rd} {r : (List GRule) × Gl14Rd} (hh : iy.f k p0 = some r) : ah P 76 [.obox [tA (qIu8 p0.b), iA p0.p]] [.obox [tA (qIu8 r.2.b), iA r.2.p]] (oA 12 (qGRule r.1)) := by
 obtain ⟨p0a, p0b⟩ := p0
 unfold iy.f at hh
 refine go (ts := [(2, none)]) (rm := [.own]) (pm := [.own]) Tryz.func76 ?_
 intro Fn LW IN len cast toNat wrap add sub mul bin lt eq At set part app fz' rep nadd nmax ssize sext sget scat seq slt Wide Flat Ones Room r' post' hC hF hr hp
 cbv
 replace hh := bind_some hh
 obtain ⟨⟨Dy, ⟨Dp, Dq⟩⟩, h1, hh⟩ := hh
 try dsimp only at hh
 have fc := tI hQ h1
 try dsimp only at fc
 refine ac hF fc ?_
 cbv
 refine bcs (fun u => ?_) (fun u => ?_)
 replace hh := ifT hh u
 try rw [u]
 cbv
 exact Eb
 replace hh := ifF hh u
 try rw [u]
 cbv
 replace hh := bind_some hh
 obtain ⟨⟨DA, ⟨Dr, Ds⟩⟩, h6, hh⟩ := hh
 try dsimp only at hh
 have fc := bE hQ h6
 try dsimp only at fc
 refine ac hF fc ?_
 cbv
 replace hh := bind_some hh
 obtain ⟨⟨Dt, ⟨C2, C3⟩⟩, h9, hh⟩ := hh
 try dsimp only at hh
 have fc := bE hQ h9
 try dsimp only at fc
 refine ac hF fc ?_
 cbv
 refine bcs (fun c => ?_) (fun c => ?_)
 replace hh := ifT hh c
 try rw [c]
 cbv
 replace hh := bind_some hh
 obtain ⟨⟨Du, ⟨C4, C5⟩⟩, C6, hh⟩ := hh
 try dsimp only at hh
 refine ⟨Ob, ?_⟩
 have fc := sk hQ C6
 try dsimp only at fc
 refine ac hF fc ?_
 cbv
 replace hh := aa hh
 obtain ⟨A, hh⟩ := hh
 try dsimp only at A
 replace hh := aa hh
 obtain ⟨B, hh⟩ := hh
 try dsimp only at B
 refine ⟨Nb A, Mb B, ?_⟩
 replace hh := bind_some hh
 obtain ⟨⟨N, O, Q, ⟨R, S, T, U⟩, V, W, X, Y, Z⟩, C7, hh⟩ := hh
 try dsimp only at hh
 refine ⟨[sA N, iA O, iA Q, iA R, iA S, iA T, tA (qGEx U), iA V, iA W, iA X, iA Y, iA Z], Gb C7, ?_⟩
 cbv
 exact Eb
 replace hh := ifF hh c
 try rw [c]
 cbv
 refine bcs (fun d => ?_) (fun d => ?_)
 replace hh := ifT hh d
 try rw [d]
 cbv
 replace hh := bind_some hh
 obtain ⟨⟨Dv, ⟨C8, C9⟩⟩, Da, hh⟩ := hh
 try dsimp only at hh
 refine ⟨Ob, ?_⟩
 have fc := aT hQ Da
 try dsimp only at fc
 refine ac hF fc ?_
 cbv
 replace hh := aa hh
 obtain ⟨C, hh⟩ := hh
 try dsimp only at C
 replace hh := aa hh
 obtain ⟨D, hh⟩ := hh
 try dsimp only at D
 refine ⟨Nb C, Mb D, ?_⟩
 replace hh := bind_some hh
 obtain ⟨⟨dj, xm, AU, ⟨Bz, BB, BL, BR⟩, BS, BU, BV, BW, BX⟩, Db, hh⟩ := hh
 try dsimp only at hh
 refine ⟨[sA dj, iA xm, iA AU, iA Bz, iA BB, iA BL, tA (qGEx BR), iA BS, iA BU, iA BV, iA BW, iA BX], Gb Db, ?_⟩
 cbv
 exact Eb
 replace hh := ifF hh d
 try rw [d]
 cbv
 refine bcs (fun j => ?_) (fun j => ?_)
 replace hh := ifT hh j
 try rw [j]
 cbv
 replace hh := bind_some hh
 obtain ⟨⟨Dw, ⟨Dc, Dd⟩⟩, De, hh⟩ := hh
 try dsimp only at hh
 refine ⟨Ob, ?_⟩
 have fc := aT hQ De
 try dsimp only at fc
 refine ac hF fc ?_
 cbv
 replace hh := aa hh
 obtain ⟨F, hh⟩ := hh
 try dsimp only at F
 replace hh := aa hh
 obtain ⟨G, hh⟩ := hh
 try dsimp only at G
 refine ⟨Nb F, Mb G, ?_⟩
 replace hh := bind_some hh
 obtain ⟨⟨BY, B0, B1, ⟨B4, B6, B7, B9⟩, Cc, Cd, Ce, Cf, Cg⟩, Df, hh⟩ := hh
 try dsimp only at hh
 refine ⟨[sA BY, iA B0, iA B1, iA B4, iA B6, iA B7, tA (qGEx B9), iA Cc, iA Cd, iA Ce, iA Cf, iA Cg], Gb Df, ?_⟩
 cbv
 exact Eb
 replace hh := ifF hh j
 try rw [j]
 cbv
 refine bcs (fun o => ?_) (fun o => ?_)
 replace hh := ifT hh o
 try rw [o]
 cbv
 replace hh := aa hh
 obtain ⟨H, hh⟩ := hh
 try dsimp only at H
 replace hh := aa hh
 obtain ⟨I, hh⟩ := hh
 try dsimp only at I
 refine ⟨Nb H, Mb I, ?_⟩
 replace hh := bind_some hh
 obtain ⟨⟨Ch, Cm, Cn, ⟨Cq, Cv, Cw, Cx⟩, Cy, Cz, CA, CB, CC⟩, Dg, hh⟩ := hh
 try dsimp only at hh
 refine ⟨[sA Ch, iA Cm, iA Cn, iA Cq, iA Cv, iA Cw, tA (qGEx Cx), iA Cy, iA Cz, iA CA, iA CB, iA CC], Gb Dg, ?_⟩
 cbv
 exact Eb
 replace hh := ifF hh o
 try rw [o]
 cbv
 refine bcs (fun s => ?_) (fun s => ?_)
 replace hh := ifT hh s
 try rw [s]
 cbv
 replace hh := bind_some hh
 obtain ⟨⟨Dx, ⟨Dh, Di⟩⟩, Dj, hh⟩ := hh
 try dsimp only at hh
 refine ⟨Ob, ?_⟩
 have fc := aT hQ Dj
 try dsimp only at fc
 refine ac hF fc ?_
 cbv
 replace hh := aa hh
 obtain ⟨J, hh⟩ := hh
 try dsimp only at J
 replace hh := aa hh
 obtain ⟨K, hh⟩ := hh
 try dsimp only at K
 refine ⟨Nb J, Mb K, ?_⟩
 replace hh := bind_some hh
 obtain ⟨⟨CD, CE, CF, ⟨CG, CH, CI, CJ⟩, CK, CL, CM, CN, CO⟩, Dk, hh⟩ := hh
 try dsimp only at hh
 refine ⟨[sA CD, iA CE, iA CF, iA CG, iA CH, iA CI, tA (qGEx CJ), iA CK, iA CL, iA CM, iA CN, iA CO], Gb Dk, ?_⟩
 cbv
 exact Eb
 replace hh := ifF hh s
 try rw [s]
 cbv
 refine bcs (fun t => ?_) (fun t => ?_)
 replace hh := ifT hh t
 try rw [t]
 cbv
 replace hh := bind_some hh
 obtain ⟨⟨⟨v, w, y, z⟩, ⟨Dl, Dm⟩⟩, Dn, hh⟩ := hh
 try dsimp only at hh
 have fc := ah.frz (r' := .agg [iA v, iA w, iA y, tA (qGEx z)]) (vg hQ Dn) (by cases hQ; simp)
 try dsimp only at fc
 refine ac hF fc ?_
 cbv
 replace hh := aa hh
 obtain ⟨L, hh⟩ := hh
 try dsimp only at L
 replace hh := aa hh
 obtain ⟨M, hh⟩ := hh
 try dsimp only at M
 refine ⟨Nb L, Mb M, ?_⟩
 replace hh := bind_some hh
 obtain ⟨⟨CP, CQ, CS, ⟨CT, CU, CV, CW⟩, CX, CY, CZ, C0, C1⟩, Do, hh⟩ := hh
 try dsimp only at hh
 refine ⟨[sA CP, iA CQ, iA CS, iA CT, iA CU, iA CV, tA (qGEx CW), iA CX, iA CY, iA CZ, iA C0, iA C1], Gb Do, ?_⟩
 cbv
 exact Eb
 replace hh := ifF hh t
 try rw [t]
 cbv
 exact Eb

theorem qa {k : Nat} {p0 : List Int} {r : GRule} (hh : eR.f k p0 = some r) : ah P 31 [tA (qIu8 p0)] [hA] (.agg [sA r.Name, iA r.Pri, iA r.Mode, iA r.Ex.Kind, iA r.Ex.Sym, iA r.Ex.N, tA (qGEx r.Ex.Kids), iA r.Low, iA r.High, iA r.Key, iA r.Add, iA r.Raise]) := by
 unfold eR.f at hh
 refine go (ts := [(2, some 60)]) (rm := [.val]) (pm := [.skip]) Tryz.func31 ?_
 intro Fn LW IN len cast toNat wrap add sub mul bin lt eq At set part app fz' rep nadd nmax ssize sext sget scat seq slt Wide Flat Ones Room r' post' hC hF hr hp
 cbv
 replace hh := bind_some hh
 obtain ⟨⟨dj, xm⟩, W, hh⟩ := hh
 try dsimp only at hh
 refine ac hF (tn hQ W) ?_
 cbv
 replace hh := bind_some hh
 obtain ⟨⟨X, ⟨U, V⟩⟩, Y, hh⟩ := hh
 try dsimp only at hh
 have fc := u7 hQ Y
 try dsimp only at fc
 refine ac hF fc ?_
 cbv
 refine bcs (fun b => ?_) (fun b => ?_)
 replace hh := ifT hh b
 try rw [b]
 cbv
 replace hh := bind_some hh
 obtain ⟨⟨⟨B, C, D, ⟨F, G, H, I⟩, J, K, L, M, O⟩, ⟨Q, R⟩⟩, Z, hh⟩ := hh
 try dsimp only at hh
 have fc := oy hQ Z
 try dsimp only at fc
 refine ac hF fc ?_
 cbv
 exact Eb
 replace hh := ifF hh b
 try rw [b]
 cbv
 replace hh := aa hh
 obtain ⟨S, hh⟩ := hh
 replace hh := aa hh
 obtain ⟨c, hh⟩ := hh
 try dsimp only at c
 refine ⟨Nb S, Mb c, ?_⟩
 replace hh := bind_some hh
 obtain ⟨⟨d, j, o, ⟨p, s, t, u⟩, v, w, y, z, A⟩, T, hh⟩ := hh
 try dsimp only at hh
 refine ⟨[sA d, iA j, iA o, iA p, iA s, iA t, tA (qGEx u), iA v, iA w, iA y, iA z, iA A], Gb T, ?_⟩
 cbv
 exact Eb

theorem ve {k : Nat} {p0 : ByteArray} {r : Bool} (hh : cH.f k p0 = some r) : ah P 78 [sA p0] [hA] (bA r) := by
 unfold cH.f at hh
 refine go (ts := [(2, none)]) (rm := [.own]) (pm := [.skip]) Tryz.func78 ?_
 intro Fn LW IN len cast toNat wrap add sub mul bin lt eq At set part app fz' rep nadd nmax ssize sext sget scat seq slt Wide Flat Ones Room r' post' hC hF hr hp
 cbv
 replace hh := bind_some hh
 obtain ⟨B, t, o⟩ := hh
 refine au hC eok mixed (cH.l0 k p0)
  (fun p => (⟨[(0, sA p0), (3, iA p)], []⟩ : St))
  (fun (_ : Unit) => (⟨[(0, sA p0)], []⟩ : St)) .ok (.exit 0)
  (i0 := _) t (fun _ => rfl) ?_ ?_ ?_
 ·rintro C e
  refine ai ?_
  cbv
  all_goals exact J1
 rintro _ hx
 subst B
 have hh := o
 cbv
 refine bcs (fun b => ?_) (fun b => ?_)
 replace hh := ifT hh b
 try rw [b]
 cbv
 exact Eb
 replace hh := ifF hh b
 try rw [b]
 cbv
 exact Eb
 rintro n p D F hh u v s
 unfold cH.l0 at hh
 cbv
 refine bcs (fun c => ?_) (fun c => ?_)
 replace hh := ifT hh c
 try rw [c]
 cbv
 replace hh := aa hh
 obtain ⟨w, hh⟩ := hh
 replace hh := aa hh
 obtain ⟨y, hh⟩ := hh
 refine ⟨⟨Nb w, Mb y⟩, ?_⟩
 refine bcs (fun d => ?_) (fun d => ?_)
 replace hh := ifT hh d
 try rw [d]
 cbv
 cases hh
 have hh : some _ = some _ := o
 refine s _ _ ?_
 cbv
 exact Eb
 replace hh := ifF hh d
 try rw [d]
 cbv
 replace hh := aa hh
 obtain ⟨z, hh⟩ := hh
 replace hh := aa hh
 obtain ⟨A, hh⟩ := hh
 refine ⟨⟨Nb z, Mb A⟩, ?_⟩
 refine bcs (fun j => ?_) (fun j => ?_)
 replace hh := ifT hh j
 try rw [j]
 cbv
 cases hh
 have hh : some _ = some _ := o
 refine s _ _ ?_
 cbv
 exact Eb
 replace hh := ifF hh j
 try rw [j]
 cbv
 ·refine u _ _ hh fun C e => ?_
  refine ai ?_
  cbv
  all_goals exact J1
 replace hh := ifF hh c
 try rw [c]
 cbv
 ·refine v () _ hh fun _ e => ?_
  refine ai ?_
  cbv
  all_goals exact J0

theorem uX {p0 : Int} {r : Bool} (hh : iB.f p0 = some r) : ah P 79 [iA p0] [hA] (bA r) := by
 unfold iB.f at hh
 refine go (ts := [(2, none)]) (rm := [.own]) (pm := [.skip]) Tryz.func79 ?_
 intro Fn LW IN len cast toNat wrap add sub mul bin lt eq At set part app fz' rep nadd nmax ssize sext sget scat seq slt Wide Flat Ones Room r' post' hC hF hr hp
 cbv
 replace hh := aD hh
 rcases hh with ⟨c, hh⟩ | ⟨c, hh⟩
 have b : (lt p0 0) = true := Tb c
 have g := b; cbv at g; try rw [b]
 try rw [g]
 cbv
 exact Eb
 have b : (lt p0 0) = false := Fb c
 have g := b; cbv at g; try rw [b]
 try rw [g]
 cbv
 exact Eb

theorem oq {k : Nat} {p0 : GRule} {r : Bool} (hh : gu.f k p0 = some r) : ah P 32 [.agg [sA p0.Name, iA p0.Pri, iA p0.Mode, iA p0.Ex.Kind, iA p0.Ex.Sym, iA p0.Ex.N, tA (qGEx p0.Ex.Kids), iA p0.Low, iA p0.High, iA p0.Key, iA p0.Add, iA p0.Raise]] [hA] (bA r) := by
 obtain ⟨p0a, p0b, p0c, ⟨p0d, p0e, p0f, p0g⟩, p0h, p0i, p0j, p0k, p0l⟩ := p0
 unfold gu.f at hh
 refine go (ts := [(2, none)]) (rm := [.own]) (pm := [.skip]) Tryz.func32 ?_
 intro Fn LW IN len cast toNat wrap add sub mul bin lt eq At set part app fz' rep nadd nmax ssize sext sget scat seq slt Wide Flat Ones Room r' post' hC hF hr hp
 cbv
 replace hh := bind_some hh
 obtain ⟨R, M, hh⟩ := hh
 refine ac hF (ve hQ M) ?_
 cbv
 refine bcs (fun w => ?_) (fun w => ?_)
 replace hh := ifT hh w
 try rw [w]
 cbv
 replace hh := aD hh
 rcases hh with ⟨I, hh⟩ | ⟨I, hh⟩
 have y : (lt p0b 0) = true := Tb I
 have g := y; cbv at g; try rw [y]
 try rw [g]
 cbv
 exact Eb
 have y : (lt p0b 0) = false := Fb I
 have g := y; cbv at g; try rw [y]
 try rw [g]
 cbv
 replace hh := aD hh
 rcases hh with ⟨J, hh⟩ | ⟨J, hh⟩
 have z : (lt 9 p0b) = true := Tb J
 have g := z; cbv at g; try rw [z]
 try rw [g]
 cbv
 exact Eb
 have z : (lt 9 p0b) = false := Fb J
 have g := z; cbv at g; try rw [z]
 try rw [g]
 cbv
 replace hh := bind_some hh
 obtain ⟨O, K, hh⟩ := hh
 refine ac hF (uX hQ K) ?_
 cbv
 refine bcs (fun b => ?_) (fun b => ?_)
 replace hh := ifT hh b
 try rw [b]
 cbv
 replace hh := bind_some hh
 obtain ⟨Q, L, hh⟩ := hh
 refine ac hF (qx hQ L) ?_
 cbv
 refine bcs (fun c => ?_) (fun c => ?_)
 replace hh := ifT hh c
 try rw [c]
 cbv
 replace hh := aD hh
 rcases hh with ⟨A, hh⟩ | ⟨A, hh⟩
 have d : (lt p0h 0) = true := Tb A
 have g := d; cbv at g; try rw [d]
 try rw [g]
 cbv
 exact Eb
 have d : (lt p0h 0) = false := Fb A
 have g := d; cbv at g; try rw [d]
 try rw [g]
 cbv
 replace hh := aD hh
 rcases hh with ⟨B, hh⟩ | ⟨B, hh⟩
 have j : (lt p0i p0h) = true := Tb B
 have g := j; cbv at g; try rw [j]
 try rw [g]
 cbv
 exact Eb
 have j : (lt p0i p0h) = false := Fb B
 have g := j; cbv at g; try rw [j]
 try rw [g]
 cbv
 replace hh := aD hh
 rcases hh with ⟨C, hh⟩ | ⟨C, hh⟩
 have o : (lt 100 p0i) = true := Tb C
 have g := o; cbv at g; try rw [o]
 try rw [g]
 cbv
 exact Eb
 have o : (lt 100 p0i) = false := Fb C
 have g := o; cbv at g; try rw [o]
 try rw [g]
 cbv
 replace hh := aD hh
 rcases hh with ⟨D, hh⟩ | ⟨D, hh⟩
 have p : (lt p0j 0) = true := Tb D
 have g := p; cbv at g; try rw [p]
 try rw [g]
 cbv
 exact Eb
 have p : (lt p0j 0) = false := Fb D
 have g := p; cbv at g; try rw [p]
 try rw [g]
 cbv
 refine bcs (fun s => ?_) (fun s => ?_)
 replace hh := ifT hh s
 try rw [s]
 cbv
 replace hh := aD hh
 rcases hh with ⟨F, hh⟩ | ⟨F, hh⟩
 have t : (lt p0k (-9)) = true := Tb F
 have g := t; cbv at g; try rw [t]
 try rw [g]
 cbv
 exact Eb
 have t : (lt p0k (-9)) = false := Fb F
 have g := t; cbv at g; try rw [t]
 try rw [g]
 cbv
 replace hh := aD hh
 rcases hh with ⟨G, hh⟩ | ⟨G, hh⟩
 have u : (lt 9 p0k) = true := Tb G
 have g := u; cbv at g; try rw [u]
 try rw [g]
 cbv
 exact Eb
 have u : (lt 9 p0k) = false := Fb G
 have g := u; cbv at g; try rw [u]
 try rw [g]
 cbv
 replace hh := aD hh
 rcases hh with ⟨H, hh⟩ | ⟨H, hh⟩
 have v : (lt p0l (-1)) = true := Tb H
 have g := v; cbv at g; try rw [v]
 try rw [g]
 cbv
 exact Eb
 have v : (lt p0l (-1)) = false := Fb H
 have g := v; cbv at g; try rw [v]
 try rw [g]
 cbv
 exact Eb
 replace hh := ifF hh s
 try rw [s]
 cbv
 exact Eb
 replace hh := ifF hh c
 try rw [c]
 cbv
 exact Eb
 replace hh := ifF hh b
 try rw [b]
 cbv
 exact Eb
 replace hh := ifF hh w
 try rw [w]
 cbv
 exact Eb

theorem bo {p0 : Int} {p1 : Int} {p2 : Int} {r : Bool} (hh : ba.f p0 p1 p2 = some r) : ah P 81 [iA p0, iA p1, iA p2] [hA, hA, hA] (bA r) := by
 unfold ba.f at hh
 refine go (ts := [(6, none)]) (rm := [.own]) (pm := [.skip, .skip, .skip]) Tryz.func81 ?_
 intro Fn LW IN len cast toNat wrap add sub mul bin lt eq At set part app fz' rep nadd nmax ssize sext sget scat seq slt Wide Flat Ones Room r' post' hC hF hr hp
 cbv
 replace hh := aD hh
 rcases hh with ⟨c, hh⟩ | ⟨c, hh⟩
 have b : (lt p0 p1) = true := Tb c
 have g := b; cbv at g; try rw [b]
 try rw [g]
 cbv
 exact Eb
 have b : (lt p0 p1) = false := Fb c
 have g := b; cbv at g; try rw [b]
 try rw [g]
 cbv
 exact Eb

theorem uM {k : Nat} {p0 : ByteArray} {r : Bool} (hh : cG.f k p0 = some r) : ah P 80 [sA p0] [hA] (bA r) := by
 unfold cG.f at hh
 refine go (ts := [(2, none)]) (rm := [.own]) (pm := [.skip]) Tryz.func80 ?_
 intro Fn LW IN len cast toNat wrap add sub mul bin lt eq At set part app fz' rep nadd nmax ssize sext sget scat seq slt Wide Flat Ones Room r' post' hC hF hr hp
 cbv
 replace hh := bind_some hh
 obtain ⟨B, s, j⟩ := hh
 refine au hC eok mixed (cG.l0 k p0)
  (fun o => (⟨[(0, sA p0), (5, iA (cast (ssize p0))), (6, iA o)], []⟩ : St))
  (fun (_ : Unit) => (⟨[(0, sA p0)], []⟩ : St)) .ok (.exit 0)
  (i0 := _) s (fun _ => rfl) ?_ ?_ ?_
 ·rintro C e
  refine ai ?_
  cbv
  all_goals exact J1
 rintro _ hx
 subst B
 have hh := j
 cbv
 replace hh := bind_some hh
 obtain ⟨D, t, hh⟩ := hh
 refine ac hF (bo hQ t) ?_
 cbv
 exact Eb
 rintro n o F G hh u v p
 unfold cG.l0 at hh
 cbv
 refine bcs (fun b => ?_) (fun b => ?_)
 replace hh := ifT hh b
 try rw [b]
 cbv
 replace hh := aa hh
 obtain ⟨w, hh⟩ := hh
 replace hh := aa hh
 obtain ⟨y, hh⟩ := hh
 refine ⟨⟨Nb w, Mb y⟩, ?_⟩
 refine bcs (fun c => ?_) (fun c => ?_)
 replace hh := ifT hh c
 try rw [c]
 cbv
 cases hh
 have hh : some _ = some _ := j
 refine p _ _ ?_
 cbv
 exact Eb
 replace hh := ifF hh c
 try rw [c]
 cbv
 replace hh := aa hh
 obtain ⟨z, hh⟩ := hh
 replace hh := aa hh
 obtain ⟨A, hh⟩ := hh
 refine ⟨⟨Nb z, Mb A⟩, ?_⟩
 refine bcs (fun d => ?_) (fun d => ?_)
 replace hh := ifT hh d
 try rw [d]
 cbv
 cases hh
 have hh : some _ = some _ := j
 refine p _ _ ?_
 cbv
 exact Eb
 replace hh := ifF hh d
 try rw [d]
 cbv
 ·refine u _ _ hh fun C e => ?_
  refine ai ?_
  cbv
  all_goals exact J1
 replace hh := ifF hh b
 try rw [b]
 cbv
 ·refine v () _ hh fun _ e => ?_
  refine ai ?_
  cbv
  all_goals exact J0

theorem iP {p0 : Int} {r : Bool} (hh : cI.f p0 = some r) : ah P 58 [iA p0] [hA] (bA r) := by
 unfold cI.f at hh
 refine go (ts := [(2, none)]) (rm := [.own]) (pm := [.skip]) Tryz.func58 ?_
 intro Fn LW IN len cast toNat wrap add sub mul bin lt eq At set part app fz' rep nadd nmax ssize sext sget scat seq slt Wide Flat Ones Room r' post' hC hF hr hp
 cbv
 replace hh := bind_some hh
 obtain ⟨c, b, hh⟩ := hh
 refine ac hF (bo hQ b) ?_
 cbv
 exact Eb

theorem zS : ∀ k : Nat, (∀ {p0 : GEx} {r : Int × Int}, bD.f k p0 = some r → ah P 121 [.agg [iA p0.Kind, iA p0.Sym, iA p0.N, tA (qGEx p0.Kids)]] [hA] (.tup [iA r.1, iA r.2])) := by
  intro k
  induction k using Nat.strongRecOn with
  | _ k ih =>
  · intro p0 r hh
    cases k with
    | zero => unfold bD.f at hh; cases hh
    | succ k =>
    obtain ⟨p0a, p0b, p0c, p0d⟩ := p0
    unfold bD.f at hh
    refine go (ts := [(2, none), (3, none)]) (rm := [.own, .own]) (pm := [.skip]) Tryz.func121 ?_
    intro Fn LW IN len cast toNat wrap add sub mul bin lt eq At set part app fz' rep nadd nmax ssize sext sget scat seq slt Wide Flat Ones Room r' post' hC hF hr hp
    cbv
    replace hh := bind_some hh
    obtain ⟨M, D, F⟩ := hh
    refine au hC eok mixed (fun n (i : Int × Int × Int) => bD.l0 k (bD.f k) (⟨p0a, p0b, p0c, p0d⟩ : GEx) n i.1 i.2.1 i.2.2)
     (fun ⟨p, d, s⟩ => (⟨[(4, iA p), (5, iA d), (11, tA (qGEx p0d)), (12, iA (cast (len (qGEx p0d)))), (13, iA s)], []⟩ : St))
     (fun (⟨t, u⟩ : Int × Int) => (⟨[(4, iA t), (5, iA u)], []⟩ : St)) (fun x => x) (.exit 0)
     (i0 := (_, _, _)) D (fun _ => rfl) ?_ ?_ ?_
    ·rintro ⟨w, y, G⟩ e
     refine ai ?_
     cbv
     all_goals exact J3
    rintro ⟨t, u⟩ hx
    subst M
    have hh := F
    cbv
    exact Eb
    rintro n ⟨p, d, s⟩ Q R hh v H O
    try dsimp only at hh
    unfold bD.l0 at hh
    cbv
    refine bcs (fun b => ?_) (fun b => ?_)
    replace hh := ifT hh b
    try rw [b]
    cbv
    replace hh := aa hh
    obtain ⟨I, hh⟩ := hh
    replace hh := bind_some hh
    obtain ⟨⟨z, A, B, C⟩, J, hh⟩ := hh
    try dsimp only at hh
    refine ⟨[iA z, iA A, iA B, tA (qGEx C)], Nb I, Gb J, ?_⟩
    cbv
    replace hh := bind_some hh
    obtain ⟨⟨L, j⟩, K, hh⟩ := hh
    try dsimp only at hh
    refine ac hF ((ih k (Nat.lt_succ_self k)) K) ?_
    cbv
    replace hh := aD hh
    rcases hh with ⟨o, hh⟩ | ⟨o, hh⟩
    have c : (lt d (wrap .i64 (add j 1))) = true := Tb o
    have g := c; cbv at g; try rw [c]
    try rw [g]
    cbv
    ·refine v (_, _, _) _ hh fun ⟨w, y, G⟩ e => ?_
     refine ai ?_
     cbv
     all_goals exact J3
    have c : (lt d (wrap .i64 (add j 1))) = false := Fb o
    have g := c; cbv at g; try rw [c]
    try rw [g]
    cbv
    ·refine v (_, _, _) _ hh fun ⟨w, y, G⟩ e => ?_
     refine ai ?_
     cbv
     all_goals exact J3
    replace hh := ifF hh b
    try rw [b]
    cbv
    ·refine H (_, _) _ hh fun ⟨w, y⟩ e => ?_
     refine ai ?_
     cbv
     all_goals exact J2
theorem tp {k : Nat} {p0 : GEx} {r : Int × Int} (hh : bD.f k p0 = some r) : ah P 121 [.agg [iA p0.Kind, iA p0.Sym, iA p0.N, tA (qGEx p0.Kids)]] [hA] (.tup [iA r.1, iA r.2]) := (zS hQ k) hh


theorem oB {p0 : Int} {r : Bool} (hh : ff.f p0 = some r) : ah P 176 [iA p0] [hA] (bA r) := by
 unfold ff.f at hh
 refine go (ts := [(2, none)]) (rm := [.own]) (pm := [.skip]) Tryz.func176 ?_
 intro Fn LW IN len cast toNat wrap add sub mul bin lt eq At set part app fz' rep nadd nmax ssize sext sget scat seq slt Wide Flat Ones Room r' post' hC hF hr hp
 cbv
 replace hh := bind_some hh
 obtain ⟨c, b, hh⟩ := hh
 refine ac hF (bo hQ b) ?_
 cbv
 exact Eb

theorem qz {p0 : Int} {r : Int} (hh : ko.f p0 = some r) : ah P 177 [iA p0] [hA] (iA r) := by
 unfold ko.f at hh
 refine go (ts := [(2, none)]) (rm := [.own]) (pm := [.skip]) Tryz.func177 ?_
 intro Fn LW IN len cast toNat wrap add sub mul bin lt eq At set part app fz' rep nadd nmax ssize sext sget scat seq slt Wide Flat Ones Room r' post' hC hF hr hp
 cbv
 replace hh := aa hh
 obtain ⟨b, hh⟩ := hh
 replace hh := aa hh
 obtain ⟨c, hh⟩ := hh
 refine ⟨Nb b, Mb c, ?_⟩
 replace hh := bind_some hh
 obtain ⟨d, j, hh⟩ := hh
 refine ⟨[iA d], Gb j, ?_⟩
 cbv
 exact Eb

theorem hJ {p0 : Int} {r : Bool} (hh : dd.f p0 = some r) : ah P 51 [iA p0] [hA] (bA r) := by
 unfold dd.f at hh
 refine go (ts := [(2, none)]) (rm := [.own]) (pm := [.skip]) Tryz.func51 ?_
 intro Fn LW IN len cast toNat wrap add sub mul bin lt eq At set part app fz' rep nadd nmax ssize sext sget scat seq slt Wide Flat Ones Room r' post' hC hF hr hp
 cbv
 replace hh := bind_some hh
 obtain ⟨c, b, hh⟩ := hh
 refine ac hF (bo hQ b) ?_
 cbv
 exact Eb

theorem gC {k : Nat} {g1 : GEx → Option Bool} (hg1 : ∀ {y0 : GEx} {r : Bool}, g1 y0 = some r → ah P 179 [.agg [iA y0.Kind, iA y0.Sym, iA y0.N, tA (qGEx y0.Kids)]] [hA] (bA r)) {p0 : List GEx} {r : Int} (hh : bt.f g1 k p0 = some r) : ah P 213 [tA (qGEx p0), .clo 179 []] [hA, hA] (iA r) := by
 unfold bt.f at hh
 refine go (ts := [(4, none)]) (rm := [.own]) (pm := [.skip, .skip]) Tryz.func213 ?_
 intro Fn LW IN len cast toNat wrap add sub mul bin lt eq At set part app fz' rep nadd nmax ssize sext sget scat seq slt Wide Flat Ones Room r' post' hC hF hr hp
 cbv
 replace hh := bind_some hh
 obtain ⟨C, u, d⟩ := hh
 refine au hC eok mixed (bt.l0 k g1 p0)
  (fun j => (⟨[(0, tA (qGEx p0)), (1, .clo 179 []), (7, iA (cast (len (qGEx p0)))), (8, iA j)], []⟩ : St))
  (fun (_ : Unit) => (⟨[], []⟩ : St)) .ok (.exit 0)
  (i0 := _) u (fun _ => rfl) ?_ ?_ ?_
 ·rintro D e
  refine ai ?_
  cbv
  all_goals exact J1
 rintro _ hx
 subst C
 have hh := d
 cbv
 exact Eb
 rintro n j G H hh v w y
 unfold bt.l0 at hh
 cbv
 refine bcs (fun b => ?_) (fun b => ?_)
 replace hh := ifT hh b
 try rw [b]
 cbv
 replace hh := aa hh
 obtain ⟨z, hh⟩ := hh
 replace hh := bind_some hh
 obtain ⟨⟨o, p, s, t⟩, A, hh⟩ := hh
 try dsimp only at hh
 refine ⟨[iA o, iA p, iA s, tA (qGEx t)], Nb z, Gb A, ?_⟩
 cbv
 replace hh := bind_some hh
 obtain ⟨F, B, hh⟩ := hh
 refine ac hF (hg1 B) ?_
 cbv
 refine bcs (fun c => ?_) (fun c => ?_)
 replace hh := ifT hh c
 try rw [c]
 cbv
 cases hh
 have hh : some _ = some _ := d
 refine y _ _ ?_
 cbv
 exact Eb
 replace hh := ifF hh c
 try rw [c]
 cbv
 ·refine v _ _ hh fun D e => ?_
  refine ai ?_
  cbv
  all_goals exact J1
 replace hh := ifF hh b
 try rw [b]
 cbv
 ·refine w () _ hh fun _ e => ?_
  refine ai ?_
  cbv
  all_goals exact J0

theorem bW {k : Nat} {g1 : GEx → Option Bool} (hg1 : ∀ {y0 : GEx} {r : Bool}, g1 y0 = some r → ah P 179 [.agg [iA y0.Kind, iA y0.Sym, iA y0.N, tA (qGEx y0.Kids)]] [hA] (bA r)) {p0 : List GEx} {r : Bool} (hh : bM.f g1 k p0 = some r) : ah P 178 [tA (qGEx p0), .clo 179 []] [hA, hA] (bA r) := by
 unfold bM.f at hh
 refine go (ts := [(4, none)]) (rm := [.own]) (pm := [.skip, .skip]) Tryz.func178 ?_
 intro Fn LW IN len cast toNat wrap add sub mul bin lt eq At set part app fz' rep nadd nmax ssize sext sget scat seq slt Wide Flat Ones Room r' post' hC hF hr hp
 cbv
 replace hh := bind_some hh
 obtain ⟨c, b, hh⟩ := hh
 refine ac hF (gC hQ (g1 := g1) hg1 b) ?_
 cbv
 exact Eb

end Go.Proofs.YtlbnmldopjadoaaGreat
