/- The functions of this program do what the plain ones do. -/
import Derived.Test.YtlbnmldopjadoaaGreatN
import Derived.Test.YtlbnmldopjadoaaGreatVE
import Derived.Test.YtlbnmldopjadoaaGreatX
namespace Go.Proofs.YtlbnmldopjadoaaGreat
open Go Go.Vm
set_option linter.unusedVariables false
set_option maxHeartbeats 4000000
set_option maxRecDepth 4000
noncomputable abbrev P : Program := Tryz.prog
variable {qIu8 : List Int → Vm.Rows} {qGEx : List GEx → Vm.Rows} {qGRule : List GRule → Vm.Rows} {qStr : List ByteArray → Vm.Rows} {qInt : List Int → Vm.Rows} {qGExO : List GEx → Vm.Rows} {qGOcc : List GOcc → Vm.Rows} {qGNode : List GNode → Vm.Rows} {qGGraphS : List GGraph → Vm.Rows} {qGGraph : List GGraph → Vm.Rows} {qGEv : List GEv → Vm.Rows} {qGFire : List GFire → Vm.Rows} {qLGOcc : List (List GOcc) → Vm.Rows} {qGOccO : List GOcc → Vm.Rows} {qLInt : List (List Int) → Vm.Rows} (hQ : EQ qIu8 qGEx qGRule qStr qInt qGExO qGOcc qGNode qGGraphS qGGraph qGEv qGFire qLGOcc qGOccO qLInt)
include hQ
theorem ni {p0 : List Int} {r : Gl14Rd} (hh : fG.f p0 = some r) : ai P 48 [tA (qIu8 p0)] [hA] (.obox [tA (qIu8 r.b), iA r.p]) := by
 unfold fG.f at hh
 refine go (ts := [(2, none)]) (rm := [.own]) (pm := [.skip]) Tryz.func48 ?_
 unhygienic intros
 cbv
 refine bcs (fun c => ?_) (fun c => ?_)
 replace hh := ifT hh c
 try rw [c]
 cbv
 replace hh := aa hh
 obtain ⟨d, hh⟩ := hh
 replace hh := aa hh
 obtain ⟨j, hh⟩ := hh
 replace hh := aa hh
 obtain ⟨o, hh⟩ := hh
 refine ⟨⟨Nb d, Nb j, Nb o, Ab⟩, ?_⟩
 exact Eb
 replace hh := ifF hh c
 try rw [c]
 cbv
 exact Eb

theorem bD {p0 : Gl14Rd} {p1 : Int} {r : Int × Gl14Rd} (hh : aZ.f p0 p1 = some r) : ai P 117 [.obox [tA (qIu8 p0.b), iA p0.p], iA p1] [.obox [tA (qIu8 r.2.b), iA r.2.p], hA] (iA r.1) := by
 obtain ⟨p0a, p0b⟩ := p0
 unfold aZ.f at hh
 refine go (ts := [(4, none)]) (rm := [.own]) (pm := [.own, .skip]) Tryz.func117 ?_
 unhygienic intros
 cbv
 refine bcs (fun c => ?_) (fun c => ?_)
 replace hh := ifT hh c
 try rw [c]
 cbv
 exact Eb
 replace hh := ifF hh c
 try rw [c]
 cbv
 refine bcs (fun d => ?_) (fun d => ?_)
 replace hh := ifT hh d
 try rw [d]
 cbv
 exact Eb
 replace hh := ifF hh d
 try rw [d]
 cbv
 refine bcs (fun j => ?_) (fun j => ?_)
 replace hh := ifT hh j
 try rw [j]
 cbv
 replace hh := aa hh
 obtain ⟨w, hh⟩ := hh
 try dsimp only at w
 replace hh := bind_some hh
 obtain ⟨F, G, hh⟩ := hh
 refine ⟨[.lit (.int .u8 F)], Nb w, Gb G, ?_⟩
 cbv
 replace hh := aa hh
 obtain ⟨y, hh⟩ := hh
 refine ⟨Wb y, ?_⟩
 exact Eb
 replace hh := ifF hh j
 try rw [j]
 cbv
 replace hh := aa hh
 obtain ⟨o, hh⟩ := hh
 try dsimp only at o
 refine ⟨Wb o, ?_⟩
 replace hh := aa hh
 obtain ⟨s, hh⟩ := hh
 try dsimp only at s
 replace hh := bind_some hh
 obtain ⟨z, A, hh⟩ := hh
 refine ⟨[.lit (.int .u8 z)], Nb s, Gb A, ?_⟩
 cbv
 replace hh := aa hh
 obtain ⟨t, hh⟩ := hh
 try dsimp only at t
 refine ⟨Wb t, ?_⟩
 replace hh := aa hh
 obtain ⟨u, hh⟩ := hh
 try dsimp only at u
 replace hh := bind_some hh
 obtain ⟨B, C, hh⟩ := hh
 refine ⟨[.lit (.int .u8 B)], Nb u, Gb C, ?_⟩
 cbv
 replace hh := aa hh
 obtain ⟨v, hh⟩ := hh
 try dsimp only at v
 refine ⟨Wb v, ?_⟩
 replace hh := aa hh
 obtain ⟨D, hh⟩ := hh
 refine ⟨Wb D, ?_⟩
 exact Eb

theorem aT {p0 : Gl14Rd} {p1 : List Int} {r : Int × Gl14Rd} (hh : aG.f p0 p1 = some r) : ai P 101 [.obox [tA (qIu8 p0.b), iA p0.p], tA (qInt p1)] [.obox [tA (qIu8 r.2.b), iA r.2.p], hA] (iA r.1) := by
 obtain ⟨p0a, p0b⟩ := p0
 unfold aG.f at hh
 refine go (ts := [(4, none)]) (rm := [.own]) (pm := [.own, .skip]) Tryz.func101 ?_
 unhygienic intros
 cbv
 replace hh := bind_some hh
 obtain ⟨⟨o, ⟨d, j⟩⟩, s, hh⟩ := hh
 try dsimp only at hh
 have fc := bD hQ s
 try dsimp only at fc
 refine ac hF fc ?_
 cbv
 replace hh := aa hh
 obtain ⟨c, hh⟩ := hh
 try dsimp only at c
 replace hh := bind_some hh
 obtain ⟨t, u, hh⟩ := hh
 refine ⟨[iA t], Nb c, Gb u, ?_⟩
 cbv
 exact Eb

theorem kV {p0 : Int} {r : Int} (hh : fp.f p0 = some r) : ai P 120 [iA p0] [hA] (iA r) := by
 unfold fp.f at hh
 refine go (ts := [(2, none)]) (rm := [.own]) (pm := [.skip]) Tryz.func120 ?_
 unhygienic intros
 cbv
 refine bcs (fun j => ?_) (fun j => ?_)
 replace hh := ifT hh j
 try rw [j]
 cbv
 exact Eb
 replace hh := ifF hh j
 try rw [j]
 cbv
 refine bcs (fun o => ?_) (fun o => ?_)
 replace hh := ifT hh o
 try rw [o]
 cbv
 exact Eb
 replace hh := ifF hh o
 try rw [o]
 cbv
 refine bcs (fun p => ?_) (fun p => ?_)
 replace hh := ifT hh p
 try rw [p]
 cbv
 exact Eb
 replace hh := ifF hh p
 try rw [p]
 cbv
 refine bcs (fun s => ?_) (fun s => ?_)
 replace hh := ifT hh s
 try rw [s]
 cbv
 exact Eb
 replace hh := ifF hh s
 try rw [s]
 cbv
 refine bcs (fun b => ?_) (fun b => ?_)
 replace hh := ifT hh b
 try rw [b]
 cbv
 exact Eb
 replace hh := ifF hh b
 try rw [b]
 cbv
 refine bcs (fun c => ?_) (fun c => ?_)
 replace hh := ifT hh c
 try rw [c]
 cbv
 exact Eb
 replace hh := ifF hh c
 try rw [c]
 cbv
 refine bcs (fun d => ?_) (fun d => ?_)
 replace hh := ifT hh d
 try rw [d]
 cbv
 exact Eb
 replace hh := ifF hh d
 try rw [d]
 cbv
 exact Eb

theorem AM : ∀ k : Nat, (∀ {p0 : Gl14Rd} {p1 : Int} {r : GEx × Gl14Rd}, aX.f k p0 p1 = some r → ai P 138 [.obox [tA (qIu8 p0.b), iA p0.p], iA p1] [.obox [tA (qIu8 r.2.b), iA r.2.p], hA] (.agg [iA r.1.Kind, iA r.1.Sym, iA r.1.N, oA 4 (qGExO r.1.Kids)])) := by
  intro k
  induction k using Nat.strongRecOn with
  | _ k ih =>
  · intro p0 p1 r hh
    cases k with
    | zero => unfold aX.f at hh; cases hh
    | succ k =>
    obtain ⟨p0a, p0b⟩ := p0
    unfold aX.f at hh
    refine go (ts := [(4, some 25)]) (rm := [.own]) (pm := [.own, .skip]) Tryz.func138 ?_
    unhygienic intros
    cbv
    replace hh := az hh
    rcases hh with ⟨U, hh⟩ | ⟨U, hh⟩
    have t : (lt 1 p1) = true := Tb U
    have g := t; cbv at g; try rw [t]
    try rw [g]
    cbv
    replace hh := bind_some hh
    obtain ⟨⟨C1, ⟨CP, CQ⟩⟩, h3, hh⟩ := hh
    try dsimp only at hh
    have fc := bD hQ h3
    try dsimp only at fc
    refine ac hF fc ?_
    cbv
    refine bcs (fun u => ?_) (fun u => ?_)
    replace hh := ifT hh u
    try rw [u]
    cbv
    replace hh := bind_some hh
    obtain ⟨⟨C3, ⟨CU, CZ⟩⟩, h8, hh⟩ := hh
    try dsimp only at hh
    refine ⟨Ob, ?_⟩
    have fc := aT hQ h8
    try dsimp only at fc
    refine ac hF fc ?_
    cbv
    refine ⟨4, ?_⟩
    cbv
    exact Eb
    replace hh := ifF hh u
    try rw [u]
    cbv
    replace hh := bind_some hh
    obtain ⟨⟨c, ⟨X, Y⟩⟩, Z, hh⟩ := hh
    try dsimp only at hh
    refine ⟨Ob, ?_⟩
    have fc := aT hQ Z
    try dsimp only at fc
    refine ac hF fc ?_
    cbv
    refine bcs (fun d => ?_) (fun d => ?_)
    replace hh := ifT hh d
    try rw [d]
    cbv
    replace hh := bind_some hh
    obtain ⟨⟨s, ⟨dv, xI⟩⟩, Bo, hh⟩ := hh
    try dsimp only at hh
    refine ⟨Ob, ?_⟩
    have fc := aT hQ Bo
    try dsimp only at fc
    refine ac hF fc ?_
    cbv
    replace hh := bind_some hh
    obtain ⟨C7, B2, hh⟩ := hh
    refine ac hF (kV hQ B2) ?_
    cbv
    replace hh := bind_some hh
    obtain ⟨V, v, w⟩ := hh
    refine au hC eok mixed (fun n (i : (List Int) × Int × (List GEx) × Int) => aX.l0 k (aX.f k) p1 n i.1 i.2.1 i.2.2.1 i.2.2.2)
     (fun ⟨I, J, y, K⟩ => (⟨[(0, .mptr (0, 0) 1 0 0), (1, iA p1), (4, .mptr (4, 0) 1 0 0), (5, .mptr (5, 0) 1 0 0), (6, iA K), (1000000, .mptr (0, 0) 1 0 0)], [((0, 0), .box 1 [tA (qIu8 I), iA J]), ((4, 0), .box 1 [iA 0, iA 0, iA 0, .lit (.slice none 0 0)]), ((5, 0), .box 1 [iA c, iA 0, iA s, .ref (5, 53) 1 0 (len (qGExO y))]), ((5, 53), .arr 1 4 (qGExO y))]⟩ : St))
     (fun (⟨z, L, M⟩ : (List GEx) × (List Int) × Int) => (⟨[(4, .mptr (4, 0) 1 0 0), (5, .mptr (5, 0) 1 0 0), (1000000, .mptr (0, 0) 1 0 0)], [((0, 0), .box 1 [tA (qIu8 L), iA M]), ((4, 0), .box 1 [iA 0, iA 0, iA 0, .lit (.slice none 0 0)]), ((5, 0), .box 1 [iA c, iA 0, iA s, .ref (5, 53) 1 0 (len (qGExO z))]), ((5, 53), .arr 1 4 (qGExO z))]⟩ : St)) (fun x => x) (.exit 0)
     (i0 := (_, _, _, _)) v (fun _ => rfl) ?_ ?_ ?_
    ·rintro ⟨A, B, C, W⟩ e
     refine aw [((0, 0), (0, 0)), ((4, 0), (4, 0)), ((5, 0), (5, 0))] ?_
     cbv
     all_goals exact J4
    rintro ⟨z, L, M⟩ hx
    subst V
    have hh := w
    cbv
    exact Eb
    rintro n ⟨I, J, y, K⟩ N1 D1 hh D F B3
    try dsimp only at hh
    unfold aX.l0 at hh
    cbv
    refine bcs (fun j => ?_) (fun j => ?_)
    replace hh := ifT hh j
    try rw [j]
    cbv
    replace hh := bind_some hh
    obtain ⟨⟨⟨Ce, Cj, Ck, Cm⟩, ⟨Cn, Co⟩⟩, Cp, hh⟩ := hh
    try dsimp only at hh
    have fc := (ih k (Nat.lt_succ_self k)) Cp
    try dsimp only at fc
    refine ac hF fc ?_
    cbv
    replace hh := aa hh
    obtain ⟨Cq, hh⟩ := hh
    refine ⟨⟨Ob, Ab⟩, ?_⟩
    refine ⟨⟨Ob, Wb Cq⟩, ?_⟩
    ·refine D (_, _, _, _) _ hh fun ⟨A, B, C, W⟩ e => ?_
     refine aw [((0, 0), (0, 0)), ((4, 0), (4, 0)), ((5, 0), (5, 0)), ((5, 53), (43, 0))] ?_
     cbv
     all_goals exact J4
    replace hh := ifF hh j
    try rw [j]
    cbv
    ·refine F (_, _, _) _ hh fun ⟨A, B, C⟩ e => ?_
     refine ah ?_
     cbv
     all_goals exact J3
    replace hh := ifF hh d
    try rw [d]
    cbv
    replace hh := bind_some hh
    obtain ⟨C8, Cs, hh⟩ := hh
    refine ac hF (kV hQ Cs) ?_
    cbv
    replace hh := bind_some hh
    obtain ⟨V, v, w⟩ := hh
    refine au hC eok mixed (fun n (i : (List Int) × Int × (List GEx) × Int) => aX.l1 k (aX.f k) p1 n i.1 i.2.1 i.2.2.1 i.2.2.2)
     (fun ⟨O, Q, G, R⟩ => (⟨[(0, .mptr (0, 0) 1 0 0), (1, iA p1), (4, .mptr (4, 0) 1 0 0), (5, .mptr (5, 0) 1 0 0), (6, iA R), (1000000, .mptr (0, 0) 1 0 0)], [((0, 0), .box 1 [tA (qIu8 O), iA Q]), ((4, 0), .box 1 [iA 0, iA 0, iA 0, .lit (.slice none 0 0)]), ((5, 0), .box 1 [iA c, iA 0, iA 0, .ref (5, 53) 1 0 (len (qGExO G))]), ((5, 53), .arr 1 4 (qGExO G))]⟩ : St))
     (fun (⟨H, S, T⟩ : (List GEx) × (List Int) × Int) => (⟨[(4, .mptr (4, 0) 1 0 0), (5, .mptr (5, 0) 1 0 0), (1000000, .mptr (0, 0) 1 0 0)], [((0, 0), .box 1 [tA (qIu8 S), iA T]), ((4, 0), .box 1 [iA 0, iA 0, iA 0, .lit (.slice none 0 0)]), ((5, 0), .box 1 [iA c, iA 0, iA 0, .ref (5, 53) 1 0 (len (qGExO H))]), ((5, 53), .arr 1 4 (qGExO H))]⟩ : St)) (fun x => x) (.exit 0)
     (i0 := (_, _, _, _)) v (fun _ => rfl) ?_ ?_ ?_
    ·rintro ⟨A, B, C, W⟩ e
     refine aw [((0, 0), (0, 0)), ((4, 0), (4, 0)), ((5, 0), (5, 0))] ?_
     cbv
     all_goals exact J4
    rintro ⟨H, S, T⟩ hx
    subst V
    have hh := w
    cbv
    exact Eb
    rintro n ⟨O, Q, G, R⟩ N1 D1 hh D F B3
    try dsimp only at hh
    unfold aX.l1 at hh
    cbv
    refine bcs (fun o => ?_) (fun o => ?_)
    replace hh := ifT hh o
    try rw [o]
    cbv
    replace hh := bind_some hh
    obtain ⟨⟨⟨Ct, Cw, Cy, Cz⟩, ⟨CB, CE⟩⟩, CG, hh⟩ := hh
    try dsimp only at hh
    have fc := (ih k (Nat.lt_succ_self k)) CG
    try dsimp only at fc
    refine ac hF fc ?_
    cbv
    replace hh := aa hh
    obtain ⟨CH, hh⟩ := hh
    refine ⟨⟨Ob, Ab⟩, ?_⟩
    refine ⟨⟨Ob, Wb CH⟩, ?_⟩
    ·refine D (_, _, _, _) _ hh fun ⟨A, B, C, W⟩ e => ?_
     refine aw [((0, 0), (0, 0)), ((4, 0), (4, 0)), ((5, 0), (5, 0)), ((5, 53), (43, 0))] ?_
     cbv
     all_goals exact J4
    replace hh := ifF hh o
    try rw [o]
    cbv
    ·refine F (_, _, _) _ hh fun ⟨A, B, C⟩ e => ?_
     refine ah ?_
     cbv
     all_goals exact J3
    have t : (lt 1 p1) = false := Fb U
    have g := t; cbv at g; try rw [t]
    try rw [g]
    cbv
    replace hh := bind_some hh
    obtain ⟨⟨C0, ⟨CI, CJ⟩⟩, CK, hh⟩ := hh
    try dsimp only at hh
    refine ⟨Ob, ?_⟩
    have fc := aT hQ CK
    try dsimp only at fc
    refine ac hF fc ?_
    cbv
    refine ⟨4, ?_⟩
    cbv
    exact Eb
theorem mF {k : Nat} {p0 : Gl14Rd} {p1 : Int} {r : GEx × Gl14Rd} (hh : aX.f k p0 p1 = some r) : ai P 138 [.obox [tA (qIu8 p0.b), iA p0.p], iA p1] [.obox [tA (qIu8 r.2.b), iA r.2.p], hA] (.agg [iA r.1.Kind, iA r.1.Sym, iA r.1.N, oA 4 (qGExO r.1.Kids)]) := (AM hQ k) hh


theorem BY : ∀ k : Nat, (∀ {p0 : GEx} {p1 : Int} {r : Bool}, ax.f k p0 p1 = some r → ai P 53 [.agg [iA p0.Kind, iA p0.Sym, iA p0.N, tA (qGEx p0.Kids)], iA p1] [hA, hA] (bA r)) := by
  intro k
  induction k using Nat.strongRecOn with
  | _ k ih =>
  · intro p0 p1 r hh
    cases k with
    | zero => unfold ax.f at hh; cases hh
    | succ k =>
    obtain ⟨p0a, p0b, p0c, p0d⟩ := p0
    unfold ax.f at hh
    refine go (ts := [(4, none)]) (rm := [.own]) (pm := [.skip, .skip]) Tryz.func53 ?_
    unhygienic intros
    cbv
    refine bcs (fun T => ?_) (fun T => ?_)
    replace hh := ifT hh T
    try rw [T]
    cbv
    exact Eb
    replace hh := ifF hh T
    try rw [T]
    cbv
    replace hh := bind_some hh
    obtain ⟨x4, h3, hh⟩ := hh
    refine ac hF (kV hQ h3) ?_
    cbv
    replace hh := az hh
    rcases hh with ⟨b6, hh⟩ | ⟨b6, hh⟩
    have U : (eq x4 (cast (len (qGEx p0d)))) = true := Tb b6
    have g := U; cbv at g; try rw [U]
    try rw [g]
    cbv
    refine bcs (fun V => ?_) (fun V => ?_)
    replace hh := ifT hh V
    try rw [V]
    cbv
    exact Eb
    replace hh := ifF hh V
    try rw [V]
    cbv
    replace hh := az hh
    rcases hh with ⟨W, hh⟩ | ⟨W, hh⟩
    have z : (lt p0b 5) = true := Tb W
    have g := z; cbv at g; try rw [z]
    try rw [g]
    cbv
    replace hh := az hh
    rcases hh with ⟨X, hh⟩ | ⟨X, hh⟩
    have A : (eq p0a 1) = true := Tb X
    have g := A; cbv at g; try rw [A]
    try rw [g]
    cbv
    refine bcs (fun c => ?_) (fun c => ?_)
    replace hh := ifT hh c
    try rw [c]
    cbv
    refine bcs (fun B => ?_) (fun B => ?_)
    replace hh := ifT hh B
    try rw [B]
    cbv
    exact Eb
    replace hh := ifF hh B
    try rw [B]
    cbv
    refine bcs (fun C => ?_) (fun C => ?_)
    replace hh := ifT hh C
    try rw [C]
    cbv
    exact Eb
    replace hh := ifF hh C
    try rw [C]
    cbv
    first | rw [c] | (have g := c; cbv at g; rw [g])
    cbv
    replace hh := bind_some hh
    obtain ⟨M, j, b⟩ := hh
    refine au hC eok mixed (ax.l0 k (ax.f k) (⟨p0a, p0b, p0c, p0d⟩ : GEx) p1)
     (fun Ct => (⟨[(1, iA p1), (2, .mptr (2, 0) 1 0 0), (5, iA Ct)], [((2, 0), .box 1 [iA p0a, iA p0b, iA p0c, tA (qGEx p0d)])]⟩ : St))
     (fun (_ : Unit) => (⟨[], []⟩ : St)) .ok (.exit 0)
     (i0 := _) j (fun _ => rfl) ?_ ?_ ?_
    ·rintro O e
     refine ah ?_
     cbv
     all_goals exact J1
    rintro _ hx
    subst M
    have hh := b
    cbv
    exact Eb
    rintro n Ct N1 D1 hh o p s
    unfold ax.l0 at hh
    cbv
    refine bcs (fun D => ?_) (fun D => ?_)
    replace hh := ifT hh D
    try rw [D]
    cbv
    replace hh := aa hh
    obtain ⟨C7, hh⟩ := hh
    replace hh := bind_some hh
    obtain ⟨⟨CH, CI, CJ, CK⟩, C8, hh⟩ := hh
    try dsimp only at hh
    refine ⟨[iA CH, iA CI, iA CJ, tA (qGEx CK)], Nb C7, Gb C8, ?_⟩
    cbv
    replace hh := bind_some hh
    obtain ⟨Cw, C9, hh⟩ := hh
    refine ac hF ((ih k (Nat.lt_succ_self k)) C9) ?_
    cbv
    replace hh := az hh
    rcases hh with ⟨Y, hh⟩ | ⟨Y, hh⟩
    have F : Cw = true := Tb Y
    have g := F; cbv at g; try rw [F]
    try rw [g]
    cbv
    ·refine o _ _ hh fun O e => ?_
     refine ah ?_
     cbv
     all_goals exact J1
    have F : Cw = false := Fb Y
    have g := F; cbv at g; try rw [F]
    try rw [g]
    cbv
    cases hh
    have hh : some _ = some _ := b
    refine s _ _ ?_
    cbv
    exact Eb
    replace hh := ifF hh D
    try rw [D]
    cbv
    ·refine p () _ hh fun _ e => ?_
     refine ah ?_
     cbv
     all_goals exact J0
    replace hh := ifF hh c
    try rw [c]
    cbv
    first | rw [c] | (have g := c; cbv at g; rw [g])
    cbv
    replace hh := az hh
    rcases hh with ⟨Z, hh⟩ | ⟨Z, hh⟩
    have G : (eq p0c 0) = true := Tb Z
    have g := G; cbv at g; try rw [G]
    try rw [g]
    cbv
    replace hh := bind_some hh
    obtain ⟨M, j, b⟩ := hh
    refine au hC eok mixed (ax.l1 k (ax.f k) (⟨p0a, p0b, p0c, p0d⟩ : GEx) p1)
     (fun Cy => (⟨[(1, iA p1), (2, .mptr (2, 0) 1 0 0), (5, iA Cy)], [((2, 0), .box 1 [iA p0a, iA p0b, iA p0c, tA (qGEx p0d)])]⟩ : St))
     (fun (_ : Unit) => (⟨[], []⟩ : St)) .ok (.exit 0)
     (i0 := _) j (fun _ => rfl) ?_ ?_ ?_
    ·rintro O e
     refine ah ?_
     cbv
     all_goals exact J1
    rintro _ hx
    subst M
    have hh := b
    cbv
    exact Eb
    rintro n Cy N1 D1 hh o p s
    unfold ax.l1 at hh
    cbv
    refine bcs (fun H => ?_) (fun H => ?_)
    replace hh := ifT hh H
    try rw [H]
    cbv
    replace hh := aa hh
    obtain ⟨Da, hh⟩ := hh
    replace hh := bind_some hh
    obtain ⟨⟨CP, CQ, CU, CZ⟩, Db, hh⟩ := hh
    try dsimp only at hh
    refine ⟨[iA CP, iA CQ, iA CU, tA (qGEx CZ)], Nb Da, Gb Db, ?_⟩
    cbv
    replace hh := bind_some hh
    obtain ⟨Cz, Dc, hh⟩ := hh
    refine ac hF ((ih k (Nat.lt_succ_self k)) Dc) ?_
    cbv
    replace hh := az hh
    rcases hh with ⟨dv, hh⟩ | ⟨dv, hh⟩
    have I : Cz = true := Tb dv
    have g := I; cbv at g; try rw [I]
    try rw [g]
    cbv
    ·refine o _ _ hh fun O e => ?_
     refine ah ?_
     cbv
     all_goals exact J1
    have I : Cz = false := Fb dv
    have g := I; cbv at g; try rw [I]
    try rw [g]
    cbv
    cases hh
    have hh : some _ = some _ := b
    refine s _ _ ?_
    cbv
    exact Eb
    replace hh := ifF hh H
    try rw [H]
    cbv
    ·refine p () _ hh fun _ e => ?_
     refine ah ?_
     cbv
     all_goals exact J0
    have G : (eq p0c 0) = false := Fb Z
    have g := G; cbv at g; try rw [G]
    try rw [g]
    cbv
    exact Eb
    have A : (eq p0a 1) = false := Fb X
    have g := A; cbv at g; try rw [A]
    try rw [g]
    cbv
    replace hh := az hh
    rcases hh with ⟨xI, hh⟩ | ⟨xI, hh⟩
    have J : (eq p0b 0) = true := Tb xI
    have g := J; cbv at g; try rw [J]
    try rw [g]
    cbv
    refine bcs (fun d => ?_) (fun d => ?_)
    replace hh := ifT hh d
    try rw [d]
    cbv
    refine bcs (fun K => ?_) (fun K => ?_)
    replace hh := ifT hh K
    try rw [K]
    cbv
    exact Eb
    replace hh := ifF hh K
    try rw [K]
    cbv
    refine bcs (fun L => ?_) (fun L => ?_)
    replace hh := ifT hh L
    try rw [L]
    cbv
    exact Eb
    replace hh := ifF hh L
    try rw [L]
    cbv
    first | rw [d] | (have g := d; cbv at g; rw [g])
    cbv
    replace hh := bind_some hh
    obtain ⟨M, j, b⟩ := hh
    refine au hC eok mixed (ax.l2 k (ax.f k) (⟨p0a, p0b, p0c, p0d⟩ : GEx) p1)
     (fun Bo => (⟨[(1, iA p1), (2, .mptr (2, 0) 1 0 0), (5, iA Bo)], [((2, 0), .box 1 [iA p0a, iA p0b, iA p0c, tA (qGEx p0d)])]⟩ : St))
     (fun (_ : Unit) => (⟨[], []⟩ : St)) .ok (.exit 0)
     (i0 := _) j (fun _ => rfl) ?_ ?_ ?_
    ·rintro O e
     refine ah ?_
     cbv
     all_goals exact J1
    rintro _ hx
    subst M
    have hh := b
    cbv
    exact Eb
    rintro n Bo N1 D1 hh o p s
    unfold ax.l2 at hh
    cbv
    refine bcs (fun t => ?_) (fun t => ?_)
    replace hh := ifT hh t
    try rw [t]
    cbv
    replace hh := aa hh
    obtain ⟨C0, hh⟩ := hh
    replace hh := bind_some hh
    obtain ⟨⟨Cj, Ck, Cm, Cn⟩, C1, hh⟩ := hh
    try dsimp only at hh
    refine ⟨[iA Cj, iA Ck, iA Cm, tA (qGEx Cn)], Nb C0, Gb C1, ?_⟩
    cbv
    replace hh := bind_some hh
    obtain ⟨B2, C2, hh⟩ := hh
    refine ac hF ((ih k (Nat.lt_succ_self k)) C2) ?_
    cbv
    replace hh := az hh
    rcases hh with ⟨Q, hh⟩ | ⟨Q, hh⟩
    have u : B2 = true := Tb Q
    have g := u; cbv at g; try rw [u]
    try rw [g]
    cbv
    ·refine o _ _ hh fun O e => ?_
     refine ah ?_
     cbv
     all_goals exact J1
    have u : B2 = false := Fb Q
    have g := u; cbv at g; try rw [u]
    try rw [g]
    cbv
    cases hh
    have hh : some _ = some _ := b
    refine s _ _ ?_
    cbv
    exact Eb
    replace hh := ifF hh t
    try rw [t]
    cbv
    ·refine p () _ hh fun _ e => ?_
     refine ah ?_
     cbv
     all_goals exact J0
    replace hh := ifF hh d
    try rw [d]
    cbv
    first | rw [d] | (have g := d; cbv at g; rw [g])
    cbv
    replace hh := az hh
    rcases hh with ⟨R, hh⟩ | ⟨R, hh⟩
    have v : (eq p0c 0) = true := Tb R
    have g := v; cbv at g; try rw [v]
    try rw [g]
    cbv
    replace hh := bind_some hh
    obtain ⟨M, j, b⟩ := hh
    refine au hC eok mixed (ax.l3 k (ax.f k) (⟨p0a, p0b, p0c, p0d⟩ : GEx) p1)
     (fun B3 => (⟨[(1, iA p1), (2, .mptr (2, 0) 1 0 0), (5, iA B3)], [((2, 0), .box 1 [iA p0a, iA p0b, iA p0c, tA (qGEx p0d)])]⟩ : St))
     (fun (_ : Unit) => (⟨[], []⟩ : St)) .ok (.exit 0)
     (i0 := _) j (fun _ => rfl) ?_ ?_ ?_
    ·rintro O e
     refine ah ?_
     cbv
     all_goals exact J1
    rintro _ hx
    subst M
    have hh := b
    cbv
    exact Eb
    rintro n B3 N1 D1 hh o p s
    unfold ax.l3 at hh
    cbv
    refine bcs (fun w => ?_) (fun w => ?_)
    replace hh := ifT hh w
    try rw [w]
    cbv
    replace hh := aa hh
    obtain ⟨C3, hh⟩ := hh
    replace hh := bind_some hh
    obtain ⟨⟨Co, Cp, Cq, Cs⟩, C4, hh⟩ := hh
    try dsimp only at hh
    refine ⟨[iA Co, iA Cp, iA Cq, tA (qGEx Cs)], Nb C3, Gb C4, ?_⟩
    cbv
    replace hh := bind_some hh
    obtain ⟨Ce, C5, hh⟩ := hh
    refine ac hF ((ih k (Nat.lt_succ_self k)) C5) ?_
    cbv
    replace hh := az hh
    rcases hh with ⟨S, hh⟩ | ⟨S, hh⟩
    have y : Ce = true := Tb S
    have g := y; cbv at g; try rw [y]
    try rw [g]
    cbv
    ·refine o _ _ hh fun O e => ?_
     refine ah ?_
     cbv
     all_goals exact J1
    have y : Ce = false := Fb S
    have g := y; cbv at g; try rw [y]
    try rw [g]
    cbv
    cases hh
    have hh : some _ = some _ := b
    refine s _ _ ?_
    cbv
    exact Eb
    replace hh := ifF hh w
    try rw [w]
    cbv
    ·refine p () _ hh fun _ e => ?_
     refine ah ?_
     cbv
     all_goals exact J0
    have v : (eq p0c 0) = false := Fb R
    have g := v; cbv at g; try rw [v]
    try rw [g]
    cbv
    exact Eb
    have J : (eq p0b 0) = false := Fb xI
    have g := J; cbv at g; try rw [J]
    try rw [g]
    cbv
    exact Eb
    have z : (lt p0b 5) = false := Fb W
    have g := z; cbv at g; try rw [z]
    try rw [g]
    cbv
    exact Eb
    have U : (eq x4 (cast (len (qGEx p0d)))) = false := Fb b6
    have g := U; cbv at g; try rw [U]
    try rw [g]
    cbv
    exact Eb
theorem vo {k : Nat} {p0 : GEx} {p1 : Int} {r : Bool} (hh : ax.f k p0 p1 = some r) : ai P 53 [.agg [iA p0.Kind, iA p0.Sym, iA p0.N, tA (qGEx p0.Kids)], iA p1] [hA, hA] (bA r) := (BY hQ k) hh


theorem BB : ∀ k : Nat, (∀ {p0 : GEx} {p1 : Int} {r : Int}, bR.f k p0 p1 = some r → ai P 54 [.agg [iA p0.Kind, iA p0.Sym, iA p0.N, tA (qGEx p0.Kids)], iA p1] [hA, hA] (iA r)) := by
  intro k
  induction k using Nat.strongRecOn with
  | _ k ih =>
  · intro p0 p1 r hh
    cases k with
    | zero => unfold bR.f at hh; cases hh
    | succ k =>
    obtain ⟨p0a, p0b, p0c, p0d⟩ := p0
    unfold bR.f at hh
    refine go (ts := [(4, none)]) (rm := [.own]) (pm := [.skip, .skip]) Tryz.func54 ?_
    unhygienic intros
    cbv
    replace hh := bind_some hh
    obtain ⟨F, y, z⟩ := hh
    refine au hC eok mixed (fun n (i : Int × Int) => bR.l0 k (bR.f k) (⟨p0a, p0b, p0c, p0d⟩ : GEx) p1 n i.1 i.2)
     (fun ⟨d, j⟩ => (⟨[(1, iA p1), (2, .mptr (2, 0) 1 0 0), (5, iA d), (6, iA j)], [((2, 0), .box 1 [iA p0a, iA p0b, iA p0c, tA (qGEx p0d)])]⟩ : St))
     (fun (o : Int) => (⟨[(5, iA o)], []⟩ : St)) (fun x => x) (.exit 0)
     (i0 := (_, _)) y (fun _ => rfl) ?_ ?_ ?_
    ·rintro ⟨s, G⟩ e
     refine ah ?_
     cbv
     all_goals exact J2
    rintro o hx
    subst F
    have hh := z
    cbv
    exact Eb
    rintro n ⟨d, j⟩ J K hh A p H
    try dsimp only at hh
    unfold bR.l0 at hh
    cbv
    refine bcs (fun b => ?_) (fun b => ?_)
    replace hh := ifT hh b
    try rw [b]
    cbv
    refine bcs (fun c => ?_) (fun c => ?_)
    replace hh := ifT hh c
    try rw [c]
    cbv
    replace hh := aa hh
    obtain ⟨B, hh⟩ := hh
    replace hh := bind_some hh
    obtain ⟨⟨t, u, v, w⟩, C, hh⟩ := hh
    try dsimp only at hh
    refine ⟨[iA t, iA u, iA v, tA (qGEx w)], Nb B, Gb C, ?_⟩
    cbv
    replace hh := bind_some hh
    obtain ⟨I, D, hh⟩ := hh
    refine ac hF ((ih k (Nat.lt_succ_self k)) D) ?_
    cbv
    ·refine A (_, _) _ hh fun ⟨s, G⟩ e => ?_
     refine ah ?_
     cbv
     all_goals exact J2
    replace hh := ifF hh c
    try rw [c]
    cbv
    ·refine p _ _ hh fun s e => ?_
     refine ah ?_
     cbv
     all_goals exact J1
    replace hh := ifF hh b
    try rw [b]
    cbv
    ·refine p _ _ hh fun s e => ?_
     refine ah ?_
     cbv
     all_goals exact J1
theorem vi {k : Nat} {p0 : GEx} {p1 : Int} {r : Int} (hh : bR.f k p0 p1 = some r) : ai P 54 [.agg [iA p0.Kind, iA p0.Sym, iA p0.N, tA (qGEx p0.Kids)], iA p1] [hA, hA] (iA r) := (BB hQ k) hh


theorem qK {k : Nat} {p0 : GEx} {r : Bool} (hh : ij.f k p0 = some r) : ai P 17 [.agg [iA p0.Kind, iA p0.Sym, iA p0.N, tA (qGEx p0.Kids)]] [hA] (bA r) := by
 obtain ⟨p0a, p0b, p0c, p0d⟩ := p0
 unfold ij.f at hh
 refine go (ts := [(2, none)]) (rm := [.own]) (pm := [.skip]) Tryz.func17 ?_
 unhygienic intros
 cbv
 replace hh := bind_some hh
 obtain ⟨j, c, hh⟩ := hh
 refine ac hF (vo hQ c) ?_
 cbv
 refine bcs (fun b => ?_) (fun b => ?_)
 replace hh := ifT hh b
 try rw [b]
 cbv
 replace hh := bind_some hh
 obtain ⟨o, d, hh⟩ := hh
 refine ac hF (vi hQ d) ?_
 cbv
 exact Eb
 replace hh := ifF hh b
 try rw [b]
 cbv
 exact Eb
theorem tu {k : Nat} {p0 : GEx} {r : Bool} (hh : ij.f k p0 = some r) : ai P 17 [.agg [iA p0.Kind, iA p0.Sym, iA p0.N, oA 4 (qGExO p0.Kids)]] [.agg [iA p0.Kind, iA p0.Sym, iA p0.N, oA 4 (qGExO p0.Kids)]] (bA r) := by
  cases hQ; exact (qK .mk hh).lend (rfl) (.lend (by simp) .nil)

theorem oy {k : Nat} {p0 : Gl14Rd} {r : GEx × Gl14Rd} (hh : gA.f k p0 = some r) : ai P 116 [.obox [tA (qIu8 p0.b), iA p0.p]] [.obox [tA (qIu8 r.2.b), iA r.2.p]] (.agg [iA r.1.Kind, iA r.1.Sym, iA r.1.N, oA 4 (qGExO r.1.Kids)]) := by
 obtain ⟨p0a, p0b⟩ := p0
 unfold gA.f at hh
 refine go (ts := [(2, some 25)]) (rm := [.own]) (pm := [.own]) Tryz.func116 ?_
 unhygienic intros
 cbv
 replace hh := bind_some hh
 obtain ⟨⟨I, ⟨z, A⟩⟩, J, hh⟩ := hh
 try dsimp only at hh
 have fc := bD hQ J
 try dsimp only at fc
 refine ac hF fc ?_
 cbv
 replace hh := bind_some hh
 obtain ⟨⟨⟨B, C, D, F⟩, ⟨G, H⟩⟩, K, hh⟩ := hh
 try dsimp only at hh
 have fc := mF hQ K
 try dsimp only at fc
 refine ac hF fc ?_
 cbv
 replace hh := bind_some hh
 obtain ⟨j, L, hh⟩ := hh
 have fc := tu hQ L
 try dsimp only at fc
 refine ac hF fc ?_
 cbv
 replace hh := az hh
 rcases hh with ⟨d, hh⟩ | ⟨d, hh⟩
 have c : j = true := Tb d
 have g := c; cbv at g; try rw [c]
 try rw [g]
 cbv
 exact Eb
 have c : j = false := Fb d
 have g := c; cbv at g; try rw [c]
 try rw [g]
 cbv
 replace hh := bind_some hh
 obtain ⟨⟨⟨o, s, t, u⟩, ⟨v, w⟩⟩, y, hh⟩ := hh
 try dsimp only at hh
 have fc := mF hQ y
 try dsimp only at fc
 refine ac hF fc ?_
 cbv
 exact Eb

theorem oB {k : Nat} {p0 : Gl14Rd} {p1 : ByteArray} {r : GRule × Gl14Rd} (hh : gB.f k p0 p1 = some r) : ai P 77 [.obox [tA (qIu8 p0.b), iA p0.p], sA p1] [.obox [tA (qIu8 r.2.b), iA r.2.p], hA] (.agg [sA r.1.Name, iA r.1.Pri, iA r.1.Mode, iA r.1.Ex.Kind, iA r.1.Ex.Sym, iA r.1.Ex.N, oA 4 (qGExO r.1.Ex.Kids), iA r.1.Low, iA r.1.High, iA r.1.Key, iA r.1.Add, iA r.1.Raise]) := by
 obtain ⟨p0a, p0b⟩ := p0
 unfold gB.f at hh
 refine go (ts := [(4, some 60)]) (rm := [.own]) (pm := [.own, .skip]) Tryz.func77 ?_
 unhygienic intros
 cbv
 replace hh := bind_some hh
 obtain ⟨⟨⟨Cw, Cy, Cz, CB⟩, ⟨CE, CG⟩⟩, h1, hh⟩ := hh
 try dsimp only at hh
 have fc := oy hQ h1
 try dsimp only at fc
 refine ac hF fc ?_
 cbv
 replace hh := bind_some hh
 obtain ⟨⟨C9, ⟨CH, CI⟩⟩, h4, hh⟩ := hh
 try dsimp only at hh
 have fc := bD hQ h4
 try dsimp only at fc
 refine ac hF fc ?_
 cbv
 refine bcs (fun c => ?_) (fun c => ?_)
 replace hh := ifT hh c
 try rw [c]
 cbv
 replace hh := bind_some hh
 obtain ⟨⟨⟨d, j, o, s⟩, ⟨t, u⟩⟩, h9, hh⟩ := hh
 try dsimp only at hh
 have fc := mF hQ h9
 try dsimp only at fc
 refine ac hF fc ?_
 cbv
 replace hh := bind_some hh
 obtain ⟨⟨CJ, ⟨v, w⟩⟩, y, hh⟩ := hh
 try dsimp only at hh
 refine ⟨Ob, ?_⟩
 have fc := aT hQ y
 try dsimp only at fc
 refine ac hF fc ?_
 cbv
 replace hh := bind_some hh
 obtain ⟨⟨CK, ⟨z, A⟩⟩, B, hh⟩ := hh
 try dsimp only at hh
 refine ⟨Ob, ?_⟩
 have fc := aT hQ B
 try dsimp only at fc
 refine ac hF fc ?_
 cbv
 replace hh := bind_some hh
 obtain ⟨⟨CP, ⟨C, D⟩⟩, F, hh⟩ := hh
 try dsimp only at hh
 have fc := bD hQ F
 try dsimp only at fc
 refine ac hF fc ?_
 cbv
 replace hh := bind_some hh
 obtain ⟨⟨CQ, ⟨G, H⟩⟩, I, hh⟩ := hh
 try dsimp only at hh
 refine ⟨Ob, ?_⟩
 have fc := aT hQ I
 try dsimp only at fc
 refine ac hF fc ?_
 cbv
 replace hh := bind_some hh
 obtain ⟨⟨CU, ⟨J, K⟩⟩, L, hh⟩ := hh
 try dsimp only at hh
 have fc := bD hQ L
 try dsimp only at fc
 refine ac hF fc ?_
 cbv
 replace hh := bind_some hh
 obtain ⟨⟨CZ, ⟨M, O⟩⟩, Q, hh⟩ := hh
 try dsimp only at hh
 refine ⟨Ob, ?_⟩
 have fc := aT hQ Q
 try dsimp only at fc
 refine ac hF fc ?_
 cbv
 replace hh := bind_some hh
 obtain ⟨⟨C0, ⟨R, S⟩⟩, T, hh⟩ := hh
 try dsimp only at hh
 refine ⟨Ob, ?_⟩
 have fc := aT hQ T
 try dsimp only at fc
 refine ac hF fc ?_
 cbv
 exact Eb
 replace hh := ifF hh c
 try rw [c]
 cbv
 replace hh := bind_some hh
 obtain ⟨⟨C1, ⟨U, V⟩⟩, W, hh⟩ := hh
 try dsimp only at hh
 refine ⟨Ob, ?_⟩
 have fc := aT hQ W
 try dsimp only at fc
 refine ac hF fc ?_
 cbv
 replace hh := bind_some hh
 obtain ⟨⟨C2, ⟨X, Y⟩⟩, Z, hh⟩ := hh
 try dsimp only at hh
 refine ⟨Ob, ?_⟩
 have fc := aT hQ Z
 try dsimp only at fc
 refine ac hF fc ?_
 cbv
 replace hh := bind_some hh
 obtain ⟨⟨C3, ⟨dv, xI⟩⟩, Bo, hh⟩ := hh
 try dsimp only at hh
 have fc := bD hQ Bo
 try dsimp only at fc
 refine ac hF fc ?_
 cbv
 replace hh := bind_some hh
 obtain ⟨⟨C4, ⟨B2, B3⟩⟩, Ce, hh⟩ := hh
 try dsimp only at hh
 refine ⟨Ob, ?_⟩
 have fc := aT hQ Ce
 try dsimp only at fc
 refine ac hF fc ?_
 cbv
 replace hh := bind_some hh
 obtain ⟨⟨C5, ⟨Cj, Ck⟩⟩, Cm, hh⟩ := hh
 try dsimp only at hh
 have fc := bD hQ Cm
 try dsimp only at fc
 refine ac hF fc ?_
 cbv
 replace hh := bind_some hh
 obtain ⟨⟨C6, ⟨Cn, Co⟩⟩, Cp, hh⟩ := hh
 try dsimp only at hh
 refine ⟨Ob, ?_⟩
 have fc := aT hQ Cp
 try dsimp only at fc
 refine ac hF fc ?_
 cbv
 replace hh := bind_some hh
 obtain ⟨⟨C7, ⟨Cq, Cs⟩⟩, Ct, hh⟩ := hh
 try dsimp only at hh
 refine ⟨Ob, ?_⟩
 have fc := aT hQ Ct
 try dsimp only at fc
 refine ac hF fc ?_
 cbv
 exact Eb

theorem tZ {k : Nat} {p0 : Gl14Rd} {r : (List GRule) × Gl14Rd} (hh : cw.f k p0 = some r) : ai P 136 [.obox [tA (qIu8 p0.b), iA p0.p]] [.obox [tA (qIu8 r.2.b), iA r.2.p]] (oA 12 (qGRule r.1)) := by
 obtain ⟨p0a, p0b⟩ := p0
 unfold cw.f at hh
 refine go (ts := [(2, none)]) (rm := [.own]) (pm := [.own]) Tryz.func136 ?_
 unhygienic intros
 cbv
 replace hh := bind_some hh
 obtain ⟨⟨Bo, ⟨dv, xI⟩⟩, h1, hh⟩ := hh
 try dsimp only at hh
 have fc := bD hQ h1
 try dsimp only at fc
 refine ac hF fc ?_
 cbv
 replace hh := bind_some hh
 obtain ⟨o1, K, L⟩ := hh
 refine au hC eok mixed (fun n (i : (List Int) × Int × (List GRule) × Int) => cw.l0 k n i.1 i.2.1 i.2.2.1 i.2.2.2)
  (fun ⟨F, G, d, H⟩ => (⟨[(0, .mptr (0, 0) 1 0 0), (3, .ref (5, 0) 1 0 (len (qGRule d))), (4, iA H), (1000000, .mptr (0, 0) 1 0 0)], [((0, 0), .box 1 [tA (qIu8 F), iA G]), ((5, 0), .arr 1 12 (qGRule d))]⟩ : St))
  (fun (⟨j, I, J⟩ : (List GRule) × (List Int) × Int) => (⟨[(3, .ref (5, 0) 1 0 (len (qGRule j))), (1000000, .mptr (0, 0) 1 0 0)], [((0, 0), .box 1 [tA (qIu8 I), iA J]), ((5, 0), .arr 1 12 (qGRule j))]⟩ : St)) (fun x => x) (.exit 0)
  (i0 := (_, _, _, _)) K (fun _ => rfl) ?_ ?_ ?_
 ·rintro ⟨M, N, O, t3⟩ e
  refine ah ?_
  cbv
  all_goals exact J4
 rintro ⟨j, I, J⟩ hx
 subst o1
 have hh := L
 cbv
 exact Eb
 rintro n ⟨F, G, d, H⟩ N1 D1 hh Q R Cj
 try dsimp only at hh
 unfold cw.l0 at hh
 cbv
 refine bcs (fun c => ?_) (fun c => ?_)
 replace hh := ifT hh c
 try rw [c]
 cbv
 replace hh := aa hh
 obtain ⟨S, hh⟩ := hh
 replace hh := aa hh
 obtain ⟨T, hh⟩ := hh
 refine ⟨Nb S, Mb T, ?_⟩
 replace hh := bind_some hh
 obtain ⟨U, V, hh⟩ := hh
 refine ⟨[sA U], Gb V, ?_⟩
 cbv
 replace hh := bind_some hh
 obtain ⟨⟨⟨o, s, t, ⟨u, v, w, y⟩, z, A, B, C, D⟩, ⟨W, X⟩⟩, Y, hh⟩ := hh
 try dsimp only at hh
 have fc := ai.frz (r' := .agg [sA o, iA s, iA t, iA u, iA v, iA w, tA (qGEx y), iA z, iA A, iA B, iA C, iA D]) (oB hQ Y) (by cases hQ; simp)
 try dsimp only at fc
 refine ac hF fc ?_
 cbv
 replace hh := aa hh
 obtain ⟨Z, hh⟩ := hh
 refine ⟨⟨Ob, Ab⟩, ?_⟩
 refine ⟨⟨Ob, Wb Z⟩, ?_⟩
 ·refine Q (_, _, _, _) _ hh fun ⟨M, N, O, t3⟩ e => ?_
  refine aw [((0, 0), (0, 0)), ((5, 0), (21, 0))] ?_
  cbv
  all_goals exact J4
 replace hh := ifF hh c
 try rw [c]
 cbv
 ·refine R (_, _, _) _ hh fun ⟨M, N, O⟩ e => ?_
  refine ah ?_
  cbv
  all_goals exact J3

theorem sE {p0 : Gl14Rd} {p1 : List ByteArray} {r : ByteArray × Gl14Rd} (hh : gt.f p0 p1 = some r) : ai P 137 [.obox [tA (qIu8 p0.b), iA p0.p], tA (qStr p1)] [.obox [tA (qIu8 r.2.b), iA r.2.p], hA] (sA r.1) := by
 obtain ⟨p0a, p0b⟩ := p0
 unfold gt.f at hh
 refine go (ts := [(4, none)]) (rm := [.own]) (pm := [.own, .skip]) Tryz.func137 ?_
 unhygienic intros
 cbv
 replace hh := bind_some hh
 obtain ⟨⟨o, ⟨d, j⟩⟩, s, hh⟩ := hh
 try dsimp only at hh
 have fc := bD hQ s
 try dsimp only at fc
 refine ac hF fc ?_
 cbv
 replace hh := aa hh
 obtain ⟨c, hh⟩ := hh
 try dsimp only at c
 replace hh := bind_some hh
 obtain ⟨t, u, hh⟩ := hh
 refine ⟨[sA t], Nb c, Gb u, ?_⟩
 cbv
 exact Eb

theorem Bb : ∀ k : Nat, (∀ {p0 : GEx} {r : GEx}, bM.f k p0 = some r → ai P 118 [.agg [iA p0.Kind, iA p0.Sym, iA p0.N, tA (qGEx p0.Kids)]] [hA] (.agg [iA r.Kind, iA r.Sym, iA r.N, oA 4 (qGExO r.Kids)])) := by
  intro k
  induction k using Nat.strongRecOn with
  | _ k ih =>
  · intro p0 r hh
    cases k with
    | zero => unfold bM.f at hh; cases hh
    | succ k =>
    obtain ⟨p0a, p0b, p0c, p0d⟩ := p0
    unfold bM.f at hh
    refine go (ts := [(2, some 25)]) (rm := [.own]) (pm := [.skip]) Tryz.func118 ?_
    unhygienic intros
    cbv
    replace hh := bind_some hh
    obtain ⟨F, u, v⟩ := hh
    refine au hC eok mixed (fun n (i : (List GEx) × Int) => bM.l0 k (bM.f k) (⟨p0a, p0b, p0c, p0d⟩ : GEx) n i.1 i.2)
     (fun ⟨c, j⟩ => (⟨[(1, .mptr (1, 0) 1 0 0), (2, .mptr (2, 0) 1 0 0), (3, .mptr (3, 0) 1 0 0), (4, iA j)], [((1, 0), .box 1 [iA p0a, iA p0b, iA p0c, tA (qGEx p0d)]), ((2, 0), .box 1 [iA 0, iA 0, iA 0, .lit (.slice none 0 0)]), ((3, 0), .box 1 [iA p0a, iA p0b, iA p0c, .ref (3, 53) 1 0 (len (qGExO c))]), ((3, 53), .arr 1 4 (qGExO c))]⟩ : St))
     (fun (d : List GEx) => (⟨[(2, .mptr (2, 0) 1 0 0), (3, .mptr (3, 0) 1 0 0)], [((2, 0), .box 1 [iA 0, iA 0, iA 0, .lit (.slice none 0 0)]), ((3, 0), .box 1 [iA p0a, iA p0b, iA p0c, .ref (3, 53) 1 0 (len (qGExO d))]), ((3, 53), .arr 1 4 (qGExO d))]⟩ : St)) (fun x => x) (.exit 0)
     (i0 := (_, _)) u (fun _ => rfl) ?_ ?_ ?_
    ·rintro ⟨w, G⟩ e
     refine aw [((1, 0), (1, 0)), ((2, 0), (2, 0)), ((3, 0), (3, 0))] ?_
     cbv
     all_goals exact J2
    rintro d hx
    subst F
    have hh := v
    cbv
    exact Eb
    rintro n ⟨c, j⟩ M O hh y z L
    try dsimp only at hh
    unfold bM.l0 at hh
    cbv
    refine bcs (fun b => ?_) (fun b => ?_)
    replace hh := ifT hh b
    try rw [b]
    cbv
    replace hh := aa hh
    obtain ⟨A, hh⟩ := hh
    replace hh := bind_some hh
    obtain ⟨⟨o, p, s, t⟩, B, hh⟩ := hh
    try dsimp only at hh
    refine ⟨[iA o, iA p, iA s, tA (qGEx t)], Nb A, Gb B, ?_⟩
    cbv
    replace hh := bind_some hh
    obtain ⟨⟨H, I, J, K⟩, C, hh⟩ := hh
    try dsimp only at hh
    have fc := (ih k (Nat.lt_succ_self k)) C
    try dsimp only at fc
    refine ac hF fc ?_
    cbv
    replace hh := aa hh
    obtain ⟨D, hh⟩ := hh
    refine ⟨⟨Ob, Ab⟩, ?_⟩
    refine ⟨⟨Ob, Wb D⟩, ?_⟩
    ·refine y (_, _) _ hh fun ⟨w, G⟩ e => ?_
     refine aw [((1, 0), (1, 0)), ((2, 0), (2, 0)), ((3, 0), (3, 0)), ((3, 53), (28, 0))] ?_
     cbv
     all_goals exact J2
    replace hh := ifF hh b
    try rw [b]
    cbv
    ·refine z _ _ hh fun w e => ?_
     refine ah ?_
     cbv
     all_goals exact J1
theorem vk {k : Nat} {p0 : GEx} {r : GEx} (hh : bM.f k p0 = some r) : ai P 118 [.agg [iA p0.Kind, iA p0.Sym, iA p0.N, tA (qGEx p0.Kids)]] [hA] (.agg [iA r.Kind, iA r.Sym, iA r.N, oA 4 (qGExO r.Kids)]) := (Bb hQ k) hh

theorem rG {k : Nat} {p0 : GEx} {r : GEx} (hh : bM.f k p0 = some r) : ai P 118 [.agg [iA p0.Kind, iA p0.Sym, iA p0.N, oA 4 (qGExO p0.Kids)]] [.agg [iA p0.Kind, iA p0.Sym, iA p0.N, oA 4 (qGExO p0.Kids)]] (.agg [iA r.Kind, iA r.Sym, iA r.N, oA 4 (qGExO r.Kids)]) := by
  cases hQ; exact (vk .mk hh).lend (by simp [Vm.ownd, iG, -lj, mJ]) (.lend (by simp) .nil)

theorem vv {k : Nat} {p0 : Gl14Rd} {r : GEx × Gl14Rd} (hh : bx.f k p0 = some r) : ai P 49 [.obox [tA (qIu8 p0.b), iA p0.p]] [.obox [tA (qIu8 r.2.b), iA r.2.p]] (.agg [iA r.1.Kind, iA r.1.Sym, iA r.1.N, oA 4 (qGExO r.1.Kids)]) := by
 obtain ⟨p0a, p0b⟩ := p0
 unfold bx.f at hh
 refine go (ts := [(2, some 25)]) (rm := [.own]) (pm := [.own]) Tryz.func49 ?_
 unhygienic intros
 cbv
 replace hh := bind_some hh
 obtain ⟨⟨⟨Cs, Ct, Cw, Cy⟩, ⟨Cz, CB⟩⟩, h1, hh⟩ := hh
 try dsimp only at hh
 have fc := oy hQ h1
 try dsimp only at fc
 refine ac hF fc ?_
 cbv
 replace hh := bind_some hh
 obtain ⟨⟨CJ, ⟨c, d⟩⟩, h4, hh⟩ := hh
 try dsimp only at hh
 have fc := bD hQ h4
 try dsimp only at fc
 refine ac hF fc ?_
 cbv
 refine bcs (fun w => ?_) (fun w => ?_)
 replace hh := ifT hh w
 try rw [w]
 cbv
 replace hh := bind_some hh
 obtain ⟨⟨CE, ⟨B2, B3⟩⟩, h9, hh⟩ := hh
 try dsimp only at hh
 refine ⟨Ob, ?_⟩
 have fc := aT hQ h9
 try dsimp only at fc
 refine ac hF fc ?_
 cbv
 exact Eb
 replace hh := ifF hh w
 try rw [w]
 cbv
 refine bcs (fun j => ?_) (fun j => ?_)
 replace hh := ifT hh j
 try rw [j]
 cbv
 replace hh := bind_some hh
 obtain ⟨⟨CG, ⟨Ce, Cj⟩⟩, Ck, hh⟩ := hh
 try dsimp only at hh
 refine ⟨Ob, ?_⟩
 have fc := aT hQ Ck
 try dsimp only at fc
 refine ac hF fc ?_
 cbv
 exact Eb
 replace hh := ifF hh j
 try rw [j]
 cbv
 refine bcs (fun o => ?_) (fun o => ?_)
 replace hh := ifT hh o
 try rw [o]
 cbv
 replace hh := bind_some hh
 obtain ⟨⟨CH, ⟨Cm, Cn⟩⟩, Co, hh⟩ := hh
 try dsimp only at hh
 refine ⟨Ob, ?_⟩
 have fc := aT hQ Co
 try dsimp only at fc
 refine ac hF fc ?_
 cbv
 exact Eb
 replace hh := ifF hh o
 try rw [o]
 cbv
 refine bcs (fun s => ?_) (fun s => ?_)
 replace hh := ifT hh s
 try rw [s]
 cbv
 replace hh := bind_some hh
 obtain ⟨o1, y, z⟩ := hh
 refine au hC eok mixed (fun n (i : Int × Int × Int × (List GEx) × Int) => bx.l0 k n i.1 i.2.1 i.2.2.1 i.2.2.2.1 i.2.2.2.2)
  (fun ⟨L, M, O, A, Q⟩ => (⟨[(2, .mptr (2, 0) 1 0 0), (3, .mptr (3, 0) 1 0 0), (4, iA Q), (1000000, .mptr (0, 0) 1 0 0)], [((0, 0), .box 1 [tA (qIu8 c), iA d]), ((2, 0), .box 1 [iA 0, iA 0, iA 0, .lit (.slice none 0 0)]), ((3, 0), .box 1 [iA L, iA M, iA O, .ref (7, 0) 1 0 (len (qGExO A))]), ((7, 0), .arr 1 4 (qGExO A))]⟩ : St))
  (fun (⟨R, S, T, B⟩ : Int × Int × Int × (List GEx)) => (⟨[(2, .mptr (2, 0) 1 0 0), (3, .mptr (3, 0) 1 0 0), (1000000, .mptr (0, 0) 1 0 0)], [((0, 0), .box 1 [tA (qIu8 c), iA d]), ((2, 0), .box 1 [iA 0, iA 0, iA 0, .lit (.slice none 0 0)]), ((3, 0), .box 1 [iA R, iA S, iA T, .ref (7, 0) 1 0 (len (qGExO B))]), ((7, 0), .arr 1 4 (qGExO B))]⟩ : St)) (fun x => x) (.exit 1)
  (i0 := (_, _, _, _, _)) y (fun _ => rfl) ?_ ?_ ?_
 ·rintro ⟨C, D, F, G, t4⟩ e
  refine ah ?_
  cbv
  all_goals exact J5
 rintro ⟨R, S, T, B⟩ hx
 subst o1
 have hh := z
 cbv
 exact Eb
 rintro n ⟨L, M, O, A, Q⟩ N1 D1 hh H I Cp
 try dsimp only at hh
 unfold bx.l0 at hh
 cbv
 refine bcs (fun t => ?_) (fun t => ?_)
 replace hh := ifT hh t
 try rw [t]
 cbv
 ·refine H (_, _, _, _, _) _ hh fun ⟨C, D, F, G, t4⟩ e => ?_
  refine aw [((0, 0), (0, 0)), ((2, 0), (2, 0)), ((3, 0), (3, 0)), ((7, 0), (35, 0))] ?_
  cbv
  all_goals exact J5
 replace hh := ifF hh t
 try rw [t]
 cbv
 ·refine I (_, _, _, _) _ hh fun ⟨C, D, F, G⟩ e => ?_
  refine ah ?_
  cbv
  all_goals exact J4
 replace hh := ifF hh s
 try rw [s]
 cbv
 refine bcs (fun u => ?_) (fun u => ?_)
 replace hh := ifT hh u
 try rw [u]
 cbv
 replace hh := bind_some hh
 obtain ⟨o1, y, z⟩ := hh
 refine au hC eok mixed (fun n (i : Int × Int × Int × (List GEx) × Int) => bx.l1 k n i.1 i.2.1 i.2.2.1 i.2.2.2.1 i.2.2.2.2)
  (fun ⟨U, V, W, J, X⟩ => (⟨[(2, .mptr (2, 0) 1 0 0), (3, .mptr (3, 0) 1 0 0), (5, iA X), (1000000, .mptr (0, 0) 1 0 0)], [((0, 0), .box 1 [tA (qIu8 c), iA d]), ((2, 0), .box 1 [iA 0, iA 0, iA 0, .lit (.slice none 0 0)]), ((3, 0), .box 1 [iA U, iA V, iA W, .ref (7, 0) 1 0 (len (qGExO J))]), ((7, 0), .arr 1 4 (qGExO J))]⟩ : St))
  (fun (⟨Y, Z, dv, K⟩ : Int × Int × Int × (List GEx)) => (⟨[(2, .mptr (2, 0) 1 0 0), (3, .mptr (3, 0) 1 0 0), (1000000, .mptr (0, 0) 1 0 0)], [((0, 0), .box 1 [tA (qIu8 c), iA d]), ((2, 0), .box 1 [iA 0, iA 0, iA 0, .lit (.slice none 0 0)]), ((3, 0), .box 1 [iA Y, iA Z, iA dv, .ref (7, 0) 1 0 (len (qGExO K))]), ((7, 0), .arr 1 4 (qGExO K))]⟩ : St)) (fun x => x) (.exit 3)
  (i0 := (_, _, _, _, _)) y (fun _ => rfl) ?_ ?_ ?_
 ·rintro ⟨C, D, F, G, t4⟩ e
  refine ah ?_
  cbv
  all_goals exact J5
 rintro ⟨Y, Z, dv, K⟩ hx
 subst o1
 have hh := z
 cbv
 exact Eb
 rintro n ⟨U, V, W, J, X⟩ N1 D1 hh H I Cp
 try dsimp only at hh
 unfold bx.l1 at hh
 cbv
 refine bcs (fun v => ?_) (fun v => ?_)
 replace hh := ifT hh v
 try rw [v]
 cbv
 replace hh := bind_some hh
 obtain ⟨⟨CZ, C0, C1, C2⟩, Cq, hh⟩ := hh
 try dsimp only at hh
 have fc := rG hQ Cq
 try dsimp only at fc
 refine ac hF fc ?_
 cbv
 ·refine H (_, _, _, _, _) _ hh fun ⟨C, D, F, G, t4⟩ e => ?_
  refine aw [((0, 0), (0, 0)), ((2, 0), (2, 0)), ((3, 0), (3, 0)), ((7, 0), (46, 0))] ?_
  cbv
  all_goals exact J5
 replace hh := ifF hh v
 try rw [v]
 cbv
 ·refine I (_, _, _, _) _ hh fun ⟨C, D, F, G⟩ e => ?_
  refine ah ?_
  cbv
  all_goals exact J4
 replace hh := ifF hh u
 try rw [u]
 cbv
 exact Eb

theorem oG {k : Nat} {p0 : Gl14Rd} {r : (List GRule) × Gl14Rd} (hh : gy.f k p0 = some r) : ai P 76 [.obox [tA (qIu8 p0.b), iA p0.p]] [.obox [tA (qIu8 r.2.b), iA r.2.p]] (oA 12 (qGRule r.1)) := by
 obtain ⟨p0a, p0b⟩ := p0
 unfold gy.f at hh
 refine go (ts := [(2, none)]) (rm := [.own]) (pm := [.own]) Tryz.func76 ?_
 unhygienic intros
 cbv
 replace hh := bind_some hh
 obtain ⟨⟨D3, ⟨DS, DT⟩⟩, h1, hh⟩ := hh
 try dsimp only at hh
 have fc := tZ hQ h1
 try dsimp only at fc
 refine ac hF fc ?_
 cbv
 refine bcs (fun u => ?_) (fun u => ?_)
 replace hh := ifT hh u
 try rw [u]
 cbv
 exact Eb
 replace hh := ifF hh u
 try rw [u]
 cbv
 replace hh := bind_some hh
 obtain ⟨⟨D5, ⟨DU, DV⟩⟩, h6, hh⟩ := hh
 try dsimp only at hh
 have fc := bD hQ h6
 try dsimp only at fc
 refine ac hF fc ?_
 cbv
 replace hh := bind_some hh
 obtain ⟨⟨DW, ⟨Dv, Dw⟩⟩, h9, hh⟩ := hh
 try dsimp only at hh
 have fc := bD hQ h9
 try dsimp only at fc
 refine ac hF fc ?_
 cbv
 refine bcs (fun c => ?_) (fun c => ?_)
 replace hh := ifT hh c
 try rw [c]
 cbv
 replace hh := bind_some hh
 obtain ⟨⟨DX, ⟨Dx, Dy⟩⟩, Dz, hh⟩ := hh
 try dsimp only at hh
 refine ⟨Ob, ?_⟩
 have fc := sE hQ Dz
 try dsimp only at fc
 refine ac hF fc ?_
 cbv
 replace hh := aa hh
 obtain ⟨A, hh⟩ := hh
 try dsimp only at A
 replace hh := aa hh
 obtain ⟨B, hh⟩ := hh
 try dsimp only at B
 refine ⟨Nb A, Mb B, ?_⟩
 replace hh := bind_some hh
 obtain ⟨⟨N, O, Q, ⟨R, S, T, U⟩, V, W, X, Y, Z⟩, DA, hh⟩ := hh
 try dsimp only at hh
 refine ⟨[sA N, iA O, iA Q, iA R, iA S, iA T, tA (qGEx U), iA V, iA W, iA X, iA Y, iA Z], Gb DA, ?_⟩
 cbv
 exact Eb
 replace hh := ifF hh c
 try rw [c]
 cbv
 refine bcs (fun d => ?_) (fun d => ?_)
 replace hh := ifT hh d
 try rw [d]
 cbv
 replace hh := bind_some hh
 obtain ⟨⟨DY, ⟨DB, DC⟩⟩, DD, hh⟩ := hh
 try dsimp only at hh
 refine ⟨Ob, ?_⟩
 have fc := aT hQ DD
 try dsimp only at fc
 refine ac hF fc ?_
 cbv
 replace hh := aa hh
 obtain ⟨C, hh⟩ := hh
 try dsimp only at C
 replace hh := aa hh
 obtain ⟨D, hh⟩ := hh
 try dsimp only at D
 refine ⟨Nb C, Mb D, ?_⟩
 replace hh := bind_some hh
 obtain ⟨⟨dv, xI, Bo, ⟨B2, B3, Ce, Cj⟩, Ck, Cm, Cn, Co, Cp⟩, DE, hh⟩ := hh
 try dsimp only at hh
 refine ⟨[sA dv, iA xI, iA Bo, iA B2, iA B3, iA Ce, tA (qGEx Cj), iA Ck, iA Cm, iA Cn, iA Co, iA Cp], Gb DE, ?_⟩
 cbv
 exact Eb
 replace hh := ifF hh d
 try rw [d]
 cbv
 refine bcs (fun j => ?_) (fun j => ?_)
 replace hh := ifT hh j
 try rw [j]
 cbv
 replace hh := bind_some hh
 obtain ⟨⟨DZ, ⟨DF, DG⟩⟩, DH, hh⟩ := hh
 try dsimp only at hh
 refine ⟨Ob, ?_⟩
 have fc := aT hQ DH
 try dsimp only at fc
 refine ac hF fc ?_
 cbv
 replace hh := aa hh
 obtain ⟨F, hh⟩ := hh
 try dsimp only at F
 replace hh := aa hh
 obtain ⟨G, hh⟩ := hh
 try dsimp only at G
 refine ⟨Nb F, Mb G, ?_⟩
 replace hh := bind_some hh
 obtain ⟨⟨Cq, Cs, Ct, ⟨Cw, Cy, Cz, CB⟩, CE, CG, CH, CI, CJ⟩, DI, hh⟩ := hh
 try dsimp only at hh
 refine ⟨[sA Cq, iA Cs, iA Ct, iA Cw, iA Cy, iA Cz, tA (qGEx CB), iA CE, iA CG, iA CH, iA CI, iA CJ], Gb DI, ?_⟩
 cbv
 exact Eb
 replace hh := ifF hh j
 try rw [j]
 cbv
 refine bcs (fun o => ?_) (fun o => ?_)
 replace hh := ifT hh o
 try rw [o]
 cbv
 replace hh := aa hh
 obtain ⟨H, hh⟩ := hh
 try dsimp only at H
 replace hh := aa hh
 obtain ⟨I, hh⟩ := hh
 try dsimp only at I
 refine ⟨Nb H, Mb I, ?_⟩
 replace hh := bind_some hh
 obtain ⟨⟨CK, CP, CQ, ⟨CU, CZ, C0, C1⟩, C2, C3, C4, C5, C6⟩, DJ, hh⟩ := hh
 try dsimp only at hh
 refine ⟨[sA CK, iA CP, iA CQ, iA CU, iA CZ, iA C0, tA (qGEx C1), iA C2, iA C3, iA C4, iA C5, iA C6], Gb DJ, ?_⟩
 cbv
 exact Eb
 replace hh := ifF hh o
 try rw [o]
 cbv
 refine bcs (fun s => ?_) (fun s => ?_)
 replace hh := ifT hh s
 try rw [s]
 cbv
 replace hh := bind_some hh
 obtain ⟨⟨D0, ⟨DK, DL⟩⟩, DM, hh⟩ := hh
 try dsimp only at hh
 refine ⟨Ob, ?_⟩
 have fc := aT hQ DM
 try dsimp only at fc
 refine ac hF fc ?_
 cbv
 replace hh := aa hh
 obtain ⟨J, hh⟩ := hh
 try dsimp only at J
 replace hh := aa hh
 obtain ⟨K, hh⟩ := hh
 try dsimp only at K
 refine ⟨Nb J, Mb K, ?_⟩
 replace hh := bind_some hh
 obtain ⟨⟨C7, C8, C9, ⟨Da, Db, Dc, Dd⟩, De, Df, Dg, Dh, Di⟩, DN, hh⟩ := hh
 try dsimp only at hh
 refine ⟨[sA C7, iA C8, iA C9, iA Da, iA Db, iA Dc, tA (qGEx Dd), iA De, iA Df, iA Dg, iA Dh, iA Di], Gb DN, ?_⟩
 cbv
 exact Eb
 replace hh := ifF hh s
 try rw [s]
 cbv
 refine bcs (fun t => ?_) (fun t => ?_)
 replace hh := ifT hh t
 try rw [t]
 cbv
 replace hh := bind_some hh
 obtain ⟨⟨⟨v, w, y, z⟩, ⟨DO, DP⟩⟩, DQ, hh⟩ := hh
 try dsimp only at hh
 have fc := ai.frz (r' := .agg [iA v, iA w, iA y, tA (qGEx z)]) (vv hQ DQ) (by cases hQ; simp)
 try dsimp only at fc
 refine ac hF fc ?_
 cbv
 replace hh := aa hh
 obtain ⟨L, hh⟩ := hh
 try dsimp only at L
 replace hh := aa hh
 obtain ⟨M, hh⟩ := hh
 try dsimp only at M
 refine ⟨Nb L, Mb M, ?_⟩
 replace hh := bind_some hh
 obtain ⟨⟨Dj, Dk, Dl, ⟨Dm, Dn, Do, Dp⟩, Dq, Dr, Ds, Dt, Du⟩, DR, hh⟩ := hh
 try dsimp only at hh
 refine ⟨[sA Dj, iA Dk, iA Dl, iA Dm, iA Dn, iA Do, tA (qGEx Dp), iA Dq, iA Dr, iA Ds, iA Dt, iA Du], Gb DR, ?_⟩
 cbv
 exact Eb
 replace hh := ifF hh t
 try rw [t]
 cbv
 exact Eb

theorem pe {k : Nat} {p0 : List Int} {r : List GRule} (hh : eJ.f k p0 = some r) : ai P 36 [tA (qIu8 p0)] [hA] (oA 12 (qGRule r)) := by
 unfold eJ.f at hh
 refine go (ts := [(2, none)]) (rm := [.own]) (pm := [.skip]) Tryz.func36 ?_
 unhygienic intros
 cbv
 replace hh := bind_some hh
 obtain ⟨⟨p, s⟩, d, hh⟩ := hh
 try dsimp only at hh
 refine ac hF (ni hQ d) ?_
 cbv
 replace hh := bind_some hh
 obtain ⟨⟨j, ⟨b, c⟩⟩, o, hh⟩ := hh
 try dsimp only at hh
 have fc := oG hQ o
 try dsimp only at fc
 refine ac hF fc ?_
 cbv
 exact Eb

theorem qh {k : Nat} {p0 : List Int} {r : GRule} (hh : eY.f k p0 = some r) : ai P 31 [tA (qIu8 p0)] [hA] (.agg [sA r.Name, iA r.Pri, iA r.Mode, iA r.Ex.Kind, iA r.Ex.Sym, iA r.Ex.N, tA (qGEx r.Ex.Kids), iA r.Low, iA r.High, iA r.Key, iA r.Add, iA r.Raise]) := by
 unfold eY.f at hh
 refine go (ts := [(2, some 60)]) (rm := [.val]) (pm := [.skip]) Tryz.func31 ?_
 unhygienic intros
 cbv
 replace hh := bind_some hh
 obtain ⟨⟨dv, xI⟩, W, hh⟩ := hh
 try dsimp only at hh
 refine ac hF (ni hQ W) ?_
 cbv
 replace hh := bind_some hh
 obtain ⟨⟨X, ⟨U, V⟩⟩, Y, hh⟩ := hh
 try dsimp only at hh
 have fc := oG hQ Y
 try dsimp only at fc
 refine ac hF fc ?_
 cbv
 refine bcs (fun b => ?_) (fun b => ?_)
 replace hh := ifT hh b
 try rw [b]
 cbv
 replace hh := bind_some hh
 obtain ⟨⟨⟨B, C, D, ⟨F, G, H, I⟩, J, K, L, M, O⟩, ⟨Q, R⟩⟩, Z, hh⟩ := hh
 try dsimp only at hh
 have fc := oB hQ Z
 try dsimp only at fc
 refine ac hF fc ?_
 cbv
 exact Eb
 replace hh := ifF hh b
 try rw [b]
 cbv
 replace hh := aa hh
 obtain ⟨S, hh⟩ := hh
 replace hh := aa hh
 obtain ⟨c, hh⟩ := hh
 try dsimp only at c
 refine ⟨Nb S, Mb c, ?_⟩
 replace hh := bind_some hh
 obtain ⟨⟨d, j, o, ⟨p, s, t, u⟩, v, w, y, z, A⟩, T, hh⟩ := hh
 try dsimp only at hh
 refine ⟨[sA d, iA j, iA o, iA p, iA s, iA t, tA (qGEx u), iA v, iA w, iA y, iA z, iA A], Gb T, ?_⟩
 cbv
 exact Eb

theorem vt {k : Nat} {p0 : ByteArray} {r : Bool} (hh : cJ.f k p0 = some r) : ai P 78 [sA p0] [hA] (bA r) := by
 unfold cJ.f at hh
 refine go (ts := [(2, none)]) (rm := [.own]) (pm := [.skip]) Tryz.func78 ?_
 unhygienic intros
 cbv
 replace hh := bind_some hh
 obtain ⟨B, t, o⟩ := hh
 refine au hC eok mixed (cJ.l0 k p0)
  (fun p => (⟨[(0, sA p0), (3, iA p)], []⟩ : St))
  (fun (_ : Unit) => (⟨[(0, sA p0)], []⟩ : St)) .ok (.exit 0)
  (i0 := _) t (fun _ => rfl) ?_ ?_ ?_
 ·rintro C e
  refine ah ?_
  cbv
  all_goals exact J1
 rintro _ hx
 subst B
 have hh := o
 cbv
 refine bcs (fun b => ?_) (fun b => ?_)
 replace hh := ifT hh b
 try rw [b]
 cbv
 exact Eb
 replace hh := ifF hh b
 try rw [b]
 cbv
 exact Eb
 rintro n p D F hh u v s
 unfold cJ.l0 at hh
 cbv
 refine bcs (fun c => ?_) (fun c => ?_)
 replace hh := ifT hh c
 try rw [c]
 cbv
 replace hh := aa hh
 obtain ⟨w, hh⟩ := hh
 replace hh := aa hh
 obtain ⟨y, hh⟩ := hh
 refine ⟨⟨Nb w, Mb y⟩, ?_⟩
 refine bcs (fun d => ?_) (fun d => ?_)
 replace hh := ifT hh d
 try rw [d]
 cbv
 cases hh
 have hh : some _ = some _ := o
 refine s _ _ ?_
 cbv
 exact Eb
 replace hh := ifF hh d
 try rw [d]
 cbv
 replace hh := aa hh
 obtain ⟨z, hh⟩ := hh
 replace hh := aa hh
 obtain ⟨A, hh⟩ := hh
 refine ⟨⟨Nb z, Mb A⟩, ?_⟩
 refine bcs (fun j => ?_) (fun j => ?_)
 replace hh := ifT hh j
 try rw [j]
 cbv
 cases hh
 have hh : some _ = some _ := o
 refine s _ _ ?_
 cbv
 exact Eb
 replace hh := ifF hh j
 try rw [j]
 cbv
 ·refine u _ _ hh fun C e => ?_
  refine ah ?_
  cbv
  all_goals exact J1
 replace hh := ifF hh c
 try rw [c]
 cbv
 ·refine v () _ hh fun _ e => ?_
  refine ah ?_
  cbv
  all_goals exact J0

theorem vj {p0 : Int} {r : Bool} (hh : iN.f p0 = some r) : ai P 79 [iA p0] [hA] (bA r) := by
 unfold iN.f at hh
 refine go (ts := [(2, none)]) (rm := [.own]) (pm := [.skip]) Tryz.func79 ?_
 unhygienic intros
 cbv
 replace hh := az hh
 rcases hh with ⟨c, hh⟩ | ⟨c, hh⟩
 have b : (lt p0 0) = true := Tb c
 have g := b; cbv at g; try rw [b]
 try rw [g]
 cbv
 exact Eb
 have b : (lt p0 0) = false := Fb c
 have g := b; cbv at g; try rw [b]
 try rw [g]
 cbv
 exact Eb

theorem ou {k : Nat} {p0 : GRule} {r : Bool} (hh : gC.f k p0 = some r) : ai P 32 [.agg [sA p0.Name, iA p0.Pri, iA p0.Mode, iA p0.Ex.Kind, iA p0.Ex.Sym, iA p0.Ex.N, tA (qGEx p0.Ex.Kids), iA p0.Low, iA p0.High, iA p0.Key, iA p0.Add, iA p0.Raise]] [hA] (bA r) := by
 obtain ⟨p0a, p0b, p0c, ⟨p0d, p0e, p0f, p0g⟩, p0h, p0i, p0j, p0k, p0l⟩ := p0
 unfold gC.f at hh
 refine go (ts := [(2, none)]) (rm := [.own]) (pm := [.skip]) Tryz.func32 ?_
 unhygienic intros
 cbv
 replace hh := bind_some hh
 obtain ⟨R, M, hh⟩ := hh
 refine ac hF (vt hQ M) ?_
 cbv
 refine bcs (fun w => ?_) (fun w => ?_)
 replace hh := ifT hh w
 try rw [w]
 cbv
 replace hh := az hh
 rcases hh with ⟨I, hh⟩ | ⟨I, hh⟩
 have y : (lt p0b 0) = true := Tb I
 have g := y; cbv at g; try rw [y]
 try rw [g]
 cbv
 exact Eb
 have y : (lt p0b 0) = false := Fb I
 have g := y; cbv at g; try rw [y]
 try rw [g]
 cbv
 replace hh := az hh
 rcases hh with ⟨J, hh⟩ | ⟨J, hh⟩
 have z : (lt 9 p0b) = true := Tb J
 have g := z; cbv at g; try rw [z]
 try rw [g]
 cbv
 exact Eb
 have z : (lt 9 p0b) = false := Fb J
 have g := z; cbv at g; try rw [z]
 try rw [g]
 cbv
 replace hh := bind_some hh
 obtain ⟨O, K, hh⟩ := hh
 refine ac hF (vj hQ K) ?_
 cbv
 refine bcs (fun b => ?_) (fun b => ?_)
 replace hh := ifT hh b
 try rw [b]
 cbv
 replace hh := bind_some hh
 obtain ⟨Q, L, hh⟩ := hh
 refine ac hF (qK hQ L) ?_
 cbv
 refine bcs (fun c => ?_) (fun c => ?_)
 replace hh := ifT hh c
 try rw [c]
 cbv
 replace hh := az hh
 rcases hh with ⟨A, hh⟩ | ⟨A, hh⟩
 have d : (lt p0h 0) = true := Tb A
 have g := d; cbv at g; try rw [d]
 try rw [g]
 cbv
 exact Eb
 have d : (lt p0h 0) = false := Fb A
 have g := d; cbv at g; try rw [d]
 try rw [g]
 cbv
 replace hh := az hh
 rcases hh with ⟨B, hh⟩ | ⟨B, hh⟩
 have j : (lt p0i p0h) = true := Tb B
 have g := j; cbv at g; try rw [j]
 try rw [g]
 cbv
 exact Eb
 have j : (lt p0i p0h) = false := Fb B
 have g := j; cbv at g; try rw [j]
 try rw [g]
 cbv
 replace hh := az hh
 rcases hh with ⟨C, hh⟩ | ⟨C, hh⟩
 have o : (lt 100 p0i) = true := Tb C
 have g := o; cbv at g; try rw [o]
 try rw [g]
 cbv
 exact Eb
 have o : (lt 100 p0i) = false := Fb C
 have g := o; cbv at g; try rw [o]
 try rw [g]
 cbv
 replace hh := az hh
 rcases hh with ⟨D, hh⟩ | ⟨D, hh⟩
 have p : (lt p0j 0) = true := Tb D
 have g := p; cbv at g; try rw [p]
 try rw [g]
 cbv
 exact Eb
 have p : (lt p0j 0) = false := Fb D
 have g := p; cbv at g; try rw [p]
 try rw [g]
 cbv
 refine bcs (fun s => ?_) (fun s => ?_)
 replace hh := ifT hh s
 try rw [s]
 cbv
 replace hh := az hh
 rcases hh with ⟨F, hh⟩ | ⟨F, hh⟩
 have t : (lt p0k (-9)) = true := Tb F
 have g := t; cbv at g; try rw [t]
 try rw [g]
 cbv
 exact Eb
 have t : (lt p0k (-9)) = false := Fb F
 have g := t; cbv at g; try rw [t]
 try rw [g]
 cbv
 replace hh := az hh
 rcases hh with ⟨G, hh⟩ | ⟨G, hh⟩
 have u : (lt 9 p0k) = true := Tb G
 have g := u; cbv at g; try rw [u]
 try rw [g]
 cbv
 exact Eb
 have u : (lt 9 p0k) = false := Fb G
 have g := u; cbv at g; try rw [u]
 try rw [g]
 cbv
 replace hh := az hh
 rcases hh with ⟨H, hh⟩ | ⟨H, hh⟩
 have v : (lt p0l (-1)) = true := Tb H
 have g := v; cbv at g; try rw [v]
 try rw [g]
 cbv
 exact Eb
 have v : (lt p0l (-1)) = false := Fb H
 have g := v; cbv at g; try rw [v]
 try rw [g]
 cbv
 exact Eb
 replace hh := ifF hh s
 try rw [s]
 cbv
 exact Eb
 replace hh := ifF hh c
 try rw [c]
 cbv
 exact Eb
 replace hh := ifF hh b
 try rw [b]
 cbv
 exact Eb
 replace hh := ifF hh w
 try rw [w]
 cbv
 exact Eb

theorem tf {k : Nat} {p0 : List GRule} {r : Bool} (hh : aW.f k p0 = some r) : ai P 37 [tA (qGRule p0)] [hA] (bA r) := by
 unfold aW.f at hh
 refine go (ts := [(2, none)]) (rm := [.own]) (pm := [.skip]) Tryz.func37 ?_
 unhygienic intros
 cbv
 refine bcs (fun p => ?_) (fun p => ?_)
 replace hh := ifT hh p
 try rw [p]
 cbv
 exact Eb
 replace hh := ifF hh p
 try rw [p]
 cbv
 replace hh := bind_some hh
 obtain ⟨o1, Cy, s⟩ := hh
 refine au hC eok mixed (aW.l2 k p0)
  (fun d => (⟨[(0, tA (qGRule p0)), (3, iA d)], []⟩ : St))
  (fun (_ : Unit) => (⟨[], []⟩ : St)) .ok (.exit 0)
  (i0 := _) Cy (fun _ => rfl) ?_ ?_ ?_
 ·rintro Z e
  refine ah ?_
  cbv
  all_goals exact J1
 rintro _ hx
 subst o1
 have hh := s
 cbv
 exact Eb
 rintro n d N1 D1 hh Cz CB W
 unfold aW.l2 at hh
 cbv
 refine bcs (fun j => ?_) (fun j => ?_)
 replace hh := ifT hh j
 try rw [j]
 cbv
 replace hh := aa hh
 obtain ⟨CE, hh⟩ := hh
 replace hh := bind_some hh
 obtain ⟨⟨dv, xI, Bo, ⟨B2, B3, Ce, Cj⟩, Ck, Cm, Cn, Co, Cp⟩, CG, hh⟩ := hh
 try dsimp only at hh
 refine ⟨[sA dv, iA xI, iA Bo, iA B2, iA B3, iA Ce, tA (qGEx Cj), iA Ck, iA Cm, iA Cn, iA Co, iA Cp], Nb CE, Gb CG, ?_⟩
 cbv
 replace hh := bind_some hh
 obtain ⟨X, CH, hh⟩ := hh
 refine ac hF (ou hQ CH) ?_
 cbv
 replace hh := az hh
 rcases hh with ⟨t, hh⟩ | ⟨t, hh⟩
 have o : X = true := Tb t
 have g := o; cbv at g; try rw [o]
 try rw [g]
 cbv
 replace hh := bind_some hh
 obtain ⟨o2, CI, Y⟩ := hh
 refine au hC eok mixed (aW.l3 k p0 d)
  (fun u => (⟨[(0, tA (qGRule p0)), (3, iA d), (4, iA u)], []⟩ : St))
  (fun (_ : Unit) => (⟨[(0, tA (qGRule p0)), (3, iA d)], []⟩ : St)) .ok (.exit 2)
  (i0 := _) CI (fun _ => rfl) ?_ ?_ ?_
 ·rintro Z e
  refine ah ?_
  cbv
  all_goals exact J1
 rintro _ hx
 subst o2
 have hh := Y
 cbv
 ·refine Cz _ _ hh fun Z e => ?_
  refine ah ?_
  cbv
  all_goals exact J1
 rintro n u N2 D2 hh CJ CK CP
 unfold aW.l3 at hh
 cbv
 refine bcs (fun b => ?_) (fun b => ?_)
 replace hh := ifT hh b
 try rw [b]
 cbv
 replace hh := aa hh
 obtain ⟨Cq, hh⟩ := hh
 replace hh := bind_some hh
 obtain ⟨⟨v, w, y, ⟨z, A, B, C⟩, D, F, G, H, I⟩, Cs, hh⟩ := hh
 try dsimp only at hh
 refine ⟨[sA v, iA w, iA y, iA z, iA A, iA B, tA (qGEx C), iA D, iA F, iA G, iA H, iA I], Nb Cq, Gb Cs, ?_⟩
 cbv
 replace hh := aa hh
 obtain ⟨Ct, hh⟩ := hh
 replace hh := bind_some hh
 obtain ⟨⟨J, K, L, ⟨M, N, O, Q⟩, R, S, T, U, V⟩, Cw, hh⟩ := hh
 try dsimp only at hh
 refine ⟨[sA J, iA K, iA L, iA M, iA N, iA O, tA (qGEx Q), iA R, iA S, iA T, iA U, iA V], Nb Ct, Gb Cw, ?_⟩
 cbv
 refine bcs (fun c => ?_) (fun c => ?_)
 replace hh := ifT hh c
 try rw [c]
 cbv
 cases hh
 have hh : some _ = some _ := Y
 cases hh
 have hh : some _ = some _ := s
 refine CP _ _ ?_
 refine W _ _ ?_
 cbv
 exact Eb
 replace hh := ifF hh c
 try rw [c]
 cbv
 ·refine CJ _ _ hh fun Z e => ?_
  refine ah ?_
  cbv
  all_goals exact J1
 replace hh := ifF hh b
 try rw [b]
 cbv
 ·refine CK () _ hh fun _ e => ?_
  refine ah ?_
  cbv
  all_goals exact J0
 have o : X = false := Fb t
 have g := o; cbv at g; try rw [o]
 try rw [g]
 cbv
 cases hh
 have hh : some _ = some _ := s
 refine W _ _ ?_
 cbv
 exact Eb
 replace hh := ifF hh j
 try rw [j]
 cbv
 ·refine CB () _ hh fun _ e => ?_
  refine ah ?_
  cbv
  all_goals exact J0
theorem fm {k : Nat} {p0 : List GRule} {r : Bool} (hh : aW.f k p0 = some r) : ai P 37 [oA 12 (qGRule p0)] [oA 12 (qGRule p0)] (bA r) := by
  cases hQ; exact (tf .mk hh).lend (rfl) (.lend (congrArg A.tree (nO _).symm) .nil)

theorem bp {p0 : Int} {p1 : Int} {p2 : Int} {r : Bool} (hh : bc.f p0 p1 p2 = some r) : ai P 81 [iA p0, iA p1, iA p2] [hA, hA, hA] (bA r) := by
 unfold bc.f at hh
 refine go (ts := [(6, none)]) (rm := [.own]) (pm := [.skip, .skip, .skip]) Tryz.func81 ?_
 unhygienic intros
 cbv
 replace hh := az hh
 rcases hh with ⟨c, hh⟩ | ⟨c, hh⟩
 have b : (lt p0 p1) = true := Tb c
 have g := b; cbv at g; try rw [b]
 try rw [g]
 cbv
 exact Eb
 have b : (lt p0 p1) = false := Fb c
 have g := b; cbv at g; try rw [b]
 try rw [g]
 cbv
 exact Eb

theorem u4 {k : Nat} {p0 : ByteArray} {r : Bool} (hh : cI.f k p0 = some r) : ai P 80 [sA p0] [hA] (bA r) := by
 unfold cI.f at hh
 refine go (ts := [(2, none)]) (rm := [.own]) (pm := [.skip]) Tryz.func80 ?_
 unhygienic intros
 cbv
 replace hh := bind_some hh
 obtain ⟨B, s, j⟩ := hh
 refine au hC eok mixed (cI.l0 k p0)
  (fun o => (⟨[(0, sA p0), (5, iA (cast (ssize p0))), (6, iA o)], []⟩ : St))
  (fun (_ : Unit) => (⟨[(0, sA p0)], []⟩ : St)) .ok (.exit 0)
  (i0 := _) s (fun _ => rfl) ?_ ?_ ?_
 ·rintro C e
  refine ah ?_
  cbv
  all_goals exact J1
 rintro _ hx
 subst B
 have hh := j
 cbv
 replace hh := bind_some hh
 obtain ⟨D, t, hh⟩ := hh
 refine ac hF (bp hQ t) ?_
 cbv
 exact Eb
 rintro n o F G hh u v p
 unfold cI.l0 at hh
 cbv
 refine bcs (fun b => ?_) (fun b => ?_)
 replace hh := ifT hh b
 try rw [b]
 cbv
 replace hh := aa hh
 obtain ⟨w, hh⟩ := hh
 replace hh := aa hh
 obtain ⟨y, hh⟩ := hh
 refine ⟨⟨Nb w, Mb y⟩, ?_⟩
 refine bcs (fun c => ?_) (fun c => ?_)
 replace hh := ifT hh c
 try rw [c]
 cbv
 cases hh
 have hh : some _ = some _ := j
 refine p _ _ ?_
 cbv
 exact Eb
 replace hh := ifF hh c
 try rw [c]
 cbv
 replace hh := aa hh
 obtain ⟨z, hh⟩ := hh
 replace hh := aa hh
 obtain ⟨A, hh⟩ := hh
 refine ⟨⟨Nb z, Mb A⟩, ?_⟩
 refine bcs (fun d => ?_) (fun d => ?_)
 replace hh := ifT hh d
 try rw [d]
 cbv
 cases hh
 have hh : some _ = some _ := j
 refine p _ _ ?_
 cbv
 exact Eb
 replace hh := ifF hh d
 try rw [d]
 cbv
 ·refine u _ _ hh fun C e => ?_
  refine ah ?_
  cbv
  all_goals exact J1
 replace hh := ifF hh b
 try rw [b]
 cbv
 ·refine v () _ hh fun _ e => ?_
  refine ah ?_
  cbv
  all_goals exact J0

theorem kU {p0 : Int} {r : Bool} (hh : c7.f p0 = some r) : ai P 58 [iA p0] [hA] (bA r) := by
 unfold c7.f at hh
 refine go (ts := [(2, none)]) (rm := [.own]) (pm := [.skip]) Tryz.func58 ?_
 unhygienic intros
 cbv
 replace hh := bind_some hh
 obtain ⟨c, b, hh⟩ := hh
 refine ac hF (bp hQ b) ?_
 cbv
 exact Eb

theorem Ax : ∀ k : Nat, (∀ {p0 : GEx} {r : Int × Int}, bC.f k p0 = some r → ai P 121 [.agg [iA p0.Kind, iA p0.Sym, iA p0.N, tA (qGEx p0.Kids)]] [hA] (.tup [iA r.1, iA r.2])) := by
  intro k
  induction k using Nat.strongRecOn with
  | _ k ih =>
  · intro p0 r hh
    cases k with
    | zero => unfold bC.f at hh; cases hh
    | succ k =>
    obtain ⟨p0a, p0b, p0c, p0d⟩ := p0
    unfold bC.f at hh
    refine go (ts := [(2, none), (3, none)]) (rm := [.own, .own]) (pm := [.skip]) Tryz.func121 ?_
    unhygienic intros
    cbv
    replace hh := bind_some hh
    obtain ⟨M, D, F⟩ := hh
    refine au hC eok mixed (fun n (i : Int × Int × Int) => bC.l0 k (bC.f k) (⟨p0a, p0b, p0c, p0d⟩ : GEx) n i.1 i.2.1 i.2.2)
     (fun ⟨p, d, s⟩ => (⟨[(4, iA p), (5, iA d), (11, tA (qGEx p0d)), (12, iA (cast (len (qGEx p0d)))), (13, iA s)], []⟩ : St))
     (fun (⟨t, u⟩ : Int × Int) => (⟨[(4, iA t), (5, iA u)], []⟩ : St)) (fun x => x) (.exit 0)
     (i0 := (_, _, _)) D (fun _ => rfl) ?_ ?_ ?_
    ·rintro ⟨w, y, G⟩ e
     refine ah ?_
     cbv
     all_goals exact J3
    rintro ⟨t, u⟩ hx
    subst M
    have hh := F
    cbv
    exact Eb
    rintro n ⟨p, d, s⟩ Q R hh v H O
    try dsimp only at hh
    unfold bC.l0 at hh
    cbv
    refine bcs (fun b => ?_) (fun b => ?_)
    replace hh := ifT hh b
    try rw [b]
    cbv
    replace hh := aa hh
    obtain ⟨I, hh⟩ := hh
    replace hh := bind_some hh
    obtain ⟨⟨z, A, B, C⟩, J, hh⟩ := hh
    try dsimp only at hh
    refine ⟨[iA z, iA A, iA B, tA (qGEx C)], Nb I, Gb J, ?_⟩
    cbv
    replace hh := bind_some hh
    obtain ⟨⟨L, j⟩, K, hh⟩ := hh
    try dsimp only at hh
    refine ac hF ((ih k (Nat.lt_succ_self k)) K) ?_
    cbv
    replace hh := az hh
    rcases hh with ⟨o, hh⟩ | ⟨o, hh⟩
    have c : (lt d (wrap .i64 (add j 1))) = true := Tb o
    have g := c; cbv at g; try rw [c]
    try rw [g]
    cbv
    ·refine v (_, _, _) _ hh fun ⟨w, y, G⟩ e => ?_
     refine ah ?_
     cbv
     all_goals exact J3
    have c : (lt d (wrap .i64 (add j 1))) = false := Fb o
    have g := c; cbv at g; try rw [c]
    try rw [g]
    cbv
    ·refine v (_, _, _) _ hh fun ⟨w, y, G⟩ e => ?_
     refine ah ?_
     cbv
     all_goals exact J3
    replace hh := ifF hh b
    try rw [b]
    cbv
    ·refine H (_, _) _ hh fun ⟨w, y⟩ e => ?_
     refine ah ?_
     cbv
     all_goals exact J2
theorem tK {k : Nat} {p0 : GEx} {r : Int × Int} (hh : bC.f k p0 = some r) : ai P 121 [.agg [iA p0.Kind, iA p0.Sym, iA p0.N, tA (qGEx p0.Kids)]] [hA] (.tup [iA r.1, iA r.2]) := (Ax hQ k) hh


theorem oC {p0 : Int} {r : Bool} (hh : fq.f p0 = some r) : ai P 176 [iA p0] [hA] (bA r) := by
 unfold fq.f at hh
 refine go (ts := [(2, none)]) (rm := [.own]) (pm := [.skip]) Tryz.func176 ?_
 unhygienic intros
 cbv
 replace hh := bind_some hh
 obtain ⟨c, b, hh⟩ := hh
 refine ac hF (bp hQ b) ?_
 cbv
 exact Eb

theorem qM {p0 : Int} {r : Int} (hh : kv.f p0 = some r) : ai P 177 [iA p0] [hA] (iA r) := by
 unfold kv.f at hh
 refine go (ts := [(2, none)]) (rm := [.own]) (pm := [.skip]) Tryz.func177 ?_
 unhygienic intros
 cbv
 replace hh := aa hh
 obtain ⟨b, hh⟩ := hh
 replace hh := aa hh
 obtain ⟨c, hh⟩ := hh
 refine ⟨Nb b, Mb c, ?_⟩
 replace hh := bind_some hh
 obtain ⟨d, j, hh⟩ := hh
 refine ⟨[iA d], Gb j, ?_⟩
 cbv
 exact Eb

theorem im {p0 : Int} {r : Bool} (hh : dl.f p0 = some r) : ai P 51 [iA p0] [hA] (bA r) := by
 unfold dl.f at hh
 refine go (ts := [(2, none)]) (rm := [.own]) (pm := [.skip]) Tryz.func51 ?_
 unhygienic intros
 cbv
 replace hh := bind_some hh
 obtain ⟨c, b, hh⟩ := hh
 refine ac hF (bp hQ b) ?_
 cbv
 exact Eb

theorem gJ {k : Nat} {g1 : GEx → Option Bool} (hg1 : ∀ {y0 : GEx} {r : Bool}, g1 y0 = some r → ai P 179 [.agg [iA y0.Kind, iA y0.Sym, iA y0.N, tA (qGEx y0.Kids)]] [hA] (bA r)) {p0 : List GEx} {r : Int} (hh : bu.f g1 k p0 = some r) : ai P 213 [tA (qGEx p0), .clo 179 []] [hA, hA] (iA r) := by
 unfold bu.f at hh
 refine go (ts := [(4, none)]) (rm := [.own]) (pm := [.skip, .skip]) Tryz.func213 ?_
 unhygienic intros
 cbv
 replace hh := bind_some hh
 obtain ⟨C, u, d⟩ := hh
 refine au hC eok mixed (bu.l0 k g1 p0)
  (fun j => (⟨[(0, tA (qGEx p0)), (1, .clo 179 []), (7, iA (cast (len (qGEx p0)))), (8, iA j)], []⟩ : St))
  (fun (_ : Unit) => (⟨[], []⟩ : St)) .ok (.exit 0)
  (i0 := _) u (fun _ => rfl) ?_ ?_ ?_
 ·rintro D e
  refine ah ?_
  cbv
  all_goals exact J1
 rintro _ hx
 subst C
 have hh := d
 cbv
 exact Eb
 rintro n j G H hh v w y
 unfold bu.l0 at hh
 cbv
 refine bcs (fun b => ?_) (fun b => ?_)
 replace hh := ifT hh b
 try rw [b]
 cbv
 replace hh := aa hh
 obtain ⟨z, hh⟩ := hh
 replace hh := bind_some hh
 obtain ⟨⟨o, p, s, t⟩, A, hh⟩ := hh
 try dsimp only at hh
 refine ⟨[iA o, iA p, iA s, tA (qGEx t)], Nb z, Gb A, ?_⟩
 cbv
 replace hh := bind_some hh
 obtain ⟨F, B, hh⟩ := hh
 refine ac hF (hg1 B) ?_
 cbv
 refine bcs (fun c => ?_) (fun c => ?_)
 replace hh := ifT hh c
 try rw [c]
 cbv
 cases hh
 have hh : some _ = some _ := d
 refine y _ _ ?_
 cbv
 exact Eb
 replace hh := ifF hh c
 try rw [c]
 cbv
 ·refine v _ _ hh fun D e => ?_
  refine ah ?_
  cbv
  all_goals exact J1
 replace hh := ifF hh b
 try rw [b]
 cbv
 ·refine w () _ hh fun _ e => ?_
  refine ah ?_
  cbv
  all_goals exact J0

theorem bV {k : Nat} {g1 : GEx → Option Bool} (hg1 : ∀ {y0 : GEx} {r : Bool}, g1 y0 = some r → ai P 179 [.agg [iA y0.Kind, iA y0.Sym, iA y0.N, tA (qGEx y0.Kids)]] [hA] (bA r)) {p0 : List GEx} {r : Bool} (hh : bN.f g1 k p0 = some r) : ai P 178 [tA (qGEx p0), .clo 179 []] [hA, hA] (bA r) := by
 unfold bN.f at hh
 refine go (ts := [(4, none)]) (rm := [.own]) (pm := [.skip, .skip]) Tryz.func178 ?_
 unhygienic intros
 cbv
 replace hh := bind_some hh
 obtain ⟨c, b, hh⟩ := hh
 refine ac hF (gJ hQ (g1 := g1) hg1 b) ?_
 cbv
 exact Eb

end Go.Proofs.YtlbnmldopjadoaaGreat
