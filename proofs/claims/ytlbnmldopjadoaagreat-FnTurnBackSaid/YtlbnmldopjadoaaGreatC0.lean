/- The functions of this program do what the plain ones do. -/
import Derived.Test.YtlbnmldopjadoaaGreatN
import Derived.Test.YtlbnmldopjadoaaGreatVE
import Derived.Test.YtlbnmldopjadoaaGreatX
namespace Go.Proofs.YtlbnmldopjadoaaGreat
open Go Go.Vm
set_option linter.unusedVariables false
set_option maxHeartbeats 4000000
set_option maxRecDepth 4000
noncomputable abbrev P : Program := Tryz.prog
variable {qIu8 : List Int → Vm.Rows} {qInt : List Int → Vm.Rows} {qGExO : List GEx → Vm.Rows} {qGEx : List GEx → Vm.Rows} {qGEv : List GEv → Vm.Rows} {qGOcc : List GOcc → Vm.Rows} {qGNode : List GNode → Vm.Rows} {qLGOcc : List (List GOcc) → Vm.Rows} {qLInt : List (List Int) → Vm.Rows} {qGOccO : List GOcc → Vm.Rows} (hQ : EQ qIu8 qInt qGExO qGEx qGEv qGOcc qGNode qLGOcc qLInt qGOccO)
include hQ
theorem ik {p0 : List Int} {r : Gl14Rd} (hh : dX.f p0 = some r) : am P 48 [tA (qIu8 p0)] [hA] (.obox [tA (qIu8 r.b), iA r.p]) := by
 unfold dX.f at hh
 refine go (ts := [(2, none)]) (rm := [.own]) (pm := [.skip]) Tryz.func48 ?_
 intro Fn LW IN len cast toNat wrap add sub mul bin lt eq At set part app fz' rep nadd nmax ssize sext sget scat seq slt Wide Flat Ones Room r' post' hC hF hr hp
 cbv
 refine bcs (fun f2 => ?_) (fun f2 => ?_)
 replace hh := ifT hh f2
 try rw [f2]
 cbv
 replace hh := aa hh
 obtain ⟨h3, hh⟩ := hh
 replace hh := aa hh
 obtain ⟨h4, hh⟩ := hh
 replace hh := aa hh
 obtain ⟨h5, hh⟩ := hh
 refine ⟨⟨Nb h3, Nb h4, Nb h5, Ab⟩, ?_⟩
 exact Eb
 replace hh := ifF hh f2
 try rw [f2]
 cbv
 exact Eb

theorem bU {p0 : Gl14Rd} {p1 : Int} {r : Int × Gl14Rd} (hh : bx.f p0 p1 = some r) : am P 117 [.obox [tA (qIu8 p0.b), iA p0.p], iA p1] [.obox [tA (qIu8 r.2.b), iA r.2.p], hA] (iA r.1) := by
 obtain ⟨p0a, p0b⟩ := p0
 unfold bx.f at hh
 refine go (ts := [(4, none)]) (rm := [.own]) (pm := [.own, .skip]) Tryz.func117 ?_
 intro Fn LW IN len cast toNat wrap add sub mul bin lt eq At set part app fz' rep nadd nmax ssize sext sget scat seq slt Wide Flat Ones Room r' post' hC hF hr hp
 cbv
 refine bcs (fun f2 => ?_) (fun f2 => ?_)
 replace hh := ifT hh f2
 try rw [f2]
 cbv
 exact Eb
 replace hh := ifF hh f2
 try rw [f2]
 cbv
 refine bcs (fun f4 => ?_) (fun f4 => ?_)
 replace hh := ifT hh f4
 try rw [f4]
 cbv
 exact Eb
 replace hh := ifF hh f4
 try rw [f4]
 cbv
 refine bcs (fun f6 => ?_) (fun f6 => ?_)
 replace hh := ifT hh f6
 try rw [f6]
 cbv
 replace hh := aa hh
 obtain ⟨h7, hh⟩ := hh
 try dsimp only at h7
 replace hh := bind_some hh
 obtain ⟨e8, h9, hh⟩ := hh
 refine ⟨[.lit (.int .u8 e8)], Nb h7, Gb h9, ?_⟩
 cbv
 replace hh := aa hh
 obtain ⟨h10, hh⟩ := hh
 refine ⟨Wb h10, ?_⟩
 exact Eb
 replace hh := ifF hh f6
 try rw [f6]
 cbv
 replace hh := aa hh
 obtain ⟨h11, hh⟩ := hh
 try dsimp only at h11
 refine ⟨Wb h11, ?_⟩
 replace hh := aa hh
 obtain ⟨h12, hh⟩ := hh
 try dsimp only at h12
 replace hh := bind_some hh
 obtain ⟨e13, h14, hh⟩ := hh
 refine ⟨[.lit (.int .u8 e13)], Nb h12, Gb h14, ?_⟩
 cbv
 replace hh := aa hh
 obtain ⟨h15, hh⟩ := hh
 try dsimp only at h15
 refine ⟨Wb h15, ?_⟩
 replace hh := aa hh
 obtain ⟨h16, hh⟩ := hh
 try dsimp only at h16
 replace hh := bind_some hh
 obtain ⟨e17, h18, hh⟩ := hh
 refine ⟨[.lit (.int .u8 e17)], Nb h16, Gb h18, ?_⟩
 cbv
 replace hh := aa hh
 obtain ⟨h19, hh⟩ := hh
 try dsimp only at h19
 refine ⟨Wb h19, ?_⟩
 replace hh := aa hh
 obtain ⟨h21, hh⟩ := hh
 refine ⟨Wb h21, ?_⟩
 exact Eb

theorem bj {p0 : Gl14Rd} {p1 : List Int} {r : Int × Gl14Rd} (hh : aY.f p0 p1 = some r) : am P 101 [.obox [tA (qIu8 p0.b), iA p0.p], tA (qInt p1)] [.obox [tA (qIu8 r.2.b), iA r.2.p], hA] (iA r.1) := by
 obtain ⟨p0a, p0b⟩ := p0
 unfold aY.f at hh
 refine go (ts := [(4, none)]) (rm := [.own]) (pm := [.own, .skip]) Tryz.func101 ?_
 intro Fn LW IN len cast toNat wrap add sub mul bin lt eq At set part app fz' rep nadd nmax ssize sext sget scat seq slt Wide Flat Ones Room r' post' hC hF hr hp
 cbv
 replace hh := bind_some hh
 obtain ⟨⟨x2_0, ⟨x2_1a, x2_1b⟩⟩, h1, hh⟩ := hh
 try dsimp only at hh
 have fc := bU hQ h1
 try dsimp only at fc
 refine ac hF fc ?_
 cbv
 replace hh := aa hh
 obtain ⟨h4, hh⟩ := hh
 try dsimp only at h4
 replace hh := bind_some hh
 obtain ⟨e5, h6, hh⟩ := hh
 refine ⟨[iA e5], Nb h4, Gb h6, ?_⟩
 cbv
 exact Eb

theorem iS {p0 : Int} {r : Int} (hh : eG.f p0 = some r) : am P 120 [iA p0] [hA] (iA r) := by
 unfold eG.f at hh
 refine go (ts := [(2, none)]) (rm := [.own]) (pm := [.skip]) Tryz.func120 ?_
 intro Fn LW IN len cast toNat wrap add sub mul bin lt eq At set part app fz' rep nadd nmax ssize sext sget scat seq slt Wide Flat Ones Room r' post' hC hF hr hp
 cbv
 refine bcs (fun f2 => ?_) (fun f2 => ?_)
 replace hh := ifT hh f2
 try rw [f2]
 cbv
 exact Eb
 replace hh := ifF hh f2
 try rw [f2]
 cbv
 refine bcs (fun f4 => ?_) (fun f4 => ?_)
 replace hh := ifT hh f4
 try rw [f4]
 cbv
 exact Eb
 replace hh := ifF hh f4
 try rw [f4]
 cbv
 refine bcs (fun f6 => ?_) (fun f6 => ?_)
 replace hh := ifT hh f6
 try rw [f6]
 cbv
 exact Eb
 replace hh := ifF hh f6
 try rw [f6]
 cbv
 refine bcs (fun f8 => ?_) (fun f8 => ?_)
 replace hh := ifT hh f8
 try rw [f8]
 cbv
 exact Eb
 replace hh := ifF hh f8
 try rw [f8]
 cbv
 refine bcs (fun f10 => ?_) (fun f10 => ?_)
 replace hh := ifT hh f10
 try rw [f10]
 cbv
 exact Eb
 replace hh := ifF hh f10
 try rw [f10]
 cbv
 refine bcs (fun f12 => ?_) (fun f12 => ?_)
 replace hh := ifT hh f12
 try rw [f12]
 cbv
 exact Eb
 replace hh := ifF hh f12
 try rw [f12]
 cbv
 refine bcs (fun f14 => ?_) (fun f14 => ?_)
 replace hh := ifT hh f14
 try rw [f14]
 cbv
 exact Eb
 replace hh := ifF hh f14
 try rw [f14]
 cbv
 exact Eb

theorem vR : ∀ k : Nat, (∀ {p0 : Gl14Rd} {p1 : Int} {r : GEx × Gl14Rd}, aW.f k p0 p1 = some r → am P 138 [.obox [tA (qIu8 p0.b), iA p0.p], iA p1] [.obox [tA (qIu8 r.2.b), iA r.2.p], hA] (.agg [iA r.1.Kind, iA r.1.Sym, iA r.1.N, oA 4 (qGExO r.1.Kids)])) := by
  intro k
  induction k using Nat.strongRecOn with
  | _ k ih =>
  · intro p0 p1 r hh
    cases k with
    | zero => unfold aW.f at hh; cases hh
    | succ k =>
    obtain ⟨p0a, p0b⟩ := p0
    unfold aW.f at hh
    refine go (ts := [(4, some 25)]) (rm := [.own]) (pm := [.own, .skip]) Tryz.func138 ?_
    intro Fn LW IN len cast toNat wrap add sub mul bin lt eq At set part app fz' rep nadd nmax ssize sext sget scat seq slt Wide Flat Ones Room r' post' hC hF hr hp
    cbv
    replace hh := ak hh
    rcases hh with ⟨b1, hh⟩ | ⟨b1, hh⟩
    have f2 : (lt 1 p1) = true := Tb b1
    have g := f2; cbv at g; try rw [f2]
    try rw [g]
    cbv
    replace hh := bind_some hh
    obtain ⟨⟨x4_0, ⟨x4_1a, x4_1b⟩⟩, h3, hh⟩ := hh
    try dsimp only at hh
    have fc := bU hQ h3
    try dsimp only at fc
    refine ac hF fc ?_
    cbv
    refine bcs (fun f7 => ?_) (fun f7 => ?_)
    replace hh := ifT hh f7
    try rw [f7]
    cbv
    replace hh := bind_some hh
    obtain ⟨⟨x9_0, ⟨x9_1a, x9_1b⟩⟩, h8, hh⟩ := hh
    try dsimp only at hh
    refine ⟨Ob, ?_⟩
    have fc := bj hQ h8
    try dsimp only at fc
    refine ac hF fc ?_
    cbv
    refine ⟨4, ?_⟩
    cbv
    exact Eb
    replace hh := ifF hh f7
    try rw [f7]
    cbv
    replace hh := bind_some hh
    obtain ⟨⟨x12_0, ⟨x12_1a, x12_1b⟩⟩, h11, hh⟩ := hh
    try dsimp only at hh
    refine ⟨Ob, ?_⟩
    have fc := bj hQ h11
    try dsimp only at fc
    refine ac hF fc ?_
    cbv
    refine bcs (fun f15 => ?_) (fun f15 => ?_)
    replace hh := ifT hh f15
    try rw [f15]
    cbv
    replace hh := bind_some hh
    obtain ⟨⟨x17_0, ⟨x17_1a, x17_1b⟩⟩, h16, hh⟩ := hh
    try dsimp only at hh
    refine ⟨Ob, ?_⟩
    have fc := bj hQ h16
    try dsimp only at fc
    refine ac hF fc ?_
    cbv
    replace hh := bind_some hh
    obtain ⟨x20, h19, hh⟩ := hh
    refine ac hF (iS hQ h19) ?_
    cbv
    replace hh := bind_some hh
    obtain ⟨o1, hl1, hq1⟩ := hh
    refine aA hC eok mixed (fun n (i : (List Int) × Int × (List GEx) × Int) => aW.l0 k (aW.f k) p1 n i.1 i.2.1 i.2.2.1 i.2.2.2)
     (fun ⟨s28, s29, s30, s31⟩ => (⟨[(0, .mptr (0, 0) 1 0 0), (1, iA p1), (4, .mptr (4, 0) 1 0 0), (5, .mptr (5, 0) 1 0 0), (6, iA s31), (1000000, .mptr (0, 0) 1 0 0)], [((0, 0), .box 1 [tA (qIu8 s28), iA s29]), ((4, 0), .box 1 [iA 0, iA 0, iA 0, .lit (.slice none 0 0)]), ((5, 0), .box 1 [iA x12_0, iA 0, iA x17_0, .ref (5, 53) 1 0 (len (qGExO s30))]), ((5, 53), .arr 1 4 (qGExO s30))]⟩ : St))
     (fun (⟨x38, x39, x40⟩ : (List GEx) × (List Int) × Int) => (⟨[(4, .mptr (4, 0) 1 0 0), (5, .mptr (5, 0) 1 0 0), (1000000, .mptr (0, 0) 1 0 0)], [((0, 0), .box 1 [tA (qIu8 x39), iA x40]), ((4, 0), .box 1 [iA 0, iA 0, iA 0, .lit (.slice none 0 0)]), ((5, 0), .box 1 [iA x12_0, iA 0, iA x17_0, .ref (5, 53) 1 0 (len (qGExO x38))]), ((5, 53), .arr 1 4 (qGExO x38))]⟩ : St)) (fun x => x) (.exit 0)
     (i0 := (_, _, _, _)) hl1 (fun _ => rfl) ?_ ?_ ?_
    ·rintro ⟨t0, t1, t2, t3⟩ e
     refine az [((0, 0), (0, 0)), ((4, 0), (4, 0)), ((5, 0), (5, 0))] ?_
     cbv
     all_goals exact J4
    rintro ⟨x38, x39, x40⟩ hx
    subst o1
    have hh := hq1
    cbv
    exact Eb
    rintro n ⟨s28, s29, s30, s31⟩ N1 D1 hh hN1 hD1 hQ1
    dsimp only at hh
    unfold aW.l0 at hh
    cbv
    refine bcs (fun f42 => ?_) (fun f42 => ?_)
    replace hh := ifT hh f42
    try rw [f42]
    cbv
    replace hh := bind_some hh
    obtain ⟨⟨⟨x44_0a, x44_0b, x44_0c, x44_0d⟩, ⟨x44_1a, x44_1b⟩⟩, h43, hh⟩ := hh
    try dsimp only at hh
    have fc := (ih k (Nat.lt_succ_self k)) h43
    try dsimp only at fc
    refine ac hF fc ?_
    cbv
    replace hh := aa hh
    obtain ⟨h46, hh⟩ := hh
    refine ⟨⟨Ob, Ab⟩, ?_⟩
    refine ⟨⟨Ob, Wb h46⟩, ?_⟩
    ·refine hN1 (_, _, _, _) _ hh fun ⟨t0, t1, t2, t3⟩ e => ?_
     refine az [((0, 0), (0, 0)), ((4, 0), (4, 0)), ((5, 0), (5, 0)), ((5, 53), (43, 0))] ?_
     cbv
     all_goals exact J4
    replace hh := ifF hh f42
    try rw [f42]
    cbv
    ·refine hD1 (_, _, _) _ hh fun ⟨t0, t1, t2⟩ e => ?_
     refine aj ?_
     cbv
     all_goals exact J3
    replace hh := ifF hh f15
    try rw [f15]
    cbv
    replace hh := bind_some hh
    obtain ⟨x48, h47, hh⟩ := hh
    refine ac hF (iS hQ h47) ?_
    cbv
    replace hh := bind_some hh
    obtain ⟨o1, hl1, hq1⟩ := hh
    refine aA hC eok mixed (fun n (i : (List Int) × Int × (List GEx) × Int) => aW.l1 k (aW.f k) p1 n i.1 i.2.1 i.2.2.1 i.2.2.2)
     (fun ⟨s56, s57, s58, s59⟩ => (⟨[(0, .mptr (0, 0) 1 0 0), (1, iA p1), (4, .mptr (4, 0) 1 0 0), (5, .mptr (5, 0) 1 0 0), (6, iA s59), (1000000, .mptr (0, 0) 1 0 0)], [((0, 0), .box 1 [tA (qIu8 s56), iA s57]), ((4, 0), .box 1 [iA 0, iA 0, iA 0, .lit (.slice none 0 0)]), ((5, 0), .box 1 [iA x12_0, iA 0, iA 0, .ref (5, 53) 1 0 (len (qGExO s58))]), ((5, 53), .arr 1 4 (qGExO s58))]⟩ : St))
     (fun (⟨x66, x67, x68⟩ : (List GEx) × (List Int) × Int) => (⟨[(4, .mptr (4, 0) 1 0 0), (5, .mptr (5, 0) 1 0 0), (1000000, .mptr (0, 0) 1 0 0)], [((0, 0), .box 1 [tA (qIu8 x67), iA x68]), ((4, 0), .box 1 [iA 0, iA 0, iA 0, .lit (.slice none 0 0)]), ((5, 0), .box 1 [iA x12_0, iA 0, iA 0, .ref (5, 53) 1 0 (len (qGExO x66))]), ((5, 53), .arr 1 4 (qGExO x66))]⟩ : St)) (fun x => x) (.exit 0)
     (i0 := (_, _, _, _)) hl1 (fun _ => rfl) ?_ ?_ ?_
    ·rintro ⟨t0, t1, t2, t3⟩ e
     refine az [((0, 0), (0, 0)), ((4, 0), (4, 0)), ((5, 0), (5, 0))] ?_
     cbv
     all_goals exact J4
    rintro ⟨x66, x67, x68⟩ hx
    subst o1
    have hh := hq1
    cbv
    exact Eb
    rintro n ⟨s56, s57, s58, s59⟩ N1 D1 hh hN1 hD1 hQ1
    dsimp only at hh
    unfold aW.l1 at hh
    cbv
    refine bcs (fun f70 => ?_) (fun f70 => ?_)
    replace hh := ifT hh f70
    try rw [f70]
    cbv
    replace hh := bind_some hh
    obtain ⟨⟨⟨x72_0a, x72_0b, x72_0c, x72_0d⟩, ⟨x72_1a, x72_1b⟩⟩, h71, hh⟩ := hh
    try dsimp only at hh
    have fc := (ih k (Nat.lt_succ_self k)) h71
    try dsimp only at fc
    refine ac hF fc ?_
    cbv
    replace hh := aa hh
    obtain ⟨h74, hh⟩ := hh
    refine ⟨⟨Ob, Ab⟩, ?_⟩
    refine ⟨⟨Ob, Wb h74⟩, ?_⟩
    ·refine hN1 (_, _, _, _) _ hh fun ⟨t0, t1, t2, t3⟩ e => ?_
     refine az [((0, 0), (0, 0)), ((4, 0), (4, 0)), ((5, 0), (5, 0)), ((5, 53), (43, 0))] ?_
     cbv
     all_goals exact J4
    replace hh := ifF hh f70
    try rw [f70]
    cbv
    ·refine hD1 (_, _, _) _ hh fun ⟨t0, t1, t2⟩ e => ?_
     refine aj ?_
     cbv
     all_goals exact J3
    have f2 : (lt 1 p1) = false := Fb b1
    have g := f2; cbv at g; try rw [f2]
    try rw [g]
    cbv
    replace hh := bind_some hh
    obtain ⟨⟨x76_0, ⟨x76_1a, x76_1b⟩⟩, h75, hh⟩ := hh
    try dsimp only at hh
    refine ⟨Ob, ?_⟩
    have fc := bj hQ h75
    try dsimp only at fc
    refine ac hF fc ?_
    cbv
    refine ⟨4, ?_⟩
    cbv
    exact Eb
theorem nH {k : Nat} {p0 : Gl14Rd} {p1 : Int} {r : GEx × Gl14Rd} (hh : aW.f k p0 p1 = some r) : am P 138 [.obox [tA (qIu8 p0.b), iA p0.p], iA p1] [.obox [tA (qIu8 r.2.b), iA r.2.p], hA] (.agg [iA r.1.Kind, iA r.1.Sym, iA r.1.N, oA 4 (qGExO r.1.Kids)]) := (vR hQ k) hh


theorem wR : ∀ k : Nat, (∀ {p0 : GEx} {p1 : Int} {r : Bool}, av.f k p0 p1 = some r → am P 53 [.agg [iA p0.Kind, iA p0.Sym, iA p0.N, tA (qGEx p0.Kids)], iA p1] [hA, hA] (bA r)) := by
  intro k
  induction k using Nat.strongRecOn with
  | _ k ih =>
  · intro p0 p1 r hh
    cases k with
    | zero => unfold av.f at hh; cases hh
    | succ k =>
    obtain ⟨p0a, p0b, p0c, p0d⟩ := p0
    unfold av.f at hh
    refine go (ts := [(4, none)]) (rm := [.own]) (pm := [.skip, .skip]) Tryz.func53 ?_
    intro Fn LW IN len cast toNat wrap add sub mul bin lt eq At set part app fz' rep nadd nmax ssize sext sget scat seq slt Wide Flat Ones Room r' post' hC hF hr hp
    cbv
    refine bcs (fun f2 => ?_) (fun f2 => ?_)
    replace hh := ifT hh f2
    try rw [f2]
    cbv
    exact Eb
    replace hh := ifF hh f2
    try rw [f2]
    cbv
    replace hh := bind_some hh
    obtain ⟨x4, h3, hh⟩ := hh
    refine ac hF (iS hQ h3) ?_
    cbv
    replace hh := ak hh
    rcases hh with ⟨b6, hh⟩ | ⟨b6, hh⟩
    have f7 : (eq x4 (cast (len (qGEx p0d)))) = true := Tb b6
    have g := f7; cbv at g; try rw [f7]
    try rw [g]
    cbv
    refine bcs (fun f9 => ?_) (fun f9 => ?_)
    replace hh := ifT hh f9
    try rw [f9]
    cbv
    exact Eb
    replace hh := ifF hh f9
    try rw [f9]
    cbv
    replace hh := ak hh
    rcases hh with ⟨b10, hh⟩ | ⟨b10, hh⟩
    have f11 : (lt p0b 5) = true := Tb b10
    have g := f11; cbv at g; try rw [f11]
    try rw [g]
    cbv
    replace hh := ak hh
    rcases hh with ⟨b12, hh⟩ | ⟨b12, hh⟩
    have f13 : (eq p0a 1) = true := Tb b12
    have g := f13; cbv at g; try rw [f13]
    try rw [g]
    cbv
    refine bcs (fun f15 => ?_) (fun f15 => ?_)
    replace hh := ifT hh f15
    try rw [f15]
    cbv
    refine bcs (fun f17 => ?_) (fun f17 => ?_)
    replace hh := ifT hh f17
    try rw [f17]
    cbv
    exact Eb
    replace hh := ifF hh f17
    try rw [f17]
    cbv
    refine bcs (fun f19 => ?_) (fun f19 => ?_)
    replace hh := ifT hh f19
    try rw [f19]
    cbv
    exact Eb
    replace hh := ifF hh f19
    try rw [f19]
    cbv
    first | rw [f15] | (have g := f15; cbv at g; rw [g])
    cbv
    replace hh := bind_some hh
    obtain ⟨o1, hl1, hq1⟩ := hh
    refine aA hC eok mixed (av.l0 k (av.f k) (⟨p0a, p0b, p0c, p0d⟩ : GEx) p1)
     (fun s30 => (⟨[(1, iA p1), (2, .mptr (2, 0) 1 0 0), (5, iA s30)], [((2, 0), .box 1 [iA p0a, iA p0b, iA p0c, tA (qGEx p0d)])]⟩ : St))
     (fun (_ : Unit) => (⟨[], []⟩ : St)) .ok (.exit 0)
     (i0 := _) hl1 (fun _ => rfl) ?_ ?_ ?_
    ·rintro t0 e
     refine aj ?_
     cbv
     all_goals exact J1
    rintro _ hx
    subst o1
    have hh := hq1
    cbv
    exact Eb
    rintro n s30 N1 D1 hh hN1 hD1 hQ1
    unfold av.l0 at hh
    cbv
    refine bcs (fun f42 => ?_) (fun f42 => ?_)
    replace hh := ifT hh f42
    try rw [f42]
    cbv
    replace hh := aa hh
    obtain ⟨h43, hh⟩ := hh
    replace hh := bind_some hh
    obtain ⟨⟨e44a, e44b, e44c, e44d⟩, h45, hh⟩ := hh
    try dsimp only at hh
    refine ⟨[iA e44a, iA e44b, iA e44c, tA (qGEx e44d)], Nb h43, Gb h45, ?_⟩
    cbv
    replace hh := bind_some hh
    obtain ⟨x47, h46, hh⟩ := hh
    refine ac hF ((ih k (Nat.lt_succ_self k)) h46) ?_
    cbv
    replace hh := ak hh
    rcases hh with ⟨b49, hh⟩ | ⟨b49, hh⟩
    have f50 : x47 = true := Tb b49
    have g := f50; cbv at g; try rw [f50]
    try rw [g]
    cbv
    ·refine hN1 _ _ hh fun t0 e => ?_
     refine aj ?_
     cbv
     all_goals exact J1
    have f50 : x47 = false := Fb b49
    have g := f50; cbv at g; try rw [f50]
    try rw [g]
    cbv
    cases hh
    have hh : some _ = some _ := hq1
    refine hQ1 _ _ ?_
    cbv
    exact Eb
    replace hh := ifF hh f42
    try rw [f42]
    cbv
    ·refine hD1 () _ hh fun _ e => ?_
     refine aj ?_
     cbv
     all_goals exact J0
    replace hh := ifF hh f15
    try rw [f15]
    cbv
    first | rw [f15] | (have g := f15; cbv at g; rw [g])
    cbv
    replace hh := ak hh
    rcases hh with ⟨b51, hh⟩ | ⟨b51, hh⟩
    have f52 : (eq p0c 0) = true := Tb b51
    have g := f52; cbv at g; try rw [f52]
    try rw [g]
    cbv
    replace hh := bind_some hh
    obtain ⟨o1, hl1, hq1⟩ := hh
    refine aA hC eok mixed (av.l1 k (av.f k) (⟨p0a, p0b, p0c, p0d⟩ : GEx) p1)
     (fun s63 => (⟨[(1, iA p1), (2, .mptr (2, 0) 1 0 0), (5, iA s63)], [((2, 0), .box 1 [iA p0a, iA p0b, iA p0c, tA (qGEx p0d)])]⟩ : St))
     (fun (_ : Unit) => (⟨[], []⟩ : St)) .ok (.exit 0)
     (i0 := _) hl1 (fun _ => rfl) ?_ ?_ ?_
    ·rintro t0 e
     refine aj ?_
     cbv
     all_goals exact J1
    rintro _ hx
    subst o1
    have hh := hq1
    cbv
    exact Eb
    rintro n s63 N1 D1 hh hN1 hD1 hQ1
    unfold av.l1 at hh
    cbv
    refine bcs (fun f75 => ?_) (fun f75 => ?_)
    replace hh := ifT hh f75
    try rw [f75]
    cbv
    replace hh := aa hh
    obtain ⟨h76, hh⟩ := hh
    replace hh := bind_some hh
    obtain ⟨⟨e77a, e77b, e77c, e77d⟩, h78, hh⟩ := hh
    try dsimp only at hh
    refine ⟨[iA e77a, iA e77b, iA e77c, tA (qGEx e77d)], Nb h76, Gb h78, ?_⟩
    cbv
    replace hh := bind_some hh
    obtain ⟨x80, h79, hh⟩ := hh
    refine ac hF ((ih k (Nat.lt_succ_self k)) h79) ?_
    cbv
    replace hh := ak hh
    rcases hh with ⟨b82, hh⟩ | ⟨b82, hh⟩
    have f83 : x80 = true := Tb b82
    have g := f83; cbv at g; try rw [f83]
    try rw [g]
    cbv
    ·refine hN1 _ _ hh fun t0 e => ?_
     refine aj ?_
     cbv
     all_goals exact J1
    have f83 : x80 = false := Fb b82
    have g := f83; cbv at g; try rw [f83]
    try rw [g]
    cbv
    cases hh
    have hh : some _ = some _ := hq1
    refine hQ1 _ _ ?_
    cbv
    exact Eb
    replace hh := ifF hh f75
    try rw [f75]
    cbv
    ·refine hD1 () _ hh fun _ e => ?_
     refine aj ?_
     cbv
     all_goals exact J0
    have f52 : (eq p0c 0) = false := Fb b51
    have g := f52; cbv at g; try rw [f52]
    try rw [g]
    cbv
    exact Eb
    have f13 : (eq p0a 1) = false := Fb b12
    have g := f13; cbv at g; try rw [f13]
    try rw [g]
    cbv
    replace hh := ak hh
    rcases hh with ⟨b84, hh⟩ | ⟨b84, hh⟩
    have f85 : (eq p0b 0) = true := Tb b84
    have g := f85; cbv at g; try rw [f85]
    try rw [g]
    cbv
    refine bcs (fun f87 => ?_) (fun f87 => ?_)
    replace hh := ifT hh f87
    try rw [f87]
    cbv
    refine bcs (fun f89 => ?_) (fun f89 => ?_)
    replace hh := ifT hh f89
    try rw [f89]
    cbv
    exact Eb
    replace hh := ifF hh f89
    try rw [f89]
    cbv
    refine bcs (fun f91 => ?_) (fun f91 => ?_)
    replace hh := ifT hh f91
    try rw [f91]
    cbv
    exact Eb
    replace hh := ifF hh f91
    try rw [f91]
    cbv
    first | rw [f87] | (have g := f87; cbv at g; rw [g])
    cbv
    replace hh := bind_some hh
    obtain ⟨o1, hl1, hq1⟩ := hh
    refine aA hC eok mixed (av.l2 k (av.f k) (⟨p0a, p0b, p0c, p0d⟩ : GEx) p1)
     (fun s102 => (⟨[(1, iA p1), (2, .mptr (2, 0) 1 0 0), (5, iA s102)], [((2, 0), .box 1 [iA p0a, iA p0b, iA p0c, tA (qGEx p0d)])]⟩ : St))
     (fun (_ : Unit) => (⟨[], []⟩ : St)) .ok (.exit 0)
     (i0 := _) hl1 (fun _ => rfl) ?_ ?_ ?_
    ·rintro t0 e
     refine aj ?_
     cbv
     all_goals exact J1
    rintro _ hx
    subst o1
    have hh := hq1
    cbv
    exact Eb
    rintro n s102 N1 D1 hh hN1 hD1 hQ1
    unfold av.l2 at hh
    cbv
    refine bcs (fun f114 => ?_) (fun f114 => ?_)
    replace hh := ifT hh f114
    try rw [f114]
    cbv
    replace hh := aa hh
    obtain ⟨h115, hh⟩ := hh
    replace hh := bind_some hh
    obtain ⟨⟨e116a, e116b, e116c, e116d⟩, h117, hh⟩ := hh
    try dsimp only at hh
    refine ⟨[iA e116a, iA e116b, iA e116c, tA (qGEx e116d)], Nb h115, Gb h117, ?_⟩
    cbv
    replace hh := bind_some hh
    obtain ⟨x119, h118, hh⟩ := hh
    refine ac hF ((ih k (Nat.lt_succ_self k)) h118) ?_
    cbv
    replace hh := ak hh
    rcases hh with ⟨b121, hh⟩ | ⟨b121, hh⟩
    have f122 : x119 = true := Tb b121
    have g := f122; cbv at g; try rw [f122]
    try rw [g]
    cbv
    ·refine hN1 _ _ hh fun t0 e => ?_
     refine aj ?_
     cbv
     all_goals exact J1
    have f122 : x119 = false := Fb b121
    have g := f122; cbv at g; try rw [f122]
    try rw [g]
    cbv
    cases hh
    have hh : some _ = some _ := hq1
    refine hQ1 _ _ ?_
    cbv
    exact Eb
    replace hh := ifF hh f114
    try rw [f114]
    cbv
    ·refine hD1 () _ hh fun _ e => ?_
     refine aj ?_
     cbv
     all_goals exact J0
    replace hh := ifF hh f87
    try rw [f87]
    cbv
    first | rw [f87] | (have g := f87; cbv at g; rw [g])
    cbv
    replace hh := ak hh
    rcases hh with ⟨b123, hh⟩ | ⟨b123, hh⟩
    have f124 : (eq p0c 0) = true := Tb b123
    have g := f124; cbv at g; try rw [f124]
    try rw [g]
    cbv
    replace hh := bind_some hh
    obtain ⟨o1, hl1, hq1⟩ := hh
    refine aA hC eok mixed (av.l3 k (av.f k) (⟨p0a, p0b, p0c, p0d⟩ : GEx) p1)
     (fun s135 => (⟨[(1, iA p1), (2, .mptr (2, 0) 1 0 0), (5, iA s135)], [((2, 0), .box 1 [iA p0a, iA p0b, iA p0c, tA (qGEx p0d)])]⟩ : St))
     (fun (_ : Unit) => (⟨[], []⟩ : St)) .ok (.exit 0)
     (i0 := _) hl1 (fun _ => rfl) ?_ ?_ ?_
    ·rintro t0 e
     refine aj ?_
     cbv
     all_goals exact J1
    rintro _ hx
    subst o1
    have hh := hq1
    cbv
    exact Eb
    rintro n s135 N1 D1 hh hN1 hD1 hQ1
    unfold av.l3 at hh
    cbv
    refine bcs (fun f147 => ?_) (fun f147 => ?_)
    replace hh := ifT hh f147
    try rw [f147]
    cbv
    replace hh := aa hh
    obtain ⟨h148, hh⟩ := hh
    replace hh := bind_some hh
    obtain ⟨⟨e149a, e149b, e149c, e149d⟩, h150, hh⟩ := hh
    try dsimp only at hh
    refine ⟨[iA e149a, iA e149b, iA e149c, tA (qGEx e149d)], Nb h148, Gb h150, ?_⟩
    cbv
    replace hh := bind_some hh
    obtain ⟨x152, h151, hh⟩ := hh
    refine ac hF ((ih k (Nat.lt_succ_self k)) h151) ?_
    cbv
    replace hh := ak hh
    rcases hh with ⟨b154, hh⟩ | ⟨b154, hh⟩
    have f155 : x152 = true := Tb b154
    have g := f155; cbv at g; try rw [f155]
    try rw [g]
    cbv
    ·refine hN1 _ _ hh fun t0 e => ?_
     refine aj ?_
     cbv
     all_goals exact J1
    have f155 : x152 = false := Fb b154
    have g := f155; cbv at g; try rw [f155]
    try rw [g]
    cbv
    cases hh
    have hh : some _ = some _ := hq1
    refine hQ1 _ _ ?_
    cbv
    exact Eb
    replace hh := ifF hh f147
    try rw [f147]
    cbv
    ·refine hD1 () _ hh fun _ e => ?_
     refine aj ?_
     cbv
     all_goals exact J0
    have f124 : (eq p0c 0) = false := Fb b123
    have g := f124; cbv at g; try rw [f124]
    try rw [g]
    cbv
    exact Eb
    have f85 : (eq p0b 0) = false := Fb b84
    have g := f85; cbv at g; try rw [f85]
    try rw [g]
    cbv
    exact Eb
    have f11 : (lt p0b 5) = false := Fb b10
    have g := f11; cbv at g; try rw [f11]
    try rw [g]
    cbv
    exact Eb
    have f7 : (eq x4 (cast (len (qGEx p0d)))) = false := Fb b6
    have g := f7; cbv at g; try rw [f7]
    try rw [g]
    cbv
    exact Eb
theorem qU {k : Nat} {p0 : GEx} {p1 : Int} {r : Bool} (hh : av.f k p0 p1 = some r) : am P 53 [.agg [iA p0.Kind, iA p0.Sym, iA p0.N, tA (qGEx p0.Kids)], iA p1] [hA, hA] (bA r) := (wR hQ k) hh


theorem w9 : ∀ k : Nat, (∀ {p0 : GEx} {p1 : Int} {r : Int}, bI.f k p0 p1 = some r → am P 54 [.agg [iA p0.Kind, iA p0.Sym, iA p0.N, tA (qGEx p0.Kids)], iA p1] [hA, hA] (iA r)) := by
  intro k
  induction k using Nat.strongRecOn with
  | _ k ih =>
  · intro p0 p1 r hh
    cases k with
    | zero => unfold bI.f at hh; cases hh
    | succ k =>
    obtain ⟨p0a, p0b, p0c, p0d⟩ := p0
    unfold bI.f at hh
    refine go (ts := [(4, none)]) (rm := [.own]) (pm := [.skip, .skip]) Tryz.func54 ?_
    intro Fn LW IN len cast toNat wrap add sub mul bin lt eq At set part app fz' rep nadd nmax ssize sext sget scat seq slt Wide Flat Ones Room r' post' hC hF hr hp
    cbv
    replace hh := bind_some hh
    obtain ⟨o1, hl1, hq1⟩ := hh
    refine aA hC eok mixed (fun n (i : Int × Int) => bI.l0 k (bI.f k) (⟨p0a, p0b, p0c, p0d⟩ : GEx) p1 n i.1 i.2)
     (fun ⟨s11, s12⟩ => (⟨[(1, iA p1), (2, .mptr (2, 0) 1 0 0), (5, iA s11), (6, iA s12)], [((2, 0), .box 1 [iA p0a, iA p0b, iA p0c, tA (qGEx p0d)])]⟩ : St))
     (fun (x23 : Int) => (⟨[(5, iA x23)], []⟩ : St)) (fun x => x) (.exit 0)
     (i0 := (_, _)) hl1 (fun _ => rfl) ?_ ?_ ?_
    ·rintro ⟨t0, t1⟩ e
     refine aj ?_
     cbv
     all_goals exact J2
    rintro x23 hx
    subst o1
    have hh := hq1
    cbv
    exact Eb
    rintro n ⟨s11, s12⟩ N1 D1 hh hN1 hD1 hQ1
    dsimp only at hh
    unfold bI.l0 at hh
    cbv
    refine bcs (fun f25 => ?_) (fun f25 => ?_)
    replace hh := ifT hh f25
    try rw [f25]
    cbv
    refine bcs (fun f27 => ?_) (fun f27 => ?_)
    replace hh := ifT hh f27
    try rw [f27]
    cbv
    replace hh := aa hh
    obtain ⟨h28, hh⟩ := hh
    replace hh := bind_some hh
    obtain ⟨⟨e29a, e29b, e29c, e29d⟩, h30, hh⟩ := hh
    try dsimp only at hh
    refine ⟨[iA e29a, iA e29b, iA e29c, tA (qGEx e29d)], Nb h28, Gb h30, ?_⟩
    cbv
    replace hh := bind_some hh
    obtain ⟨x32, h31, hh⟩ := hh
    refine ac hF ((ih k (Nat.lt_succ_self k)) h31) ?_
    cbv
    ·refine hN1 (_, _) _ hh fun ⟨t0, t1⟩ e => ?_
     refine aj ?_
     cbv
     all_goals exact J2
    replace hh := ifF hh f27
    try rw [f27]
    cbv
    ·refine hD1 _ _ hh fun t0 e => ?_
     refine aj ?_
     cbv
     all_goals exact J1
    replace hh := ifF hh f25
    try rw [f25]
    cbv
    ·refine hD1 _ _ hh fun t0 e => ?_
     refine aj ?_
     cbv
     all_goals exact J1
theorem rc {k : Nat} {p0 : GEx} {p1 : Int} {r : Int} (hh : bI.f k p0 p1 = some r) : am P 54 [.agg [iA p0.Kind, iA p0.Sym, iA p0.N, tA (qGEx p0.Kids)], iA p1] [hA, hA] (iA r) := (w9 hQ k) hh


theorem tg {k : Nat} {p0 : GEx} {r : Bool} (hh : dP.f k p0 = some r) : am P 17 [.agg [iA p0.Kind, iA p0.Sym, iA p0.N, tA (qGEx p0.Kids)]] [hA] (bA r) := by
 obtain ⟨p0a, p0b, p0c, p0d⟩ := p0
 unfold dP.f at hh
 refine go (ts := [(2, none)]) (rm := [.own]) (pm := [.skip]) Tryz.func17 ?_
 intro Fn LW IN len cast toNat wrap add sub mul bin lt eq At set part app fz' rep nadd nmax ssize sext sget scat seq slt Wide Flat Ones Room r' post' hC hF hr hp
 cbv
 replace hh := bind_some hh
 obtain ⟨x2, h1, hh⟩ := hh
 refine ac hF (qU hQ h1) ?_
 cbv
 refine bcs (fun f5 => ?_) (fun f5 => ?_)
 replace hh := ifT hh f5
 try rw [f5]
 cbv
 replace hh := bind_some hh
 obtain ⟨x7, h6, hh⟩ := hh
 refine ac hF (rc hQ h6) ?_
 cbv
 exact Eb
 replace hh := ifF hh f5
 try rw [f5]
 cbv
 exact Eb
theorem eU {k : Nat} {p0 : GEx} {r : Bool} (hh : dP.f k p0 = some r) : am P 17 [.agg [iA p0.Kind, iA p0.Sym, iA p0.N, oA 4 (qGExO p0.Kids)]] [.agg [iA p0.Kind, iA p0.Sym, iA p0.N, oA 4 (qGExO p0.Kids)]] (bA r) := by
  cases hQ; exact (tg .mk hh).lend (rfl) (.lend (by simp) .nil)

theorem lI {k : Nat} {p0 : Gl14Rd} {r : GEx × Gl14Rd} (hh : fq.f k p0 = some r) : am P 116 [.obox [tA (qIu8 p0.b), iA p0.p]] [.obox [tA (qIu8 r.2.b), iA r.2.p]] (.agg [iA r.1.Kind, iA r.1.Sym, iA r.1.N, oA 4 (qGExO r.1.Kids)]) := by
 obtain ⟨p0a, p0b⟩ := p0
 unfold fq.f at hh
 refine go (ts := [(2, some 25)]) (rm := [.own]) (pm := [.own]) Tryz.func116 ?_
 intro Fn LW IN len cast toNat wrap add sub mul bin lt eq At set part app fz' rep nadd nmax ssize sext sget scat seq slt Wide Flat Ones Room r' post' hC hF hr hp
 cbv
 replace hh := bind_some hh
 obtain ⟨⟨x2_0, ⟨x2_1a, x2_1b⟩⟩, h1, hh⟩ := hh
 try dsimp only at hh
 have fc := bU hQ h1
 try dsimp only at fc
 refine ac hF fc ?_
 cbv
 replace hh := bind_some hh
 obtain ⟨⟨⟨x5_0a, x5_0b, x5_0c, x5_0d⟩, ⟨x5_1a, x5_1b⟩⟩, h4, hh⟩ := hh
 try dsimp only at hh
 have fc := nH hQ h4
 try dsimp only at fc
 refine ac hF fc ?_
 cbv
 replace hh := bind_some hh
 obtain ⟨x8, h7, hh⟩ := hh
 have fc := eU hQ h7
 try dsimp only at fc
 refine ac hF fc ?_
 cbv
 replace hh := ak hh
 rcases hh with ⟨b10, hh⟩ | ⟨b10, hh⟩
 have f11 : x8 = true := Tb b10
 have g := f11; cbv at g; try rw [f11]
 try rw [g]
 cbv
 exact Eb
 have f11 : x8 = false := Fb b10
 have g := f11; cbv at g; try rw [f11]
 try rw [g]
 cbv
 replace hh := bind_some hh
 obtain ⟨⟨⟨x13_0a, x13_0b, x13_0c, x13_0d⟩, ⟨x13_1a, x13_1b⟩⟩, h12, hh⟩ := hh
 try dsimp only at hh
 have fc := nH hQ h12
 try dsimp only at fc
 refine ac hF fc ?_
 cbv
 exact Eb

theorem v8 : ∀ k : Nat, (∀ {p0 : GEx} {r : GEx}, bC.f k p0 = some r → am P 118 [.agg [iA p0.Kind, iA p0.Sym, iA p0.N, tA (qGEx p0.Kids)]] [hA] (.agg [iA r.Kind, iA r.Sym, iA r.N, oA 4 (qGExO r.Kids)])) := by
  intro k
  induction k using Nat.strongRecOn with
  | _ k ih =>
  · intro p0 r hh
    cases k with
    | zero => unfold bC.f at hh; cases hh
    | succ k =>
    obtain ⟨p0a, p0b, p0c, p0d⟩ := p0
    unfold bC.f at hh
    refine go (ts := [(2, some 25)]) (rm := [.own]) (pm := [.skip]) Tryz.func118 ?_
    intro Fn LW IN len cast toNat wrap add sub mul bin lt eq At set part app fz' rep nadd nmax ssize sext sget scat seq slt Wide Flat Ones Room r' post' hC hF hr hp
    cbv
    replace hh := bind_some hh
    obtain ⟨o1, hl1, hq1⟩ := hh
    refine aA hC eok mixed (fun n (i : (List GEx) × Int) => bC.l0 k (bC.f k) (⟨p0a, p0b, p0c, p0d⟩ : GEx) n i.1 i.2)
     (fun ⟨s10, s11⟩ => (⟨[(1, .mptr (1, 0) 1 0 0), (2, .mptr (2, 0) 1 0 0), (3, .mptr (3, 0) 1 0 0), (4, iA s11)], [((1, 0), .box 1 [iA p0a, iA p0b, iA p0c, tA (qGEx p0d)]), ((2, 0), .box 1 [iA 0, iA 0, iA 0, .lit (.slice none 0 0)]), ((3, 0), .box 1 [iA p0a, iA p0b, iA p0c, .ref (3, 53) 1 0 (len (qGExO s10))]), ((3, 53), .arr 1 4 (qGExO s10))]⟩ : St))
     (fun (x21 : List GEx) => (⟨[(2, .mptr (2, 0) 1 0 0), (3, .mptr (3, 0) 1 0 0)], [((2, 0), .box 1 [iA 0, iA 0, iA 0, .lit (.slice none 0 0)]), ((3, 0), .box 1 [iA p0a, iA p0b, iA p0c, .ref (3, 53) 1 0 (len (qGExO x21))]), ((3, 53), .arr 1 4 (qGExO x21))]⟩ : St)) (fun x => x) (.exit 0)
     (i0 := (_, _)) hl1 (fun _ => rfl) ?_ ?_ ?_
    ·rintro ⟨t0, t1⟩ e
     refine az [((1, 0), (1, 0)), ((2, 0), (2, 0)), ((3, 0), (3, 0))] ?_
     cbv
     all_goals exact J2
    rintro x21 hx
    subst o1
    have hh := hq1
    cbv
    exact Eb
    rintro n ⟨s10, s11⟩ N1 D1 hh hN1 hD1 hQ1
    dsimp only at hh
    unfold bC.l0 at hh
    cbv
    refine bcs (fun f23 => ?_) (fun f23 => ?_)
    replace hh := ifT hh f23
    try rw [f23]
    cbv
    replace hh := aa hh
    obtain ⟨h24, hh⟩ := hh
    replace hh := bind_some hh
    obtain ⟨⟨e25a, e25b, e25c, e25d⟩, h26, hh⟩ := hh
    try dsimp only at hh
    refine ⟨[iA e25a, iA e25b, iA e25c, tA (qGEx e25d)], Nb h24, Gb h26, ?_⟩
    cbv
    replace hh := bind_some hh
    obtain ⟨⟨x28a, x28b, x28c, x28d⟩, h27, hh⟩ := hh
    try dsimp only at hh
    have fc := (ih k (Nat.lt_succ_self k)) h27
    try dsimp only at fc
    refine ac hF fc ?_
    cbv
    replace hh := aa hh
    obtain ⟨h30, hh⟩ := hh
    refine ⟨⟨Ob, Ab⟩, ?_⟩
    refine ⟨⟨Ob, Wb h30⟩, ?_⟩
    ·refine hN1 (_, _) _ hh fun ⟨t0, t1⟩ e => ?_
     refine az [((1, 0), (1, 0)), ((2, 0), (2, 0)), ((3, 0), (3, 0)), ((3, 53), (28, 0))] ?_
     cbv
     all_goals exact J2
    replace hh := ifF hh f23
    try rw [f23]
    cbv
    ·refine hD1 _ _ hh fun t0 e => ?_
     refine aj ?_
     cbv
     all_goals exact J1
theorem qS {k : Nat} {p0 : GEx} {r : GEx} (hh : bC.f k p0 = some r) : am P 118 [.agg [iA p0.Kind, iA p0.Sym, iA p0.N, tA (qGEx p0.Kids)]] [hA] (.agg [iA r.Kind, iA r.Sym, iA r.N, oA 4 (qGExO r.Kids)]) := (v8 hQ k) hh

theorem oa {k : Nat} {p0 : GEx} {r : GEx} (hh : bC.f k p0 = some r) : am P 118 [.agg [iA p0.Kind, iA p0.Sym, iA p0.N, oA 4 (qGExO p0.Kids)]] [.agg [iA p0.Kind, iA p0.Sym, iA p0.N, oA 4 (qGExO p0.Kids)]] (.agg [iA r.Kind, iA r.Sym, iA r.N, oA 4 (qGExO r.Kids)]) := by
  cases hQ; exact (qS .mk hh).lend (by simp [Vm.ownd, d3, -fX, gk]) (.lend (by simp) .nil)

theorem lH {k : Nat} {p0 : Gl14Rd} {r : GEx × Gl14Rd} (hh : bn.f k p0 = some r) : am P 49 [.obox [tA (qIu8 p0.b), iA p0.p]] [.obox [tA (qIu8 r.2.b), iA r.2.p]] (.agg [iA r.1.Kind, iA r.1.Sym, iA r.1.N, oA 4 (qGExO r.1.Kids)]) := by
 obtain ⟨p0a, p0b⟩ := p0
 unfold bn.f at hh
 refine go (ts := [(2, some 25)]) (rm := [.own]) (pm := [.own]) Tryz.func49 ?_
 intro Fn LW IN len cast toNat wrap add sub mul bin lt eq At set part app fz' rep nadd nmax ssize sext sget scat seq slt Wide Flat Ones Room r' post' hC hF hr hp
 cbv
 replace hh := bind_some hh
 obtain ⟨⟨⟨x2_0a, x2_0b, x2_0c, x2_0d⟩, ⟨x2_1a, x2_1b⟩⟩, h1, hh⟩ := hh
 try dsimp only at hh
 have fc := lI hQ h1
 try dsimp only at fc
 refine ac hF fc ?_
 cbv
 replace hh := bind_some hh
 obtain ⟨⟨x5_0, ⟨x5_1a, x5_1b⟩⟩, h4, hh⟩ := hh
 try dsimp only at hh
 have fc := bU hQ h4
 try dsimp only at fc
 refine ac hF fc ?_
 cbv
 refine bcs (fun f8 => ?_) (fun f8 => ?_)
 replace hh := ifT hh f8
 try rw [f8]
 cbv
 replace hh := bind_some hh
 obtain ⟨⟨x10_0, ⟨x10_1a, x10_1b⟩⟩, h9, hh⟩ := hh
 try dsimp only at hh
 refine ⟨Ob, ?_⟩
 have fc := bj hQ h9
 try dsimp only at fc
 refine ac hF fc ?_
 cbv
 exact Eb
 replace hh := ifF hh f8
 try rw [f8]
 cbv
 refine bcs (fun f13 => ?_) (fun f13 => ?_)
 replace hh := ifT hh f13
 try rw [f13]
 cbv
 replace hh := bind_some hh
 obtain ⟨⟨x15_0, ⟨x15_1a, x15_1b⟩⟩, h14, hh⟩ := hh
 try dsimp only at hh
 refine ⟨Ob, ?_⟩
 have fc := bj hQ h14
 try dsimp only at fc
 refine ac hF fc ?_
 cbv
 exact Eb
 replace hh := ifF hh f13
 try rw [f13]
 cbv
 refine bcs (fun f18 => ?_) (fun f18 => ?_)
 replace hh := ifT hh f18
 try rw [f18]
 cbv
 replace hh := bind_some hh
 obtain ⟨⟨x20_0, ⟨x20_1a, x20_1b⟩⟩, h19, hh⟩ := hh
 try dsimp only at hh
 refine ⟨Ob, ?_⟩
 have fc := bj hQ h19
 try dsimp only at fc
 refine ac hF fc ?_
 cbv
 exact Eb
 replace hh := ifF hh f18
 try rw [f18]
 cbv
 refine bcs (fun f23 => ?_) (fun f23 => ?_)
 replace hh := ifT hh f23
 try rw [f23]
 cbv
 replace hh := bind_some hh
 obtain ⟨o1, hl1, hq1⟩ := hh
 refine aA hC eok mixed (fun n (i : Int × Int × Int × (List GEx) × Int) => bn.l0 k n i.1 i.2.1 i.2.2.1 i.2.2.2.1 i.2.2.2.2)
  (fun ⟨s26, s27, s28, s29, s30⟩ => (⟨[(2, .mptr (2, 0) 1 0 0), (3, .mptr (3, 0) 1 0 0), (4, iA s30), (1000000, .mptr (0, 0) 1 0 0)], [((0, 0), .box 1 [tA (qIu8 x5_1a), iA x5_1b]), ((2, 0), .box 1 [iA 0, iA 0, iA 0, .lit (.slice none 0 0)]), ((3, 0), .box 1 [iA s26, iA s27, iA s28, .ref (7, 0) 1 0 (len (qGExO s29))]), ((7, 0), .arr 1 4 (qGExO s29))]⟩ : St))
  (fun (⟨x33, x34, x35, x36⟩ : Int × Int × Int × (List GEx)) => (⟨[(2, .mptr (2, 0) 1 0 0), (3, .mptr (3, 0) 1 0 0), (1000000, .mptr (0, 0) 1 0 0)], [((0, 0), .box 1 [tA (qIu8 x5_1a), iA x5_1b]), ((2, 0), .box 1 [iA 0, iA 0, iA 0, .lit (.slice none 0 0)]), ((3, 0), .box 1 [iA x33, iA x34, iA x35, .ref (7, 0) 1 0 (len (qGExO x36))]), ((7, 0), .arr 1 4 (qGExO x36))]⟩ : St)) (fun x => x) (.exit 1)
  (i0 := (_, _, _, _, _)) hl1 (fun _ => rfl) ?_ ?_ ?_
 ·rintro ⟨t0, t1, t2, t3, t4⟩ e
  refine aj ?_
  cbv
  all_goals exact J5
 rintro ⟨x33, x34, x35, x36⟩ hx
 subst o1
 have hh := hq1
 cbv
 exact Eb
 rintro n ⟨s26, s27, s28, s29, s30⟩ N1 D1 hh hN1 hD1 hQ1
 dsimp only at hh
 unfold bn.l0 at hh
 cbv
 refine bcs (fun f38 => ?_) (fun f38 => ?_)
 replace hh := ifT hh f38
 try rw [f38]
 cbv
 ·refine hN1 (_, _, _, _, _) _ hh fun ⟨t0, t1, t2, t3, t4⟩ e => ?_
  refine az [((0, 0), (0, 0)), ((2, 0), (2, 0)), ((3, 0), (3, 0)), ((7, 0), (35, 0))] ?_
  cbv
  all_goals exact J5
 replace hh := ifF hh f38
 try rw [f38]
 cbv
 ·refine hD1 (_, _, _, _) _ hh fun ⟨t0, t1, t2, t3⟩ e => ?_
  refine aj ?_
  cbv
  all_goals exact J4
 replace hh := ifF hh f23
 try rw [f23]
 cbv
 refine bcs (fun f40 => ?_) (fun f40 => ?_)
 replace hh := ifT hh f40
 try rw [f40]
 cbv
 replace hh := bind_some hh
 obtain ⟨o1, hl1, hq1⟩ := hh
 refine aA hC eok mixed (fun n (i : Int × Int × Int × (List GEx) × Int) => bn.l1 k n i.1 i.2.1 i.2.2.1 i.2.2.2.1 i.2.2.2.2)
  (fun ⟨s46, s47, s48, s49, s50⟩ => (⟨[(2, .mptr (2, 0) 1 0 0), (3, .mptr (3, 0) 1 0 0), (5, iA s50), (1000000, .mptr (0, 0) 1 0 0)], [((0, 0), .box 1 [tA (qIu8 x5_1a), iA x5_1b]), ((2, 0), .box 1 [iA 0, iA 0, iA 0, .lit (.slice none 0 0)]), ((3, 0), .box 1 [iA s46, iA s47, iA s48, .ref (7, 0) 1 0 (len (qGExO s49))]), ((7, 0), .arr 1 4 (qGExO s49))]⟩ : St))
  (fun (⟨x56, x57, x58, x59⟩ : Int × Int × Int × (List GEx)) => (⟨[(2, .mptr (2, 0) 1 0 0), (3, .mptr (3, 0) 1 0 0), (1000000, .mptr (0, 0) 1 0 0)], [((0, 0), .box 1 [tA (qIu8 x5_1a), iA x5_1b]), ((2, 0), .box 1 [iA 0, iA 0, iA 0, .lit (.slice none 0 0)]), ((3, 0), .box 1 [iA x56, iA x57, iA x58, .ref (7, 0) 1 0 (len (qGExO x59))]), ((7, 0), .arr 1 4 (qGExO x59))]⟩ : St)) (fun x => x) (.exit 3)
  (i0 := (_, _, _, _, _)) hl1 (fun _ => rfl) ?_ ?_ ?_
 ·rintro ⟨t0, t1, t2, t3, t4⟩ e
  refine aj ?_
  cbv
  all_goals exact J5
 rintro ⟨x56, x57, x58, x59⟩ hx
 subst o1
 have hh := hq1
 cbv
 exact Eb
 rintro n ⟨s46, s47, s48, s49, s50⟩ N1 D1 hh hN1 hD1 hQ1
 dsimp only at hh
 unfold bn.l1 at hh
 cbv
 refine bcs (fun f61 => ?_) (fun f61 => ?_)
 replace hh := ifT hh f61
 try rw [f61]
 cbv
 replace hh := bind_some hh
 obtain ⟨⟨x63a, x63b, x63c, x63d⟩, h62, hh⟩ := hh
 try dsimp only at hh
 have fc := oa hQ h62
 try dsimp only at fc
 refine ac hF fc ?_
 cbv
 ·refine hN1 (_, _, _, _, _) _ hh fun ⟨t0, t1, t2, t3, t4⟩ e => ?_
  refine az [((0, 0), (0, 0)), ((2, 0), (2, 0)), ((3, 0), (3, 0)), ((7, 0), (46, 0))] ?_
  cbv
  all_goals exact J5
 replace hh := ifF hh f61
 try rw [f61]
 cbv
 ·refine hD1 (_, _, _, _) _ hh fun ⟨t0, t1, t2, t3⟩ e => ?_
  refine aj ?_
  cbv
  all_goals exact J4
 replace hh := ifF hh f40
 try rw [f40]
 cbv
 exact Eb

theorem lY {k : Nat} {p0 : Gl14Rd} {r : (List Int) × Gl14Rd} (hh : cv.f k p0 = some r) : am P 50 [.obox [tA (qIu8 p0.b), iA p0.p]] [.obox [tA (qIu8 r.2.b), iA r.2.p]] (tA (qInt r.1)) := by
 obtain ⟨p0a, p0b⟩ := p0
 unfold cv.f at hh
 refine go (ts := [(2, none)]) (rm := [.val]) (pm := [.own]) Tryz.func50 ?_
 intro Fn LW IN len cast toNat wrap add sub mul bin lt eq At set part app fz' rep nadd nmax ssize sext sget scat seq slt Wide Flat Ones Room r' post' hC hF hr hp
 cbv
 replace hh := bind_some hh
 obtain ⟨o1, hl1, hq1⟩ := hh
 refine aA hC eok mixed (fun n (i : (List Int) × Int × (List Int) × Int) => cv.l0 k n i.1 i.2.1 i.2.2.1 i.2.2.2)
  (fun ⟨s20, s21, s22, s23⟩ => (⟨[(0, .mptr (0, 0) 1 0 0), (3, .ref (7, 0) 1 0 (len (qInt s22))), (4, iA s23), (1000000, .mptr (0, 0) 1 0 0)], [((0, 0), .box 1 [tA (qIu8 s20), iA s21]), ((7, 0), .arr 1 1 (qInt s22))]⟩ : St))
  (fun (⟨x43, x44, x45⟩ : (List Int) × Int × (List Int)) => (⟨[(0, .mptr (0, 0) 1 0 0), (3, .ref (7, 0) 1 0 (len (qInt x45))), (1000000, .mptr (0, 0) 1 0 0)], [((0, 0), .box 1 [tA (qIu8 x43), iA x44]), ((7, 0), .arr 1 1 (qInt x45))]⟩ : St)) (fun x => x) (.exit 0)
  (i0 := (_, _, _, _)) hl1 (fun _ => rfl) ?_ ?_ ?_
 ·rintro ⟨t0, t1, t2, t3⟩ e
  refine aj ?_
  cbv
  all_goals exact J4
 rintro ⟨x43, x44, x45⟩ hx
 subst o1
 have hh := hq1
 cbv
 replace hh := bind_some hh
 obtain ⟨⟨x66_0, ⟨x66_1a, x66_1b⟩⟩, h65, hh⟩ := hh
 try dsimp only at hh
 have fc := bU hQ h65
 try dsimp only at fc
 refine ac hF fc ?_
 cbv
 refine bcs (fun f69 => ?_) (fun f69 => ?_)
 replace hh := ifT hh f69
 try rw [f69]
 cbv
 replace hh := aa hh
 obtain ⟨h70, hh⟩ := hh
 replace hh := aa hh
 obtain ⟨h71, hh⟩ := hh
 refine ⟨Nb h70, Mb h71, ?_⟩
 replace hh := bind_some hh
 obtain ⟨e72, h73, hh⟩ := hh
 refine ⟨[iA e72], Gb h73, ?_⟩
 cbv
 replace hh := bind_some hh
 obtain ⟨⟨x75_0, ⟨x75_1a, x75_1b⟩⟩, h74, hh⟩ := hh
 try dsimp only at hh
 refine ⟨Ob, ?_⟩
 have fc := bj hQ h74
 try dsimp only at fc
 refine ac hF fc ?_
 cbv
 replace hh := aa hh
 obtain ⟨h77, hh⟩ := hh
 replace hh := aa hh
 obtain ⟨h78, hh⟩ := hh
 refine ⟨Nb h77, Mb h78, ?_⟩
 replace hh := bind_some hh
 obtain ⟨e79, h80, hh⟩ := hh
 refine ⟨[iA e79], Gb h80, ?_⟩
 cbv
 exact Eb
 replace hh := ifF hh f69
 try rw [f69]
 cbv
 refine bcs (fun f82 => ?_) (fun f82 => ?_)
 replace hh := ifT hh f82
 try rw [f82]
 cbv
 replace hh := aa hh
 obtain ⟨h83, hh⟩ := hh
 replace hh := aa hh
 obtain ⟨h84, hh⟩ := hh
 replace hh := aa hh
 obtain ⟨h85, hh⟩ := hh
 refine ⟨⟨Nb h83, Nb h84, Nb h85⟩, ?_⟩
 exact Eb
 replace hh := ifF hh f82
 try rw [f82]
 cbv
 exact Eb
 rintro n ⟨s20, s21, s22, s23⟩ N1 D1 hh hN1 hD1 hQ1
 dsimp only at hh
 unfold cv.l0 at hh
 cbv
 refine bcs (fun f47 => ?_) (fun f47 => ?_)
 replace hh := ifT hh f47
 try rw [f47]
 cbv
 replace hh := bind_some hh
 obtain ⟨⟨x49_0, ⟨x49_1a, x49_1b⟩⟩, h48, hh⟩ := hh
 try dsimp only at hh
 have fc := bU hQ h48
 try dsimp only at fc
 refine ac hF fc ?_
 cbv
 replace hh := aa hh
 obtain ⟨h51, hh⟩ := hh
 replace hh := aa hh
 obtain ⟨h52, hh⟩ := hh
 refine ⟨Nb h51, Mb h52, ?_⟩
 replace hh := bind_some hh
 obtain ⟨e53, h54, hh⟩ := hh
 refine ⟨[iA e53], Gb h54, ?_⟩
 cbv
 replace hh := aa hh
 obtain ⟨h55, hh⟩ := hh
 try dsimp only at h55
 replace hh := aa hh
 obtain ⟨h56, hh⟩ := hh
 try dsimp only at h56
 refine ⟨Nb h55, Mb h56, ?_⟩
 replace hh := bind_some hh
 obtain ⟨e57, h58, hh⟩ := hh
 refine ⟨[iA e57], Gb h58, ?_⟩
 cbv
 replace hh := aa hh
 obtain ⟨h59, hh⟩ := hh
 replace hh := aa hh
 obtain ⟨h60, hh⟩ := hh
 refine ⟨Nb h59, Mb h60, ?_⟩
 refine ⟨[iA e53], Gb h54, ?_⟩
 cbv
 replace hh := aa hh
 obtain ⟨h61, hh⟩ := hh
 try dsimp only at h61
 replace hh := aa hh
 obtain ⟨h62, hh⟩ := hh
 try dsimp only at h62
 refine ⟨Nb h61, Mb h62, ?_⟩
 replace hh := bind_some hh
 obtain ⟨e63, h64, hh⟩ := hh
 refine ⟨[iA e63], Gb h64, ?_⟩
 cbv
 ·refine hN1 (_, _, _, _) _ hh fun ⟨t0, t1, t2, t3⟩ e => ?_
  refine aj ?_
  cbv
  all_goals exact J4
 replace hh := ifF hh f47
 try rw [f47]
 cbv
 ·refine hD1 (_, _, _) _ hh fun ⟨t0, t1, t2⟩ e => ?_
  refine aj ?_
  cbv
  all_goals exact J3

theorem nf {k : Nat} {p0 : List Int} {r : GEx × (List Int)} (hh : eB.f k p0 = some r) : am P 13 [tA (qIu8 p0)] [hA] (.tup [.agg [iA r.1.Kind, iA r.1.Sym, iA r.1.N, oA 4 (qGExO r.1.Kids)], tA (qInt r.2)]) := by
 unfold eB.f at hh
 refine go (ts := [(2, some 25), (3, none)]) (rm := [.own, .val]) (pm := [.skip]) Tryz.func13 ?_
 intro Fn LW IN len cast toNat wrap add sub mul bin lt eq At set part app fz' rep nadd nmax ssize sext sget scat seq slt Wide Flat Ones Room r' post' hC hF hr hp
 cbv
 replace hh := bind_some hh
 obtain ⟨⟨x2a, x2b⟩, h1, hh⟩ := hh
 try dsimp only at hh
 refine ac hF (ik hQ h1) ?_
 cbv
 replace hh := bind_some hh
 obtain ⟨⟨⟨x5_0a, x5_0b, x5_0c, x5_0d⟩, ⟨x5_1a, x5_1b⟩⟩, h4, hh⟩ := hh
 try dsimp only at hh
 have fc := lH hQ h4
 try dsimp only at fc
 refine ac hF fc ?_
 cbv
 replace hh := bind_some hh
 obtain ⟨⟨x8_0, ⟨x8_1a, x8_1b⟩⟩, h7, hh⟩ := hh
 try dsimp only at hh
 have fc := lY hQ h7
 try dsimp only at fc
 refine ac hF fc ?_
 cbv
 exact Eb

theorem mZ {k : Nat} {p0 : List Int} {r : List Int} (hh : eA.f k p0 = some r) : am P 14 [tA (qIu8 p0)] [hA] (tA (qInt r)) := by
 unfold eA.f at hh
 refine go (ts := [(2, none)]) (rm := [.val]) (pm := [.skip]) Tryz.func14 ?_
 intro Fn LW IN len cast toNat wrap add sub mul bin lt eq At set part app fz' rep nadd nmax ssize sext sget scat seq slt Wide Flat Ones Room r' post' hC hF hr hp
 cbv
 replace hh := bind_some hh
 obtain ⟨⟨x2a, x2b⟩, h1, hh⟩ := hh
 try dsimp only at hh
 refine ac hF (ik hQ h1) ?_
 cbv
 replace hh := bind_some hh
 obtain ⟨⟨x5_0, ⟨x5_1a, x5_1b⟩⟩, h4, hh⟩ := hh
 try dsimp only at hh
 have fc := lY hQ h4
 try dsimp only at fc
 refine ac hF fc ?_
 cbv
 exact Eb

theorem fE {p0 : Int} {p1 : Int} {p2 : Int} {r : Bool} (hh : d9.f p0 p1 p2 = some r) : am P 81 [iA p0, iA p1, iA p2] [hA, hA, hA] (bA r) := by
 unfold d9.f at hh
 refine go (ts := [(6, none)]) (rm := [.own]) (pm := [.skip, .skip, .skip]) Tryz.func81 ?_
 intro Fn LW IN len cast toNat wrap add sub mul bin lt eq At set part app fz' rep nadd nmax ssize sext sget scat seq slt Wide Flat Ones Room r' post' hC hF hr hp
 cbv
 replace hh := ak hh
 rcases hh with ⟨b1, hh⟩ | ⟨b1, hh⟩
 have f2 : (lt p0 p1) = true := Tb b1
 have g := f2; cbv at g; try rw [f2]
 try rw [g]
 cbv
 exact Eb
 have f2 : (lt p0 p1) = false := Fb b1
 have g := f2; cbv at g; try rw [f2]
 try rw [g]
 cbv
 exact Eb

theorem jF {p0 : Int} {r : Bool} (hh : eh.f p0 = some r) : am P 51 [iA p0] [hA] (bA r) := by
 unfold eh.f at hh
 refine go (ts := [(2, none)]) (rm := [.own]) (pm := [.skip]) Tryz.func51 ?_
 intro Fn LW IN len cast toNat wrap add sub mul bin lt eq At set part app fz' rep nadd nmax ssize sext sget scat seq slt Wide Flat Ones Room r' post' hC hF hr hp
 cbv
 replace hh := bind_some hh
 obtain ⟨x2, h1, hh⟩ := hh
 refine ac hF (fE hQ h1) ?_
 cbv
 exact Eb

theorem qg {k : Nat} {p0 : List Int} {p1 : Int} {r : Int} (hh : cz.f k p0 p1 = some r) : am P 119 [tA (qInt p0), iA p1] [hA, hA] (iA r) := by
 unfold cz.f at hh
 refine go (ts := [(4, none)]) (rm := [.own]) (pm := [.skip, .skip]) Tryz.func119 ?_
 intro Fn LW IN len cast toNat wrap add sub mul bin lt eq At set part app fz' rep nadd nmax ssize sext sget scat seq slt Wide Flat Ones Room r' post' hC hF hr hp
 cbv
 replace hh := bind_some hh
 obtain ⟨o1, hl1, hq1⟩ := hh
 refine aA hC eok mixed (cz.l0 k p0 p1)
  (fun s8 => (⟨[(0, tA (qInt p0)), (1, iA p1), (7, iA (cast (len (qInt p0)))), (8, iA s8)], []⟩ : St))
  (fun (_ : Unit) => (⟨[], []⟩ : St)) .ok (.exit 0)
  (i0 := _) hl1 (fun _ => rfl) ?_ ?_ ?_
 ·rintro t0 e
  refine aj ?_
  cbv
  all_goals exact J1
 rintro _ hx
 subst o1
 have hh := hq1
 cbv
 exact Eb
 rintro n s8 N1 D1 hh hN1 hD1 hQ1
 unfold cz.l0 at hh
 cbv
 refine bcs (fun f17 => ?_) (fun f17 => ?_)
 replace hh := ifT hh f17
 try rw [f17]
 cbv
 replace hh := aa hh
 obtain ⟨h18, hh⟩ := hh
 replace hh := bind_some hh
 obtain ⟨e19, h20, hh⟩ := hh
 refine ⟨[iA e19], Nb h18, Gb h20, ?_⟩
 cbv
 refine bcs (fun f22 => ?_) (fun f22 => ?_)
 replace hh := ifT hh f22
 try rw [f22]
 cbv
 cases hh
 have hh : some _ = some _ := hq1
 refine hQ1 _ _ ?_
 cbv
 exact Eb
 replace hh := ifF hh f22
 try rw [f22]
 cbv
 ·refine hN1 _ _ hh fun t0 e => ?_
  refine aj ?_
  cbv
  all_goals exact J1
 replace hh := ifF hh f17
 try rw [f17]
 cbv
 ·refine hD1 () _ hh fun _ e => ?_
  refine aj ?_
  cbv
  all_goals exact J0

theorem ne {k : Nat} {p0 : List Int} {p1 : Int} {r : Bool} (hh : ed.f k p0 p1 = some r) : am P 52 [tA (qInt p0), iA p1] [hA, hA] (bA r) := by
 unfold ed.f at hh
 refine go (ts := [(4, none)]) (rm := [.own]) (pm := [.skip, .skip]) Tryz.func52 ?_
 intro Fn LW IN len cast toNat wrap add sub mul bin lt eq At set part app fz' rep nadd nmax ssize sext sget scat seq slt Wide Flat Ones Room r' post' hC hF hr hp
 cbv
 replace hh := bind_some hh
 obtain ⟨x2, h1, hh⟩ := hh
 refine ac hF (qg hQ h1) ?_
 cbv
 exact Eb

theorem fh {k : Nat} {p0 : List Int} {r : Bool} (hh : bO.f k p0 = some r) : am P 15 [tA (qInt p0)] [hA] (bA r) := by
 unfold bO.f at hh
 refine go (ts := [(2, none)]) (rm := [.own]) (pm := [.skip]) Tryz.func15 ?_
 intro Fn LW IN len cast toNat wrap add sub mul bin lt eq At set part app fz' rep nadd nmax ssize sext sget scat seq slt Wide Flat Ones Room r' post' hC hF hr hp
 cbv
 replace hh := bind_some hh
 obtain ⟨o1, hl1, hq1⟩ := hh
 refine aA hC eok mixed (bO.l0 k p0)
  (fun s19 => (⟨[(0, tA (qInt p0)), (5, tA (qInt p0)), (6, iA (cast (len (qInt p0)))), (7, iA s19)], []⟩ : St))
  (fun (_ : Unit) => (⟨[(0, tA (qInt p0))], []⟩ : St)) .ok (.exit 0)
  (i0 := _) hl1 (fun _ => rfl) ?_ ?_ ?_
 ·rintro t0 e
  refine aj ?_
  cbv
  all_goals exact J1
 rintro _ hx
 subst o1
 have hh := hq1
 cbv
 exact Eb
 rintro n s19 N1 D1 hh hN1 hD1 hQ1
 unfold bO.l0 at hh
 cbv
 refine bcs (fun f39 => ?_) (fun f39 => ?_)
 replace hh := ifT hh f39
 try rw [f39]
 cbv
 replace hh := aa hh
 obtain ⟨h40, hh⟩ := hh
 replace hh := bind_some hh
 obtain ⟨e41, h42, hh⟩ := hh
 refine ⟨[iA e41], Nb h40, Gb h42, ?_⟩
 cbv
 replace hh := bind_some hh
 obtain ⟨x44, h43, hh⟩ := hh
 refine ac hF (jF hQ h43) ?_
 cbv
 replace hh := ak hh
 rcases hh with ⟨b46, hh⟩ | ⟨b46, hh⟩
 have f47 : x44 = true := Tb b46
 have g := f47; cbv at g; try rw [f47]
 try rw [g]
 cbv
 replace hh := aa hh
 obtain ⟨h48, hh⟩ := hh
 replace hh := aa hh
 obtain ⟨h49, hh⟩ := hh
 replace hh := aa hh
 obtain ⟨h50, hh⟩ := hh
 refine ⟨⟨Nb h48, Nb h49, Nb h50, Ab⟩, ?_⟩
 replace hh := bind_some hh
 obtain ⟨x52, h51, hh⟩ := hh
 refine ac hF (ne hQ h51) ?_
 cbv
 refine bcs (fun f55 => ?_) (fun f55 => ?_)
 replace hh := ifT hh f55
 try rw [f55]
 cbv
 cases hh
 have hh : some _ = some _ := hq1
 refine hQ1 _ _ ?_
 cbv
 exact Eb
 replace hh := ifF hh f55
 try rw [f55]
 cbv
 ·refine hN1 _ _ hh fun t0 e => ?_
  refine aj ?_
  cbv
  all_goals exact J1
 have f47 : x44 = false := Fb b46
 have g := f47; cbv at g; try rw [f47]
 try rw [g]
 cbv
 cases hh
 have hh : some _ = some _ := hq1
 refine hQ1 _ _ ?_
 cbv
 exact Eb
 replace hh := ifF hh f39
 try rw [f39]
 cbv
 ·refine hD1 () _ hh fun _ e => ?_
  refine aj ?_
  cbv
  all_goals exact J0

theorem dG {k : Nat} {p0 : List Int} {r : Bool} (hh : aU.f k p0 = some r) : am P 16 [tA (qInt p0)] [hA] (bA r) := by
 unfold aU.f at hh
 refine go (ts := [(2, none)]) (rm := [.own]) (pm := [.skip]) Tryz.func16 ?_
 intro Fn LW IN len cast toNat wrap add sub mul bin lt eq At set part app fz' rep nadd nmax ssize sext sget scat seq slt Wide Flat Ones Room r' post' hC hF hr hp
 cbv
 replace hh := ak hh
 rcases hh with ⟨b1, hh⟩ | ⟨b1, hh⟩
 have f2 : (eq (cast (len (qInt p0))) 5) = true := Tb b1
 have g := f2; cbv at g; try rw [f2]
 try rw [g]
 cbv
 replace hh := bind_some hh
 obtain ⟨o1, hl1, hq1⟩ := hh
 refine aA hC eok mixed (aU.l2 k p0)
  (fun s46 => (⟨[(0, tA (qInt p0)), (3, iA s46)], []⟩ : St))
  (fun (_ : Unit) => (⟨[], []⟩ : St)) .ok (.exit 0)
  (i0 := _) hl1 (fun _ => rfl) ?_ ?_ ?_
 ·rintro t0 e
  refine aj ?_
  cbv
  all_goals exact J1
 rintro _ hx
 subst o1
 have hh := hq1
 cbv
 exact Eb
 rintro n s46 N1 D1 hh hN1 hD1 hQ1
 unfold aU.l2 at hh
 cbv
 refine bcs (fun f91 => ?_) (fun f91 => ?_)
 replace hh := ifT hh f91
 try rw [f91]
 cbv
 replace hh := aa hh
 obtain ⟨h92, hh⟩ := hh
 replace hh := bind_some hh
 obtain ⟨e93, h94, hh⟩ := hh
 refine ⟨[iA e93], Nb h92, Gb h94, ?_⟩
 cbv
 refine bcs (fun f96 => ?_) (fun f96 => ?_)
 replace hh := ifT hh f96
 try rw [f96]
 cbv
 cases hh
 have hh : some _ = some _ := hq1
 refine hQ1 _ _ ?_
 cbv
 exact Eb
 replace hh := ifF hh f96
 try rw [f96]
 cbv
 replace hh := aa hh
 obtain ⟨h97, hh⟩ := hh
 replace hh := bind_some hh
 obtain ⟨e98, h99, hh⟩ := hh
 refine ⟨[iA e98], Nb h97, Gb h99, ?_⟩
 cbv
 replace hh := ak hh
 rcases hh with ⟨b100, hh⟩ | ⟨b100, hh⟩
 have f101 : (lt e98 5) = true := Tb b100
 have g := f101; cbv at g; try rw [f101]
 try rw [g]
 cbv
 replace hh := bind_some hh
 obtain ⟨o2, hl2, hq2⟩ := hh
 refine aA hC eok mixed (aU.l3 k p0 s46)
  (fun s112 => (⟨[(0, tA (qInt p0)), (3, iA s46), (4, iA s112)], []⟩ : St))
  (fun (_ : Unit) => (⟨[(0, tA (qInt p0)), (3, iA s46)], []⟩ : St)) .ok (.exit 2)
  (i0 := _) hl2 (fun _ => rfl) ?_ ?_ ?_
 ·rintro t0 e
  refine aj ?_
  cbv
  all_goals exact J1
 rintro _ hx
 subst o2
 have hh := hq2
 cbv
 ·refine hN1 _ _ hh fun t0 e => ?_
  refine aj ?_
  cbv
  all_goals exact J1
 rintro n s112 N2 D2 hh hN2 hD2 hQ2
 unfold aU.l3 at hh
 cbv
 refine bcs (fun f124 => ?_) (fun f124 => ?_)
 replace hh := ifT hh f124
 try rw [f124]
 cbv
 replace hh := aa hh
 obtain ⟨h125, hh⟩ := hh
 replace hh := bind_some hh
 obtain ⟨e126, h127, hh⟩ := hh
 refine ⟨[iA e126], Nb h125, Gb h127, ?_⟩
 cbv
 replace hh := aa hh
 obtain ⟨h128, hh⟩ := hh
 replace hh := bind_some hh
 obtain ⟨e129, h130, hh⟩ := hh
 refine ⟨[iA e129], Nb h128, Gb h130, ?_⟩
 cbv
 refine bcs (fun f132 => ?_) (fun f132 => ?_)
 replace hh := ifT hh f132
 try rw [f132]
 cbv
 cases hh
 have hh : some _ = some _ := hq2
 cases hh
 have hh : some _ = some _ := hq1
 refine hQ2 _ _ ?_
 refine hQ1 _ _ ?_
 cbv
 exact Eb
 replace hh := ifF hh f132
 try rw [f132]
 cbv
 ·refine hN2 _ _ hh fun t0 e => ?_
  refine aj ?_
  cbv
  all_goals exact J1
 replace hh := ifF hh f124
 try rw [f124]
 cbv
 ·refine hD2 () _ hh fun _ e => ?_
  refine aj ?_
  cbv
  all_goals exact J0
 have f101 : (lt e98 5) = false := Fb b100
 have g := f101; cbv at g; try rw [f101]
 try rw [g]
 cbv
 cases hh
 have hh : some _ = some _ := hq1
 refine hQ1 _ _ ?_
 cbv
 exact Eb
 replace hh := ifF hh f91
 try rw [f91]
 cbv
 ·refine hD1 () _ hh fun _ e => ?_
  refine aj ?_
  cbv
  all_goals exact J0
 have f2 : (eq (cast (len (qInt p0))) 5) = false := Fb b1
 have g := f2; cbv at g; try rw [f2]
 try rw [g]
 cbv
 exact Eb

theorem vT : ∀ k : Nat, (∀ {p0 : GEx} {r : Int × Int}, bv.f k p0 = some r → am P 121 [.agg [iA p0.Kind, iA p0.Sym, iA p0.N, tA (qGEx p0.Kids)]] [hA] (.tup [iA r.1, iA r.2])) := by
  intro k
  induction k using Nat.strongRecOn with
  | _ k ih =>
  · intro p0 r hh
    cases k with
    | zero => unfold bv.f at hh; cases hh
    | succ k =>
    obtain ⟨p0a, p0b, p0c, p0d⟩ := p0
    unfold bv.f at hh
    refine go (ts := [(2, none), (3, none)]) (rm := [.own, .own]) (pm := [.skip]) Tryz.func121 ?_
    intro Fn LW IN len cast toNat wrap add sub mul bin lt eq At set part app fz' rep nadd nmax ssize sext sget scat seq slt Wide Flat Ones Room r' post' hC hF hr hp
    cbv
    replace hh := bind_some hh
    obtain ⟨o1, hl1, hq1⟩ := hh
    refine aA hC eok mixed (fun n (i : Int × Int × Int) => bv.l0 k (bv.f k) (⟨p0a, p0b, p0c, p0d⟩ : GEx) n i.1 i.2.1 i.2.2)
     (fun ⟨s11, s12, s13⟩ => (⟨[(4, iA s11), (5, iA s12), (11, tA (qGEx p0d)), (12, iA (cast (len (qGEx p0d)))), (13, iA s13)], []⟩ : St))
     (fun (⟨x24, x25⟩ : Int × Int) => (⟨[(4, iA x24), (5, iA x25)], []⟩ : St)) (fun x => x) (.exit 0)
     (i0 := (_, _, _)) hl1 (fun _ => rfl) ?_ ?_ ?_
    ·rintro ⟨t0, t1, t2⟩ e
     refine aj ?_
     cbv
     all_goals exact J3
    rintro ⟨x24, x25⟩ hx
    subst o1
    have hh := hq1
    cbv
    exact Eb
    rintro n ⟨s11, s12, s13⟩ N1 D1 hh hN1 hD1 hQ1
    dsimp only at hh
    unfold bv.l0 at hh
    cbv
    refine bcs (fun f27 => ?_) (fun f27 => ?_)
    replace hh := ifT hh f27
    try rw [f27]
    cbv
    replace hh := aa hh
    obtain ⟨h28, hh⟩ := hh
    replace hh := bind_some hh
    obtain ⟨⟨e29a, e29b, e29c, e29d⟩, h30, hh⟩ := hh
    try dsimp only at hh
    refine ⟨[iA e29a, iA e29b, iA e29c, tA (qGEx e29d)], Nb h28, Gb h30, ?_⟩
    cbv
    replace hh := bind_some hh
    obtain ⟨⟨x32_0, x32_1⟩, h31, hh⟩ := hh
    try dsimp only at hh
    refine ac hF ((ih k (Nat.lt_succ_self k)) h31) ?_
    cbv
    replace hh := ak hh
    rcases hh with ⟨b34, hh⟩ | ⟨b34, hh⟩
    have f35 : (lt s12 (wrap .i64 (add x32_1 1))) = true := Tb b34
    have g := f35; cbv at g; try rw [f35]
    try rw [g]
    cbv
    ·refine hN1 (_, _, _) _ hh fun ⟨t0, t1, t2⟩ e => ?_
     refine aj ?_
     cbv
     all_goals exact J3
    have f35 : (lt s12 (wrap .i64 (add x32_1 1))) = false := Fb b34
    have g := f35; cbv at g; try rw [f35]
    try rw [g]
    cbv
    ·refine hN1 (_, _, _) _ hh fun ⟨t0, t1, t2⟩ e => ?_
     refine aj ?_
     cbv
     all_goals exact J3
    replace hh := ifF hh f27
    try rw [f27]
    cbv
    ·refine hD1 (_, _) _ hh fun ⟨t0, t1⟩ e => ?_
     refine aj ?_
     cbv
     all_goals exact J2
theorem pH {k : Nat} {p0 : GEx} {r : Int × Int} (hh : bv.f k p0 = some r) : am P 121 [.agg [iA p0.Kind, iA p0.Sym, iA p0.N, tA (qGEx p0.Kids)]] [hA] (.tup [iA r.1, iA r.2]) := (vT hQ k) hh


theorem qO {p0 : Int} {r : Bool} (hh : ix.f p0 = some r) : am P 176 [iA p0] [hA] (bA r) := by
 unfold ix.f at hh
 refine go (ts := [(2, none)]) (rm := [.own]) (pm := [.skip]) Tryz.func176 ?_
 intro Fn LW IN len cast toNat wrap add sub mul bin lt eq At set part app fz' rep nadd nmax ssize sext sget scat seq slt Wide Flat Ones Room r' post' hC hF hr hp
 cbv
 replace hh := bind_some hh
 obtain ⟨x2, h1, hh⟩ := hh
 refine ac hF (fE hQ h1) ?_
 cbv
 exact Eb

theorem sO {p0 : Int} {r : Int} (hh : jW.f p0 = some r) : am P 177 [iA p0] [hA] (iA r) := by
 unfold jW.f at hh
 refine go (ts := [(2, none)]) (rm := [.own]) (pm := [.skip]) Tryz.func177 ?_
 intro Fn LW IN len cast toNat wrap add sub mul bin lt eq At set part app fz' rep nadd nmax ssize sext sget scat seq slt Wide Flat Ones Room r' post' hC hF hr hp
 cbv
 replace hh := aa hh
 obtain ⟨h1, hh⟩ := hh
 replace hh := aa hh
 obtain ⟨h2, hh⟩ := hh
 refine ⟨Nb h1, Mb h2, ?_⟩
 replace hh := bind_some hh
 obtain ⟨e3, h4, hh⟩ := hh
 refine ⟨[iA e3], Gb h4, ?_⟩
 cbv
 exact Eb

theorem fw {k : Nat} {g1 : GEx → Option Bool} (hg1 : ∀ {y0 : GEx} {r : Bool}, g1 y0 = some r → am P 179 [.agg [iA y0.Kind, iA y0.Sym, iA y0.N, tA (qGEx y0.Kids)]] [hA] (bA r)) {p0 : List GEx} {r : Int} (hh : bq.f g1 k p0 = some r) : am P 213 [tA (qGEx p0), .clo 179 []] [hA, hA] (iA r) := by
 unfold bq.f at hh
 refine go (ts := [(4, none)]) (rm := [.own]) (pm := [.skip, .skip]) Tryz.func213 ?_
 intro Fn LW IN len cast toNat wrap add sub mul bin lt eq At set part app fz' rep nadd nmax ssize sext sget scat seq slt Wide Flat Ones Room r' post' hC hF hr hp
 cbv
 replace hh := bind_some hh
 obtain ⟨o1, hl1, hq1⟩ := hh
 refine aA hC eok mixed (bq.l0 k g1 p0)
  (fun s11 => (⟨[(0, tA (qGEx p0)), (1, .clo 179 []), (7, iA (cast (len (qGEx p0)))), (8, iA s11)], []⟩ : St))
  (fun (_ : Unit) => (⟨[], []⟩ : St)) .ok (.exit 0)
  (i0 := _) hl1 (fun _ => rfl) ?_ ?_ ?_
 ·rintro t0 e
  refine aj ?_
  cbv
  all_goals exact J1
 rintro _ hx
 subst o1
 have hh := hq1
 cbv
 exact Eb
 rintro n s11 N1 D1 hh hN1 hD1 hQ1
 unfold bq.l0 at hh
 cbv
 refine bcs (fun f23 => ?_) (fun f23 => ?_)
 replace hh := ifT hh f23
 try rw [f23]
 cbv
 replace hh := aa hh
 obtain ⟨h24, hh⟩ := hh
 replace hh := bind_some hh
 obtain ⟨⟨e25a, e25b, e25c, e25d⟩, h26, hh⟩ := hh
 try dsimp only at hh
 refine ⟨[iA e25a, iA e25b, iA e25c, tA (qGEx e25d)], Nb h24, Gb h26, ?_⟩
 cbv
 replace hh := bind_some hh
 obtain ⟨x28, h27, hh⟩ := hh
 refine ac hF (hg1 h27) ?_
 cbv
 refine bcs (fun f31 => ?_) (fun f31 => ?_)
 replace hh := ifT hh f31
 try rw [f31]
 cbv
 cases hh
 have hh : some _ = some _ := hq1
 refine hQ1 _ _ ?_
 cbv
 exact Eb
 replace hh := ifF hh f31
 try rw [f31]
 cbv
 ·refine hN1 _ _ hh fun t0 e => ?_
  refine aj ?_
  cbv
  all_goals exact J1
 replace hh := ifF hh f23
 try rw [f23]
 cbv
 ·refine hD1 () _ hh fun _ e => ?_
  refine aj ?_
  cbv
  all_goals exact J0

theorem bL {k : Nat} {g1 : GEx → Option Bool} (hg1 : ∀ {y0 : GEx} {r : Bool}, g1 y0 = some r → am P 179 [.agg [iA y0.Kind, iA y0.Sym, iA y0.N, tA (qGEx y0.Kids)]] [hA] (bA r)) {p0 : List GEx} {r : Bool} (hh : bB.f g1 k p0 = some r) : am P 178 [tA (qGEx p0), .clo 179 []] [hA, hA] (bA r) := by
 unfold bB.f at hh
 refine go (ts := [(4, none)]) (rm := [.own]) (pm := [.skip, .skip]) Tryz.func178 ?_
 intro Fn LW IN len cast toNat wrap add sub mul bin lt eq At set part app fz' rep nadd nmax ssize sext sget scat seq slt Wide Flat Ones Room r' post' hC hF hr hp
 cbv
 replace hh := bind_some hh
 obtain ⟨x2, h1, hh⟩ := hh
 refine ac hF (fw hQ (g1 := g1) hg1 h1) ?_
 cbv
 exact Eb

theorem wu : ∀ k : Nat, (∀ {p0 : GEx} {r : Bool}, bz.f k p0 = some r → am P 179 [.agg [iA p0.Kind, iA p0.Sym, iA p0.N, tA (qGEx p0.Kids)]] [hA] (bA r)) ∧ (∀ {p0 : GEx} {r : Bool}, cX.f k p0 = some r → am P 122 [.agg [iA p0.Kind, iA p0.Sym, iA p0.N, tA (qGEx p0.Kids)]] [hA] (bA r)) := by
  intro k
  induction k using Nat.strongRecOn with
  | _ k ih =>
  refine ⟨?_, ?_⟩
  · intro p0 r hh
    cases k with
    | zero => unfold bz.f at hh; cases hh
    | succ k =>
    obtain ⟨p0a, p0b, p0c, p0d⟩ := p0
    unfold bz.f at hh
    refine go (ts := [(2, none)]) (rm := [.own]) (pm := [.skip]) Tryz.func179 ?_
    intro Fn LW IN len cast toNat wrap add sub mul bin lt eq At set part app fz' rep nadd nmax ssize sext sget scat seq slt Wide Flat Ones Room r' post' hC hF hr hp
    cbv
    replace hh := bind_some hh
    obtain ⟨x2, h1, hh⟩ := hh
    refine ac hF ((ih k (Nat.lt_succ_self k)).2 h1) ?_
    cbv
    exact Eb
  · intro p0 r hh
    cases k with
    | zero => unfold cX.f at hh; cases hh
    | succ k =>
    obtain ⟨p0a, p0b, p0c, p0d⟩ := p0
    unfold cX.f at hh
    refine go (ts := [(2, none)]) (rm := [.own]) (pm := [.skip]) Tryz.func122 ?_
    intro Fn LW IN len cast toNat wrap add sub mul bin lt eq At set part app fz' rep nadd nmax ssize sext sget scat seq slt Wide Flat Ones Room r' post' hC hF hr hp
    cbv
    replace hh := bind_some hh
    obtain ⟨x2, h1, hh⟩ := hh
    refine ac hF (qO hQ h1) ?_
    cbv
    replace hh := ak hh
    rcases hh with ⟨b4, hh⟩ | ⟨b4, hh⟩
    have f5 : x2 = true := Tb b4
    have g := f5; cbv at g; try rw [f5]
    try rw [g]
    cbv
    replace hh := bind_some hh
    obtain ⟨x7, h6, hh⟩ := hh
    refine ac hF (sO hQ h6) ?_
    cbv
    replace hh := ak hh
    rcases hh with ⟨b9, hh⟩ | ⟨b9, hh⟩
    have f10 : (eq (cast (len (qGEx p0d))) x7) = true := Tb b9
    have g := f10; cbv at g; try rw [f10]
    try rw [g]
    cbv
    refine bcs (fun f12 => ?_) (fun f12 => ?_)
    replace hh := ifT hh f12
    try rw [f12]
    cbv
    replace hh := bind_some hh
    obtain ⟨x14, h13, hh⟩ := hh
    refine ac hF (jF hQ h13) ?_
    cbv
    replace hh := ak hh
    rcases hh with ⟨b16, hh⟩ | ⟨b16, hh⟩
    have f17 : x14 = true := Tb b16
    have g := f17; cbv at g; try rw [f17]
    try rw [g]
    cbv
    first | rw [f12] | (have g := f12; cbv at g; rw [g])
    cbv
    refine bcs (fun f19 => ?_) (fun f19 => ?_)
    replace hh := ifT hh f19
    try rw [f19]
    cbv
    replace hh := bind_some hh
    obtain ⟨x21, h20, hh⟩ := hh
    refine ac hF (fE hQ h20) ?_
    cbv
    replace hh := ak hh
    rcases hh with ⟨b23, hh⟩ | ⟨b23, hh⟩
    have f24 : x21 = true := Tb b23
    have g := f24; cbv at g; try rw [f24]
    try rw [g]
    cbv
    first | rw [f19] | (have g := f19; cbv at g; rw [g])
    cbv
    replace hh := bind_some hh
    obtain ⟨x26, h25, hh⟩ := hh
    refine ac hF (bL hQ (g1 := fun y0 => bz.f k y0) (fun h => (ih k (Nat.lt_succ_self k)).1 h) h25) ?_
    cbv
    exact Eb
    have f24 : x21 = false := Fb b23
    have g := f24; cbv at g; try rw [f24]
    try rw [g]
    cbv
    exact Eb
    replace hh := ifF hh f19
    try rw [f19]
    cbv
    first | rw [f19] | (have g := f19; cbv at g; rw [g])
    cbv
    replace hh := ak hh
    rcases hh with ⟨b28, hh⟩ | ⟨b28, hh⟩
    have f29 : (eq p0c 0) = true := Tb b28
    have g := f29; cbv at g; try rw [f29]
    try rw [g]
    cbv
    replace hh := bind_some hh
    obtain ⟨x31, h30, hh⟩ := hh
    refine ac hF (bL hQ (g1 := fun y0 => bz.f k y0) (fun h => (ih k (Nat.lt_succ_self k)).1 h) h30) ?_
    cbv
    exact Eb
    have f29 : (eq p0c 0) = false := Fb b28
    have g := f29; cbv at g; try rw [f29]
    try rw [g]
    cbv
    exact Eb
    have f17 : x14 = false := Fb b16
    have g := f17; cbv at g; try rw [f17]
    try rw [g]
    cbv
    exact Eb
    replace hh := ifF hh f12
    try rw [f12]
    cbv
    first | rw [f12] | (have g := f12; cbv at g; rw [g])
    cbv
    replace hh := ak hh
    rcases hh with ⟨b33, hh⟩ | ⟨b33, hh⟩
    have f34 : (eq p0b 0) = true := Tb b33
    have g := f34; cbv at g; try rw [f34]
    try rw [g]
    cbv
    refine bcs (fun f36 => ?_) (fun f36 => ?_)
    replace hh := ifT hh f36
    try rw [f36]
    cbv
    replace hh := bind_some hh
    obtain ⟨x38, h37, hh⟩ := hh
    refine ac hF (fE hQ h37) ?_
    cbv
    replace hh := ak hh
    rcases hh with ⟨b40, hh⟩ | ⟨b40, hh⟩
    have f41 : x38 = true := Tb b40
    have g := f41; cbv at g; try rw [f41]
    try rw [g]
    cbv
    first | rw [f36] | (have g := f36; cbv at g; rw [g])
    cbv
    replace hh := bind_some hh
    obtain ⟨x43, h42, hh⟩ := hh
    refine ac hF (bL hQ (g1 := fun y0 => bz.f k y0) (fun h => (ih k (Nat.lt_succ_self k)).1 h) h42) ?_
    cbv
    exact Eb
    have f41 : x38 = false := Fb b40
    have g := f41; cbv at g; try rw [f41]
    try rw [g]
    cbv
    exact Eb
    replace hh := ifF hh f36
    try rw [f36]
    cbv
    first | rw [f36] | (have g := f36; cbv at g; rw [g])
    cbv
    replace hh := ak hh
    rcases hh with ⟨b45, hh⟩ | ⟨b45, hh⟩
    have f46 : (eq p0c 0) = true := Tb b45
    have g := f46; cbv at g; try rw [f46]
    try rw [g]
    cbv
    replace hh := bind_some hh
    obtain ⟨x48, h47, hh⟩ := hh
    refine ac hF (bL hQ (g1 := fun y0 => bz.f k y0) (fun h => (ih k (Nat.lt_succ_self k)).1 h) h47) ?_
    cbv
    exact Eb
    have f46 : (eq p0c 0) = false := Fb b45
    have g := f46; cbv at g; try rw [f46]
    try rw [g]
    cbv
    exact Eb
    have f34 : (eq p0b 0) = false := Fb b33
    have g := f34; cbv at g; try rw [f34]
    try rw [g]
    cbv
    exact Eb
    have f10 : (eq (cast (len (qGEx p0d))) x7) = false := Fb b9
    have g := f10; cbv at g; try rw [f10]
    try rw [g]
    cbv
    exact Eb
    have f5 : x2 = false := Fb b4
    have g := f5; cbv at g; try rw [f5]
    try rw [g]
    cbv
    exact Eb
theorem nW {k : Nat} {p0 : GEx} {r : Bool} (hh : cX.f k p0 = some r) : am P 122 [.agg [iA p0.Kind, iA p0.Sym, iA p0.N, tA (qGEx p0.Kids)]] [hA] (bA r) := (wu hQ k).2 hh



theorem ku {k : Nat} {p0 : GEx} {r : Bool} (hh : fO.f k p0 = some r) : am P 55 [.agg [iA p0.Kind, iA p0.Sym, iA p0.N, tA (qGEx p0.Kids)]] [hA] (bA r) := by
 obtain ⟨p0a, p0b, p0c, p0d⟩ := p0
 unfold fO.f at hh
 refine go (ts := [(2, none)]) (rm := [.own]) (pm := [.skip]) Tryz.func55 ?_
 intro Fn LW IN len cast toNat wrap add sub mul bin lt eq At set part app fz' rep nadd nmax ssize sext sget scat seq slt Wide Flat Ones Room r' post' hC hF hr hp
 cbv
 replace hh := bind_some hh
 obtain ⟨⟨x2_0, x2_1⟩, h1, hh⟩ := hh
 try dsimp only at hh
 refine ac hF (pH hQ h1) ?_
 cbv
 replace hh := ak hh
 rcases hh with ⟨b4, hh⟩ | ⟨b4, hh⟩
 have f5 : (lt 12 x2_0) = true := Tb b4
 have g := f5; cbv at g; try rw [f5]
 try rw [g]
 cbv
 exact Eb
 have f5 : (lt 12 x2_0) = false := Fb b4
 have g := f5; cbv at g; try rw [f5]
 try rw [g]
 cbv
 replace hh := ak hh
 rcases hh with ⟨b6, hh⟩ | ⟨b6, hh⟩
 have f7 : (lt 5 x2_1) = true := Tb b6
 have g := f7; cbv at g; try rw [f7]
 try rw [g]
 cbv
 exact Eb
 have f7 : (lt 5 x2_1) = false := Fb b6
 have g := f7; cbv at g; try rw [f7]
 try rw [g]
 cbv
 replace hh := bind_some hh
 obtain ⟨x9, h8, hh⟩ := hh
 refine ac hF (nW hQ h8) ?_
 cbv
 exact Eb

theorem wS : ∀ k : Nat, (∀ {p0 : GEx} {p1 : List Int} {r : GEx}, bw.f k p0 p1 = some r → am P 56 [.agg [iA p0.Kind, iA p0.Sym, iA p0.N, tA (qGEx p0.Kids)], tA (qInt p1)] [hA, hA] (.agg [iA r.Kind, iA r.Sym, iA r.N, oA 4 (qGExO r.Kids)])) := by
  intro k
  induction k using Nat.strongRecOn with
  | _ k ih =>
  · intro p0 p1 r hh
    cases k with
    | zero => unfold bw.f at hh; cases hh
    | succ k =>
    obtain ⟨p0a, p0b, p0c, p0d⟩ := p0
    unfold bw.f at hh
    refine go (ts := [(4, some 25)]) (rm := [.own]) (pm := [.skip, .skip]) Tryz.func56 ?_
    intro Fn LW IN len cast toNat wrap add sub mul bin lt eq At set part app fz' rep nadd nmax ssize sext sget scat seq slt Wide Flat Ones Room r' post' hC hF hr hp
    cbv
    refine bcs (fun f2 => ?_) (fun f2 => ?_)
    replace hh := ifT hh f2
    try rw [f2]
    cbv
    replace hh := aa hh
    obtain ⟨h3, hh⟩ := hh
    try dsimp only at h3
    replace hh := bind_some hh
    obtain ⟨e4, h5, hh⟩ := hh
    refine ⟨[iA e4], Nb h3, Gb h5, ?_⟩
    cbv
    refine ⟨4, ?_⟩
    cbv
    exact Eb
    replace hh := ifF hh f2
    try rw [f2]
    cbv
    replace hh := bind_some hh
    obtain ⟨o1, hl1, hq1⟩ := hh
    refine aA hC eok mixed (fun n (i : (List GEx) × Int) => bw.l0 k (bw.f k) (⟨p0a, p0b, p0c, p0d⟩ : GEx) p1 n i.1 i.2)
     (fun ⟨s15, s16⟩ => (⟨[(1, tA (qInt p1)), (2, .mptr (2, 0) 1 0 0), (4, .mptr (4, 0) 1 0 0), (5, .ref (5, 50) 1 0 (len (qGExO s15))), (18, tA (qGEx p0d)), (19, iA (cast (len (qGEx p0d)))), (20, iA s16)], [((2, 0), .box 1 [iA p0a, iA p0b, iA p0c, tA (qGEx p0d)]), ((4, 0), .box 1 [iA 0, iA 0, iA 0, .lit (.slice none 0 0)]), ((5, 50), .arr 1 4 (qGExO s15))]⟩ : St))
     (fun (x26 : List GEx) => (⟨[(2, .mptr (2, 0) 1 0 0), (4, .mptr (4, 0) 1 0 0), (5, .ref (5, 50) 1 0 (len (qGExO x26)))], [((2, 0), .box 1 [iA p0a, iA p0b, iA p0c, tA (qGEx p0d)]), ((4, 0), .box 1 [iA 0, iA 0, iA 0, .lit (.slice none 0 0)]), ((5, 50), .arr 1 4 (qGExO x26))]⟩ : St)) (fun x => x) (.exit 0)
     (i0 := (_, _)) hl1 (fun _ => rfl) ?_ ?_ ?_
    ·rintro ⟨t0, t1⟩ e
     refine az [((2, 0), (2, 0)), ((4, 0), (4, 0))] ?_
     cbv
     all_goals exact J2
    rintro x26 hx
    subst o1
    have hh := hq1
    cbv
    exact Eb
    rintro n ⟨s15, s16⟩ N1 D1 hh hN1 hD1 hQ1
    dsimp only at hh
    unfold bw.l0 at hh
    cbv
    refine bcs (fun f28 => ?_) (fun f28 => ?_)
    replace hh := ifT hh f28
    try rw [f28]
    cbv
    replace hh := aa hh
    obtain ⟨h29, hh⟩ := hh
    replace hh := bind_some hh
    obtain ⟨⟨e30a, e30b, e30c, e30d⟩, h31, hh⟩ := hh
    try dsimp only at hh
    refine ⟨[iA e30a, iA e30b, iA e30c, tA (qGEx e30d)], Nb h29, Gb h31, ?_⟩
    cbv
    replace hh := bind_some hh
    obtain ⟨⟨x33a, x33b, x33c, x33d⟩, h32, hh⟩ := hh
    try dsimp only at hh
    have fc := (ih k (Nat.lt_succ_self k)) h32
    try dsimp only at fc
    refine ac hF fc ?_
    cbv
    replace hh := aa hh
    obtain ⟨h35, hh⟩ := hh
    refine ⟨⟨Ob, Ab⟩, ?_⟩
    refine ⟨⟨Ob, Wb h35⟩, ?_⟩
    ·refine hN1 (_, _) _ hh fun ⟨t0, t1⟩ e => ?_
     refine az [((2, 0), (2, 0)), ((4, 0), (4, 0)), ((5, 50), (29, 0))] ?_
     cbv
     all_goals exact J2
    replace hh := ifF hh f28
    try rw [f28]
    cbv
    ·refine hD1 _ _ hh fun t0 e => ?_
     refine aj ?_
     cbv
     all_goals exact J1
theorem pI {k : Nat} {p0 : GEx} {p1 : List Int} {r : GEx} (hh : bw.f k p0 p1 = some r) : am P 56 [.agg [iA p0.Kind, iA p0.Sym, iA p0.N, tA (qGEx p0.Kids)], tA (qInt p1)] [hA, hA] (.agg [iA r.Kind, iA r.Sym, iA r.N, oA 4 (qGExO r.Kids)]) := (wS hQ k) hh


theorem lF {k : Nat} {p0 : GEx} {p1 : List Int} {r : GEx} (hh : cr.f k p0 p1 = some r) : am P 18 [.agg [iA p0.Kind, iA p0.Sym, iA p0.N, tA (qGEx p0.Kids)], tA (qInt p1)] [hA, hA] (.agg [iA r.Kind, iA r.Sym, iA r.N, oA 4 (qGExO r.Kids)]) := by
 obtain ⟨p0a, p0b, p0c, p0d⟩ := p0
 unfold cr.f at hh
 refine go (ts := [(4, some 25)]) (rm := [.own]) (pm := [.skip, .skip]) Tryz.func18 ?_
 intro Fn LW IN len cast toNat wrap add sub mul bin lt eq At set part app fz' rep nadd nmax ssize sext sget scat seq slt Wide Flat Ones Room r' post' hC hF hr hp
 cbv
 replace hh := bind_some hh
 obtain ⟨x2, h1, hh⟩ := hh
 refine ac hF (ku hQ h1) ?_
 cbv
 replace hh := ak hh
 rcases hh with ⟨b4, hh⟩ | ⟨b4, hh⟩
 have f5 : x2 = true := Tb b4
 have g := f5; cbv at g; try rw [f5]
 try rw [g]
 cbv
 replace hh := bind_some hh
 obtain ⟨x7, h6, hh⟩ := hh
 refine ac hF (fh hQ h6) ?_
 cbv
 replace hh := ak hh
 rcases hh with ⟨b9, hh⟩ | ⟨b9, hh⟩
 have f10 : x7 = true := Tb b9
 have g := f10; cbv at g; try rw [f10]
 try rw [g]
 cbv
 replace hh := bind_some hh
 obtain ⟨⟨x12a, x12b, x12c, x12d⟩, h11, hh⟩ := hh
 try dsimp only at hh
 have fc := pI hQ h11
 try dsimp only at fc
 refine ac hF fc ?_
 cbv
 exact Eb
 have f10 : x7 = false := Fb b9
 have g := f10; cbv at g; try rw [f10]
 try rw [g]
 cbv
 refine ⟨4, ?_⟩
 cbv
 exact Eb
 have f5 : x2 = false := Fb b4
 have g := f5; cbv at g; try rw [f5]
 try rw [g]
 cbv
 refine ⟨4, ?_⟩
 cbv
 exact Eb
theorem ei {k : Nat} {p0 : GEx} {p1 : List Int} {r : GEx} (hh : cr.f k p0 p1 = some r) : am P 18 [.agg [iA p0.Kind, iA p0.Sym, iA p0.N, oA 4 (qGExO p0.Kids)], oA 1 (qInt p1)] [.agg [iA p0.Kind, iA p0.Sym, iA p0.N, oA 4 (qGExO p0.Kids)], oA 1 (qInt p1)] (.agg [iA r.Kind, iA r.Sym, iA r.N, oA 4 (qGExO r.Kids)]) := by
  cases hQ; exact (lF .mk hh).lend (by simp [Vm.ownd, d3, -fX, gk]) (.lend (by simp) (.lend (congrArg A.tree (gC _).symm) .nil))
theorem eZ {k : Nat} {p0 : GEx} {p1 : List Int} {r : GEx} (hh : cr.f k p0 p1 = some r) : am P 18 [.agg [iA p0.Kind, iA p0.Sym, iA p0.N, oA 4 (qGExO p0.Kids)], tA (qInt p1)] [.agg [iA p0.Kind, iA p0.Sym, iA p0.N, oA 4 (qGExO p0.Kids)], hA] (.agg [iA r.Kind, iA r.Sym, iA r.N, oA 4 (qGExO r.Kids)]) := by
  cases hQ; exact (lF .mk hh).lend (by simp [Vm.ownd, d3, -fX, gk]) (.lend (by simp) (.same rfl .nil))

theorem ra {p0 : Gl14Rd} {r : Int × Gl14Rd} (hh : gf.f p0 = some r) : am P 123 [.obox [tA (qIu8 p0.b), iA p0.p]] [.obox [tA (qIu8 r.2.b), iA r.2.p]] (iA r.1) := by
 obtain ⟨p0a, p0b⟩ := p0
 unfold gf.f at hh
 refine go (ts := [(2, none)]) (rm := [.own]) (pm := [.own]) Tryz.func123 ?_
 intro Fn LW IN len cast toNat wrap add sub mul bin lt eq At set part app fz' rep nadd nmax ssize sext sget scat seq slt Wide Flat Ones Room r' post' hC hF hr hp
 cbv
 replace hh := bind_some hh
 obtain ⟨⟨x2_0, ⟨x2_1a, x2_1b⟩⟩, h1, hh⟩ := hh
 try dsimp only at hh
 refine ⟨Ob, ?_⟩
 have fc := bj hQ h1
 try dsimp only at fc
 refine ac hF fc ?_
 cbv
 exact Eb

end Go.Proofs.YtlbnmldopjadoaaGreat
