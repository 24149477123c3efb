/- The functions of this program do what the plain ones do. -/
import Derived.Test.YtlbnmldopjadoaaGreatC4
namespace Go.Proofs.YtlbnmldopjadoaaGreat
open Go Go.Vm
set_option linter.unusedVariables false
set_option maxHeartbeats 4000000
set_option maxRecDepth 4000
variable {qIu8 : List Int → Vm.Rows} {qGCall : List av → Vm.Rows} {qInt : List Int → Vm.Rows} {qGEx : List GEx → Vm.Rows} {qGRule : List GRule → Vm.Rows} {qGExO : List GEx → Vm.Rows} {qGOcc : List GOcc → Vm.Rows} {qGNode : List GNode → Vm.Rows} {qGGraphS : List GGraph → Vm.Rows} {qGGraph : List GGraph → Vm.Rows} {qGEv : List GEv → Vm.Rows} {qGFire : List aH → Vm.Rows} {qLGOcc : List (List GOcc) → Vm.Rows} {qGOccO : List GOcc → Vm.Rows} {qLInt : List (List Int) → Vm.Rows} (hQ : EQ qIu8 qGCall qInt qGEx qGRule qGExO qGOcc qGNode qGGraphS qGGraph qGEv qGFire qLGOcc qGOccO qLInt)
include hQ
theorem mt {k : Nat} {p0 : List Int} {r : Bool} (hh : aK.f k p0 = some r) : ag P 4 [tA (qIu8 p0)] [hA] (bA r) := by
 unfold aK.f at hh
 refine go (ts := [(2, none)]) (rm := [.own]) (pm := [.skip]) Tryz.func4 ?_
 intro Fn LW IN len cast toNat wrap add sub mul bin lt eq At set part app fz' rep nadd nmax ssize sext sget scat seq slt Wide Flat Ones Room r' post' hC hF hr hp
 cbv
 refine bcs (fun f2 => ?_) (fun f2 => ?_)
 replace hh := ifT hh f2
 try rw [f2]
 cbv
 exact Eb
 replace hh := ifF hh f2
 try rw [f2]
 cbv
 replace hh := bind_some hh
 obtain ⟨x4, h3, hh⟩ := hh
 refine ae hF (kW hQ h3) ?_
 cbv
 replace hh := bind_some hh
 obtain ⟨x7, h6, hh⟩ := hh
 refine ae hF (fo hQ h6) ?_
 cbv
 replace hh := bind_some hh
 obtain ⟨x10, h9, hh⟩ := hh
 refine ae hF (fj hQ h9) ?_
 cbv
 replace hh := az hh
 rcases hh with ⟨b12, hh⟩ | ⟨b12, hh⟩
 have f13 : x7 = true := Tb b12
 have g := f13; cbv at g; try rw [f13]
 try rw [g]
 cbv
 replace hh := az hh
 rcases hh with ⟨b14, hh⟩ | ⟨b14, hh⟩
 have f15 : x10 = true := Tb b14
 have g := f15; cbv at g; try rw [f15]
 try rw [g]
 cbv
 replace hh := bind_some hh
 obtain ⟨x17, h16, hh⟩ := hh
 refine ae hF (fj hQ h16) ?_
 cbv
 replace hh := az hh
 rcases hh with ⟨b19, hh⟩ | ⟨b19, hh⟩
 have f20 : x17 = true := Tb b19
 have g := f20; cbv at g; try rw [f20]
 try rw [g]
 cbv
 replace hh := aa hh
 obtain ⟨h21, hh⟩ := hh
 refine ⟨⟨Ob, Ab, Ab⟩, ?_⟩
 refine ⟨⟨Ob, Wb h21⟩, ?_⟩
 replace hh := aa hh
 obtain ⟨h22, hh⟩ := hh
 refine ⟨⟨Ob, Ab⟩, ?_⟩
 refine ⟨⟨Ob, Wb h22⟩, ?_⟩
 replace hh := bind_some hh
 obtain ⟨⟨⟨x24_0a, x24_0b, x24_0c, x24_0d, x24_0e⟩, x24_1⟩, h23, hh⟩ := hh
 try dsimp only at hh
 refine ⟨Ob, ?_⟩
 have fc := eS hQ h23
 try dsimp only at fc
 refine ae hF fc ?_
 cbv
 replace hh := bind_some hh
 obtain ⟨o1, hl1, hq1⟩ := hh
 refine ap hC eok mixed (fun n (i : Int × Int) => aK.l0 k (⟨⟨x24_0a, x24_0b, x24_0c, x24_0d, x24_0e⟩, x24_1⟩ : GEng × (List Int)) n i.1 i.2)
  (fun ⟨s38, s39⟩ => (⟨[(3, .ref (15, 0) 1 0 (len (qGCall x4))), (6, .ref (43, 0) 1 0 (len (qGCall ((([] : List av) ++ x4) ++ [((⟨0, 21, 0⟩ : av))])))), (7, .mptr (7, 0) 1 0 0), (8, .ref (46, 5) 1 0 (len (qInt x24_1))), (9, iA s38), (10, iA s39)], [((7, 0), .box 1 [tA (qGRule x24_0a), .ref (46, 0) 1 0 (len (qGGraphS x24_0b)), .ref (46, 1) 1 0 (len (qGEv x24_0c)), .ref (46, 2) 1 0 (len (qInt x24_0d)), .ref (46, 3) 1 0 (len (qGFire x24_0e))]), ((15, 0), .farr 1 3 (qGCall x4)), ((43, 0), .arr 1 3 (qGCall ((([] : List av) ++ x4) ++ [((⟨0, 21, 0⟩ : av))]))), ((46, 0), .arr 1 5 (qGGraphS x24_0b)), ((46, 1), .arr 1 3 (qGEv x24_0c)), ((46, 2), .arr 1 1 (qInt x24_0d)), ((46, 3), .arr 1 4 (qGFire x24_0e)), ((46, 5), .arr 1 1 (qInt x24_1))]⟩ : St))
  (fun (x52 : Int) => (⟨[(3, .ref (15, 0) 1 0 (len (qGCall x4))), (6, .ref (43, 0) 1 0 (len (qGCall ((([] : List av) ++ x4) ++ [((⟨0, 21, 0⟩ : av))])))), (7, .mptr (7, 0) 1 0 0), (8, .ref (46, 5) 1 0 (len (qInt x24_1))), (9, iA x52)], [((7, 0), .box 1 [tA (qGRule x24_0a), .ref (46, 0) 1 0 (len (qGGraphS x24_0b)), .ref (46, 1) 1 0 (len (qGEv x24_0c)), .ref (46, 2) 1 0 (len (qInt x24_0d)), .ref (46, 3) 1 0 (len (qGFire x24_0e))]), ((15, 0), .farr 1 3 (qGCall x4)), ((43, 0), .arr 1 3 (qGCall ((([] : List av) ++ x4) ++ [((⟨0, 21, 0⟩ : av))]))), ((46, 0), .arr 1 5 (qGGraphS x24_0b)), ((46, 1), .arr 1 3 (qGEv x24_0c)), ((46, 2), .arr 1 1 (qInt x24_0d)), ((46, 3), .arr 1 4 (qGFire x24_0e)), ((46, 5), .arr 1 1 (qInt x24_1))]⟩ : St)) .ok (.exit 0)
  (i0 := (_, _)) hl1 (fun _ => rfl) ?_ ?_ ?_
 ·rintro ⟨t0, t1⟩ e
  refine ah ?_
  cbv
  all_goals exact J2
 rintro x52 hx
 subst o1
 have hh := hq1
 cbv
 replace hh := bind_some hh
 obtain ⟨x66, h65, hh⟩ := hh
 refine ae hF (fo hQ h65) ?_
 cbv
 replace hh := az hh
 rcases hh with ⟨b68, hh⟩ | ⟨b68, hh⟩
 have f69 : x66 = true := Tb b68
 have g := f69; cbv at g; try rw [f69]
 try rw [g]
 cbv
 exact Eb
 have f69 : x66 = false := Fb b68
 have g := f69; cbv at g; try rw [f69]
 try rw [g]
 cbv
 refine bcs (fun f71 => ?_) (fun f71 => ?_)
 replace hh := ifT hh f71
 try rw [f71]
 cbv
 refine bcs (fun f73 => ?_) (fun f73 => ?_)
 replace hh := ifT hh f73
 try rw [f73]
 cbv
 refine bcs (fun f75 => ?_) (fun f75 => ?_)
 replace hh := ifT hh f75
 try rw [f75]
 cbv
 exact Eb
 replace hh := ifF hh f75
 try rw [f75]
 cbv
 exact Eb
 replace hh := ifF hh f73
 try rw [f73]
 cbv
 exact Eb
 replace hh := ifF hh f71
 try rw [f71]
 cbv
 exact Eb
 rintro n ⟨s38, s39⟩ N1 D1 hh hN1 hD1 hQ1
 try dsimp only at hh
 unfold aK.l0 at hh
 cbv
 refine bcs (fun f54 => ?_) (fun f54 => ?_)
 replace hh := ifT hh f54
 try rw [f54]
 cbv
 replace hh := aa hh
 obtain ⟨h55, hh⟩ := hh
 replace hh := aa hh
 obtain ⟨h56, hh⟩ := hh
 try dsimp only at h56
 refine ⟨Nb h55, Mb h56, ?_⟩
 replace hh := bind_some hh
 obtain ⟨e57, h58, hh⟩ := hh
 refine ⟨[iA e57], Gb h58, ?_⟩
 cbv
 refine bcs (fun f60 => ?_) (fun f60 => ?_)
 replace hh := ifT hh f60
 try rw [f60]
 cbv
 ·refine hN1 (_, _) _ hh fun ⟨t0, t1⟩ e => ?_
  refine ah ?_
  cbv
  all_goals exact J2
 replace hh := ifF hh f60
 try rw [f60]
 cbv
 replace hh := aa hh
 obtain ⟨h61, hh⟩ := hh
 replace hh := aa hh
 obtain ⟨h62, hh⟩ := hh
 try dsimp only at h62
 refine ⟨Nb h61, Mb h62, ?_⟩
 refine ⟨[iA e57], Gb h58, ?_⟩
 cbv
 replace hh := az hh
 rcases hh with ⟨b63, hh⟩ | ⟨b63, hh⟩
 have f64 : (eq e57 2) = true := Tb b63
 have g := f64; cbv at g; try rw [f64]
 try rw [g]
 cbv
 ·refine hN1 (_, _) _ hh fun ⟨t0, t1⟩ e => ?_
  refine ah ?_
  cbv
  all_goals exact J2
 have f64 : (eq e57 2) = false := Fb b63
 have g := f64; cbv at g; try rw [f64]
 try rw [g]
 cbv
 cases hh
 have hh : some _ = some _ := hq1
 refine hQ1 _ _ ?_
 cbv
 exact Eb
 replace hh := ifF hh f54
 try rw [f54]
 cbv
 ·refine hD1 _ _ hh fun t0 e => ?_
  refine ah ?_
  cbv
  all_goals exact J1
 have f20 : x17 = false := Fb b19
 have g := f20; cbv at g; try rw [f20]
 try rw [g]
 cbv
 replace hh := bind_some hh
 obtain ⟨⟨⟨x77_0a, x77_0b, x77_0c, x77_0d, x77_0e⟩, x77_1⟩, h76, hh⟩ := hh
 try dsimp only at hh
 refine ⟨Ob, ?_⟩
 have fc := eS hQ h76
 try dsimp only at fc
 refine ae hF fc ?_
 cbv
 refine bcs (fun f80 => ?_) (fun f80 => ?_)
 replace hh := ifT hh f80
 try rw [f80]
 cbv
 exact Eb
 replace hh := ifF hh f80
 try rw [f80]
 cbv
 exact Eb
 have f15 : x10 = false := Fb b14
 have g := f15; cbv at g; try rw [f15]
 try rw [g]
 cbv
 exact Eb
 have f13 : x7 = false := Fb b12
 have g := f13; cbv at g; try rw [f13]
 try rw [g]
 cbv
 replace hh := az hh
 rcases hh with ⟨b81, hh⟩ | ⟨b81, hh⟩
 have f82 : x10 = true := Tb b81
 have g := f82; cbv at g; try rw [f82]
 try rw [g]
 cbv
 exact Eb
 have f82 : x10 = false := Fb b81
 have g := f82; cbv at g; try rw [f82]
 try rw [g]
 cbv
 replace hh := bind_some hh
 obtain ⟨x84, h83, hh⟩ := hh
 refine ae hF (fj hQ h83) ?_
 cbv
 replace hh := az hh
 rcases hh with ⟨b86, hh⟩ | ⟨b86, hh⟩
 have f87 : x84 = true := Tb b86
 have g := f87; cbv at g; try rw [f87]
 try rw [g]
 cbv
 replace hh := aa hh
 obtain ⟨h88, hh⟩ := hh
 refine ⟨⟨Ob, Ab, Ab⟩, ?_⟩
 refine ⟨⟨Ob, Wb h88⟩, ?_⟩
 replace hh := aa hh
 obtain ⟨h89, hh⟩ := hh
 refine ⟨⟨Ob, Ab⟩, ?_⟩
 refine ⟨⟨Ob, Wb h89⟩, ?_⟩
 replace hh := bind_some hh
 obtain ⟨⟨⟨x91_0a, x91_0b, x91_0c, x91_0d, x91_0e⟩, x91_1⟩, h90, hh⟩ := hh
 try dsimp only at hh
 refine ⟨Ob, ?_⟩
 have fc := eS hQ h90
 try dsimp only at fc
 refine ae hF fc ?_
 cbv
 replace hh := bind_some hh
 obtain ⟨o1, hl1, hq1⟩ := hh
 refine ap hC eok mixed (fun n (i : Int × Int) => aK.l1 k (⟨⟨x91_0a, x91_0b, x91_0c, x91_0d, x91_0e⟩, x91_1⟩ : GEng × (List Int)) n i.1 i.2)
  (fun ⟨s105, s106⟩ => (⟨[(3, .ref (15, 0) 1 0 (len (qGCall x4))), (6, .ref (43, 0) 1 0 (len (qGCall ((([] : List av) ++ x4) ++ [((⟨0, 21, 0⟩ : av))])))), (7, .mptr (7, 0) 1 0 0), (8, .ref (46, 5) 1 0 (len (qInt x91_1))), (9, iA s105), (10, iA s106)], [((7, 0), .box 1 [tA (qGRule x91_0a), .ref (46, 0) 1 0 (len (qGGraphS x91_0b)), .ref (46, 1) 1 0 (len (qGEv x91_0c)), .ref (46, 2) 1 0 (len (qInt x91_0d)), .ref (46, 3) 1 0 (len (qGFire x91_0e))]), ((15, 0), .farr 1 3 (qGCall x4)), ((43, 0), .arr 1 3 (qGCall ((([] : List av) ++ x4) ++ [((⟨0, 21, 0⟩ : av))]))), ((46, 0), .arr 1 5 (qGGraphS x91_0b)), ((46, 1), .arr 1 3 (qGEv x91_0c)), ((46, 2), .arr 1 1 (qInt x91_0d)), ((46, 3), .arr 1 4 (qGFire x91_0e)), ((46, 5), .arr 1 1 (qInt x91_1))]⟩ : St))
  (fun (x119 : Int) => (⟨[(3, .ref (15, 0) 1 0 (len (qGCall x4))), (6, .ref (43, 0) 1 0 (len (qGCall ((([] : List av) ++ x4) ++ [((⟨0, 21, 0⟩ : av))])))), (7, .mptr (7, 0) 1 0 0), (8, .ref (46, 5) 1 0 (len (qInt x91_1))), (9, iA x119)], [((7, 0), .box 1 [tA (qGRule x91_0a), .ref (46, 0) 1 0 (len (qGGraphS x91_0b)), .ref (46, 1) 1 0 (len (qGEv x91_0c)), .ref (46, 2) 1 0 (len (qInt x91_0d)), .ref (46, 3) 1 0 (len (qGFire x91_0e))]), ((15, 0), .farr 1 3 (qGCall x4)), ((43, 0), .arr 1 3 (qGCall ((([] : List av) ++ x4) ++ [((⟨0, 21, 0⟩ : av))]))), ((46, 0), .arr 1 5 (qGGraphS x91_0b)), ((46, 1), .arr 1 3 (qGEv x91_0c)), ((46, 2), .arr 1 1 (qInt x91_0d)), ((46, 3), .arr 1 4 (qGFire x91_0e)), ((46, 5), .arr 1 1 (qInt x91_1))]⟩ : St)) .ok (.exit 0)
  (i0 := (_, _)) hl1 (fun _ => rfl) ?_ ?_ ?_
 ·rintro ⟨t0, t1⟩ e
  refine ah ?_
  cbv
  all_goals exact J2
 rintro x119 hx
 subst o1
 have hh := hq1
 cbv
 replace hh := bind_some hh
 obtain ⟨x133, h132, hh⟩ := hh
 refine ae hF (fo hQ h132) ?_
 cbv
 replace hh := az hh
 rcases hh with ⟨b135, hh⟩ | ⟨b135, hh⟩
 have f136 : x133 = true := Tb b135
 have g := f136; cbv at g; try rw [f136]
 try rw [g]
 cbv
 exact Eb
 have f136 : x133 = false := Fb b135
 have g := f136; cbv at g; try rw [f136]
 try rw [g]
 cbv
 refine bcs (fun f138 => ?_) (fun f138 => ?_)
 replace hh := ifT hh f138
 try rw [f138]
 cbv
 refine bcs (fun f140 => ?_) (fun f140 => ?_)
 replace hh := ifT hh f140
 try rw [f140]
 cbv
 refine bcs (fun f142 => ?_) (fun f142 => ?_)
 replace hh := ifT hh f142
 try rw [f142]
 cbv
 exact Eb
 replace hh := ifF hh f142
 try rw [f142]
 cbv
 exact Eb
 replace hh := ifF hh f140
 try rw [f140]
 cbv
 exact Eb
 replace hh := ifF hh f138
 try rw [f138]
 cbv
 exact Eb
 rintro n ⟨s105, s106⟩ N1 D1 hh hN1 hD1 hQ1
 try dsimp only at hh
 unfold aK.l1 at hh
 cbv
 refine bcs (fun f121 => ?_) (fun f121 => ?_)
 replace hh := ifT hh f121
 try rw [f121]
 cbv
 replace hh := aa hh
 obtain ⟨h122, hh⟩ := hh
 replace hh := aa hh
 obtain ⟨h123, hh⟩ := hh
 try dsimp only at h123
 refine ⟨Nb h122, Mb h123, ?_⟩
 replace hh := bind_some hh
 obtain ⟨e124, h125, hh⟩ := hh
 refine ⟨[iA e124], Gb h125, ?_⟩
 cbv
 refine bcs (fun f127 => ?_) (fun f127 => ?_)
 replace hh := ifT hh f127
 try rw [f127]
 cbv
 ·refine hN1 (_, _) _ hh fun ⟨t0, t1⟩ e => ?_
  refine ah ?_
  cbv
  all_goals exact J2
 replace hh := ifF hh f127
 try rw [f127]
 cbv
 replace hh := aa hh
 obtain ⟨h128, hh⟩ := hh
 replace hh := aa hh
 obtain ⟨h129, hh⟩ := hh
 try dsimp only at h129
 refine ⟨Nb h128, Mb h129, ?_⟩
 refine ⟨[iA e124], Gb h125, ?_⟩
 cbv
 replace hh := az hh
 rcases hh with ⟨b130, hh⟩ | ⟨b130, hh⟩
 have f131 : (eq e124 2) = true := Tb b130
 have g := f131; cbv at g; try rw [f131]
 try rw [g]
 cbv
 ·refine hN1 (_, _) _ hh fun ⟨t0, t1⟩ e => ?_
  refine ah ?_
  cbv
  all_goals exact J2
 have f131 : (eq e124 2) = false := Fb b130
 have g := f131; cbv at g; try rw [f131]
 try rw [g]
 cbv
 cases hh
 have hh : some _ = some _ := hq1
 refine hQ1 _ _ ?_
 cbv
 exact Eb
 replace hh := ifF hh f121
 try rw [f121]
 cbv
 ·refine hD1 _ _ hh fun t0 e => ?_
  refine ah ?_
  cbv
  all_goals exact J1
 have f87 : x84 = false := Fb b86
 have g := f87; cbv at g; try rw [f87]
 try rw [g]
 cbv
 replace hh := bind_some hh
 obtain ⟨⟨⟨x144_0a, x144_0b, x144_0c, x144_0d, x144_0e⟩, x144_1⟩, h143, hh⟩ := hh
 try dsimp only at hh
 refine ⟨Ob, ?_⟩
 have fc := eS hQ h143
 try dsimp only at fc
 refine ae hF fc ?_
 cbv
 refine bcs (fun f147 => ?_) (fun f147 => ?_)
 replace hh := ifT hh f147
 try rw [f147]
 cbv
 exact Eb
 replace hh := ifF hh f147
 try rw [f147]
 cbv
 exact Eb

end Go.Proofs.YtlbnmldopjadoaaGreat
