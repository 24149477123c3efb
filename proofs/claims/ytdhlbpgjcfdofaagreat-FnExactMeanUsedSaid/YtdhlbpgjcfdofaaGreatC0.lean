/- The functions of this program do what the plain ones do. -/
import Derived.Test.YtdhlbpgjcfdofaaGreatN
import Derived.Test.YtdhlbpgjcfdofaaGreatVE
import Derived.Test.YtdhlbpgjcfdofaaGreatX
namespace Go.Proofs.YtdhlbpgjcfdofaaGreat
open Go Go.Vm
set_option linter.unusedVariables false
set_option maxHeartbeats 4000000
noncomputable abbrev P : Program := Tryz.prog
variable {qGEx : List GEx → Vm.Rows} {qGEv : List GEv → Vm.Rows} {qGExO : List GEx → Vm.Rows} {qInt : List Int → Vm.Rows} {qGOcc : List GOcc → Vm.Rows} {qGOccO : List GOcc → Vm.Rows} {qLGOcc : List (List GOcc) → Vm.Rows} {qLGOccO : List (List GOcc) → Vm.Rows} {qBool : List Bool → Vm.Rows} {qLInt : List (List Int) → Vm.Rows} (hQ : EQ qGEx qGEv qGExO qInt qGOcc qGOccO qLGOcc qLGOccO qBool qLInt)
include hQ
theorem c_scc32 : ∀ k : Nat, (∀ {p0 : List GEx} {p1 : Int} {r : Int}, laws_szExS.f k p0 p1 = some r → FunW P 86 [tA (qGEx p0), iA p1] [hA, hA] (iA r)) ∧ (∀ {p0 : GEx} {p1 : Int} {r : Int}, laws_szEx.f k p0 p1 = some r → FunW P 32 [.agg [iA p0.Kind, iA p0.Sym, iA p0.N, tA (qGEx p0.Kids)], iA p1] [hA, hA] (iA r)) := by
  intro k
  induction k using Nat.strongRecOn with
  | _ k ih =>
  refine ⟨?_, ?_⟩
  · intro p0 p1 r hh
    cases k with
    | zero => unfold laws_szExS.f at hh; cases hh
    | succ k =>
    unfold laws_szExS.f at hh
    refine go (ts := [(4, none)]) (rm := [.own]) (pm := [.skip, .skip]) Tryz.func86 ?_
    intro Fn LW len cast toNat wrap add sub mul bin lt eq At set part app fz' rep nadd nmax ssize sext sget scat seq slt Wide Flat Ones Room r' post' hC hF hr hp
    cbv
    refine bcs (fun f2 => ?_) (fun f2 => ?_)
    ·
     replace hh := ifT hh f2
     try rw [f2]
     cbv
     exact Eb
    ·
     replace hh := ifF hh f2
     try rw [f2]
     cbv
     replace hh := bind_some hh
     obtain ⟨o1, hl1, hq1⟩ := hh
     refine loop_go4 hC eok mixed (fun n (i : Int × Int) => laws_szExS.l0 k (laws_szEx.f k) p0 n i.1 i.2)
      (fun ⟨s13, s14⟩ => (⟨[(0, tA (qGEx p0)), (1, iA s13), (5, iA s14)], []⟩ : St))
      (fun (x25 : Int) => (⟨[(1, iA x25)], []⟩ : St)) .ok (.exit 0)
      (i0 := (_, _)) hl1 (fun _ => rfl) ?_ ?_ ?_
     ·
      rintro ⟨t0, t1⟩ e
      refine cov_of [] ?_
      cbv
      all_goals exact J2
     ·
      rintro x25 hx
      subst o1
      have hh := hq1
      cbv
      exact Eb
     ·
      rintro n ⟨s13, s14⟩ N1 D1 hh hN1 hD1 hQ1
      dsimp only at hh
      unfold laws_szExS.l0 at hh
      cbv
      refine bcs (fun f27 => ?_) (fun f27 => ?_)
      ·
       replace hh := ifT hh f27
       try rw [f27]
       cbv
       replace hh := req_some hh
       obtain ⟨h28, hh⟩ := hh
       replace hh := bind_some hh
       obtain ⟨⟨e29a, e29b, e29c, e29d⟩, h30, hh⟩ := hh
       try dsimp only at hh
       refine ⟨[iA e29a, iA e29b, iA e29c, tA (qGEx e29d)], Nb h28, Gb h30, ?_⟩
       cbv
       replace hh := bind_some hh
       obtain ⟨x32, h31, hh⟩ := hh
       refine go_call hF ((ih k (Nat.lt_succ_self k)).2 h31) ?_
       cbv
       refine bcs (fun f35 => ?_) (fun f35 => ?_)
       ·
        replace hh := ifT hh f35
        try rw [f35]
        cbv
        cases hh
        have hh : some _ = some _ := hq1
        refine hQ1 _ _ ?_
        cbv
        exact Eb
       ·
        replace hh := ifF hh f35
        try rw [f35]
        cbv
        refine hN1 (_, _) _ hh fun ⟨t0, t1⟩ e => ?_
        refine cov_of [] ?_
        cbv
        all_goals exact J2
      ·
       replace hh := ifF hh f27
       try rw [f27]
       cbv
       refine hD1 _ _ hh fun t0 e => ?_
       refine cov_of [] ?_
       cbv
       all_goals exact J1
  · intro p0 p1 r hh
    cases k with
    | zero => unfold laws_szEx.f at hh; cases hh
    | succ k =>
    obtain ⟨p0a, p0b, p0c, p0d⟩ := p0
    unfold laws_szEx.f at hh
    refine go (ts := [(4, none)]) (rm := [.own]) (pm := [.skip, .skip]) Tryz.func32 ?_
    intro Fn LW len cast toNat wrap add sub mul bin lt eq At set part app fz' rep nadd nmax ssize sext sget scat seq slt Wide Flat Ones Room r' post' hC hF hr hp
    cbv
    replace hh := bind_some hh
    obtain ⟨x2, h1, hh⟩ := hh
    refine go_call hF ((ih k (Nat.lt_succ_self k)).1 h1) ?_
    cbv
    refine bcs (fun f5 => ?_) (fun f5 => ?_)
    ·
     replace hh := ifT hh f5
     try rw [f5]
     cbv
     exact Eb
    ·
     replace hh := ifF hh f5
     try rw [f5]
     cbv
     exact Eb
theorem c_laws_szExS {k : Nat} {p0 : List GEx} {p1 : Int} {r : Int} (hh : laws_szExS.f k p0 p1 = some r) : FunW P 86 [tA (qGEx p0), iA p1] [hA, hA] (iA r) := (c_scc32 hQ k).1 hh
theorem c_laws_szEx {k : Nat} {p0 : GEx} {p1 : Int} {r : Int} (hh : laws_szEx.f k p0 p1 = some r) : FunW P 32 [.agg [iA p0.Kind, iA p0.Sym, iA p0.N, tA (qGEx p0.Kids)], iA p1] [hA, hA] (iA r) := (c_scc32 hQ k).2 hh



theorem c_laws_szEvS {p0 : List GEv} {p1 : Int} {r : Int} (hh : laws_szEvS.f p0 p1 = some r) : FunW P 33 [tA (qGEv p0), iA p1] [hA, hA] (iA r) := by
 unfold laws_szEvS.f at hh
 refine go (ts := [(4, none)]) (rm := [.own]) (pm := [.skip, .skip]) Tryz.func33 ?_
 intro Fn LW len cast toNat wrap add sub mul bin lt eq At set part app fz' rep nadd nmax ssize sext sget scat seq slt Wide Flat Ones Room r' post' hC hF hr hp
 cbv
 refine bcs (fun f2 => ?_) (fun f2 => ?_)
 ·
  replace hh := ifT hh f2
  try rw [f2]
  cbv
  exact Eb
 ·
  replace hh := ifF hh f2
  try rw [f2]
  cbv
  exact Eb

theorem c_scc35 : ∀ k : Nat, (∀ {p0 : List GEx} {r : List GEx}, laws_toExS.f k p0 = some r → FunW P 87 [tA (qGEx p0)] [hA] (oA 4 (qGExO r))) ∧ (∀ {p0 : GEx} {r : GEx}, laws_toEx.f k p0 = some r → FunW P 35 [.agg [iA p0.Kind, iA p0.Sym, iA p0.N, tA (qGEx p0.Kids)]] [hA] (.agg [iA r.Kind, iA r.Sym, iA r.N, oA 4 (qGExO r.Kids)])) := by
  intro k
  induction k using Nat.strongRecOn with
  | _ k ih =>
  refine ⟨?_, ?_⟩
  · intro p0 r hh
    cases k with
    | zero => unfold laws_toExS.f at hh; cases hh
    | succ k =>
    unfold laws_toExS.f at hh
    refine go (ts := [(2, none)]) (rm := [.own]) (pm := [.skip]) Tryz.func87 ?_
    intro Fn LW len cast toNat wrap add sub mul bin lt eq At set part app fz' rep nadd nmax ssize sext sget scat seq slt Wide Flat Ones Room r' post' hC hF hr hp
    cbv
    replace hh := req_some hh
    obtain ⟨h1, hh⟩ := hh
    replace hh := req_some hh
    obtain ⟨h2, hh⟩ := hh
    replace hh := req_some hh
    obtain ⟨h3, hh⟩ := hh
    refine ⟨⟨Nb h1, Nb h2, Wb h3⟩, ?_⟩
    replace hh := bind_some hh
    obtain ⟨o1, hl1, hq1⟩ := hh
    refine loop_go4 hC eok mixed (fun n (i : (List GEx) × Int) => laws_toExS.l0 k (laws_toEx.f k) p0 n i.1 i.2)
     (fun ⟨s16, s17⟩ => (⟨[(0, tA (qGEx p0)), (3, .ref (7, 0) 1 0 (len (qGExO s16))), (4, iA s17)], [((7, 0), .arr 1 4 (qGExO s16))]⟩ : St))
     (fun (x30 : List GEx) => (⟨[(3, .ref (7, 0) 1 0 (len (qGExO x30)))], [((7, 0), .arr 1 4 (qGExO x30))]⟩ : St)) (fun x => x) (.exit 0)
     (i0 := (_, _)) hl1 (fun _ => rfl) ?_ ?_ ?_
    ·
     rintro ⟨t0, t1⟩ e
     refine cov_of [((7, 0), (7, 0))] ?_
     cbv
     all_goals exact J2
    ·
     rintro x30 hx
     subst o1
     have hh := hq1
     cbv
     exact Eb
    ·
     rintro n ⟨s16, s17⟩ N1 D1 hh hN1 hD1 hQ1
     dsimp only at hh
     unfold laws_toExS.l0 at hh
     cbv
     refine bcs (fun f32 => ?_) (fun f32 => ?_)
     ·
      replace hh := ifT hh f32
      try rw [f32]
      cbv
      replace hh := req_some hh
      obtain ⟨h33, hh⟩ := hh
      replace hh := bind_some hh
      obtain ⟨⟨e34a, e34b, e34c, e34d⟩, h35, hh⟩ := hh
      try dsimp only at hh
      refine ⟨[iA e34a, iA e34b, iA e34c, tA (qGEx e34d)], Nb h33, Gb h35, ?_⟩
      cbv
      replace hh := bind_some hh
      obtain ⟨⟨x37a, x37b, x37c, x37d⟩, h36, hh⟩ := hh
      try dsimp only at hh
      have fc := (ih k (Nat.lt_succ_self k)).2 h36
      try dsimp only at fc
      refine go_call hF fc ?_
      cbv
      replace hh := req_some hh
      obtain ⟨h39, hh⟩ := hh
      replace hh := req_some hh
      obtain ⟨h40, hh⟩ := hh
      refine ⟨Nb h39, Mb h40, ?_⟩
      replace hh := bind_some hh
      obtain ⟨⟨e41a, e41b, e41c, e41d⟩, h42, hh⟩ := hh
      try dsimp only at hh
      refine ⟨[iA e41a, iA e41b, iA e41c, oA 4 (qGExO e41d)], Gb h42, ?_⟩
      cbv
      refine hN1 (_, _) _ hh fun ⟨t0, t1⟩ e => ?_
      refine cov_of [((7, 0), (7, 0))] ?_
      cbv
      all_goals exact J2
     ·
      replace hh := ifF hh f32
      try rw [f32]
      cbv
      refine hD1 _ _ hh fun t0 e => ?_
      refine cov_of [((7, 0), (7, 0))] ?_
      cbv
      all_goals exact J1
  · intro p0 r hh
    cases k with
    | zero => unfold laws_toEx.f at hh; cases hh
    | succ k =>
    obtain ⟨p0a, p0b, p0c, p0d⟩ := p0
    unfold laws_toEx.f at hh
    refine go (ts := [(2, some 25)]) (rm := [.own]) (pm := [.skip]) Tryz.func35 ?_
    intro Fn LW len cast toNat wrap add sub mul bin lt eq At set part app fz' rep nadd nmax ssize sext sget scat seq slt Wide Flat Ones Room r' post' hC hF hr hp
    cbv
    replace hh := bind_some hh
    obtain ⟨x2, h1, hh⟩ := hh
    refine go_call hF ((ih k (Nat.lt_succ_self k)).1 h1) ?_
    cbv
    exact Eb
theorem c_laws_toExS {k : Nat} {p0 : List GEx} {r : List GEx} (hh : laws_toExS.f k p0 = some r) : FunW P 87 [tA (qGEx p0)] [hA] (oA 4 (qGExO r)) := (c_scc35 hQ k).1 hh
theorem c_laws_toEx {k : Nat} {p0 : GEx} {r : GEx} (hh : laws_toEx.f k p0 = some r) : FunW P 35 [.agg [iA p0.Kind, iA p0.Sym, iA p0.N, tA (qGEx p0.Kids)]] [hA] (.agg [iA r.Kind, iA r.Sym, iA r.N, oA 4 (qGExO r.Kids)]) := (c_scc35 hQ k).2 hh



theorem c_laws_toEv {p0 : GEv} {r : GEv} (hh : laws_toEv.f p0 = some r) : FunW P 88 [.agg [iA p0.Sym, iA p0.At, iA p0.Val]] [hA] (.agg [iA r.Sym, iA r.At, iA r.Val]) := by
 obtain ⟨p0a, p0b, p0c⟩ := p0
 unfold laws_toEv.f at hh
 refine go (ts := [(2, some 58)]) (rm := [.own]) (pm := [.skip]) Tryz.func88 ?_
 intro Fn LW len cast toNat wrap add sub mul bin lt eq At set part app fz' rep nadd nmax ssize sext sget scat seq slt Wide Flat Ones Room r' post' hC hF hr hp
 cbv
 exact Eb

theorem c_laws_toEvS {k : Nat} {p0 : List GEv} {r : List GEv} (hh : laws_toEvS.f k p0 = some r) : FunW P 36 [tA (qGEv p0)] [hA] (oA 3 (qGEv r)) := by
 unfold laws_toEvS.f at hh
 refine go (ts := [(2, none)]) (rm := [.own]) (pm := [.skip]) Tryz.func36 ?_
 intro Fn LW len cast toNat wrap add sub mul bin lt eq At set part app fz' rep nadd nmax ssize sext sget scat seq slt Wide Flat Ones Room r' post' hC hF hr hp
 cbv
 replace hh := req_some hh
 obtain ⟨h1, hh⟩ := hh
 replace hh := req_some hh
 obtain ⟨h2, hh⟩ := hh
 replace hh := req_some hh
 obtain ⟨h3, hh⟩ := hh
 refine ⟨⟨Nb h1, Nb h2, Wb h3⟩, ?_⟩
 replace hh := bind_some hh
 obtain ⟨o1, hl1, hq1⟩ := hh
 refine loop_go4 hC eok mixed (fun n (i : (List GEv) × Int) => laws_toEvS.l0 k p0 n i.1 i.2)
  (fun ⟨s16, s17⟩ => (⟨[(0, tA (qGEv p0)), (3, .ref (7, 0) 1 0 (len (qGEv s16))), (4, iA s17)], [((7, 0), .arr 1 3 (qGEv s16))]⟩ : St))
  (fun (x30 : List GEv) => (⟨[(3, .ref (7, 0) 1 0 (len (qGEv x30)))], [((7, 0), .arr 1 3 (qGEv x30))]⟩ : St)) (fun x => x) (.exit 0)
  (i0 := (_, _)) hl1 (fun _ => rfl) ?_ ?_ ?_
 ·
  rintro ⟨t0, t1⟩ e
  refine cov_of [((7, 0), (7, 0))] ?_
  cbv
  all_goals exact J2
 ·
  rintro x30 hx
  subst o1
  have hh := hq1
  cbv
  exact Eb
 ·
  rintro n ⟨s16, s17⟩ N1 D1 hh hN1 hD1 hQ1
  dsimp only at hh
  unfold laws_toEvS.l0 at hh
  cbv
  refine bcs (fun f32 => ?_) (fun f32 => ?_)
  ·
   replace hh := ifT hh f32
   try rw [f32]
   cbv
   replace hh := req_some hh
   obtain ⟨h33, hh⟩ := hh
   replace hh := bind_some hh
   obtain ⟨⟨e34a, e34b, e34c⟩, h35, hh⟩ := hh
   try dsimp only at hh
   refine ⟨[iA e34a, iA e34b, iA e34c], Nb h33, Gb h35, ?_⟩
   cbv
   replace hh := bind_some hh
   obtain ⟨⟨x37a, x37b, x37c⟩, h36, hh⟩ := hh
   try dsimp only at hh
   refine go_call hF (c_laws_toEv hQ h36) ?_
   cbv
   replace hh := req_some hh
   obtain ⟨h39, hh⟩ := hh
   replace hh := req_some hh
   obtain ⟨h40, hh⟩ := hh
   refine ⟨Nb h39, Mb h40, ?_⟩
   replace hh := bind_some hh
   obtain ⟨⟨e41a, e41b, e41c⟩, h42, hh⟩ := hh
   try dsimp only at hh
   refine ⟨[iA e41a, iA e41b, iA e41c], Gb h42, ?_⟩
   cbv
   refine hN1 (_, _) _ hh fun ⟨t0, t1⟩ e => ?_
   refine cov_of [((7, 0), (7, 0))] ?_
   cbv
   all_goals exact J2
  ·
   replace hh := ifF hh f32
   try rw [f32]
   cbv
   refine hD1 _ _ hh fun t0 e => ?_
   refine cov_of [((7, 0), (7, 0))] ?_
   cbv
   all_goals exact J1

theorem c_spec_l2Kids {p0 : Int} {r : Int} (hh : spec_l2Kids.f p0 = some r) : FunW P 118 [iA p0] [hA] (iA r) := by
 unfold spec_l2Kids.f at hh
 refine go (ts := [(2, none)]) (rm := [.own]) (pm := [.skip]) Tryz.func118 ?_
 intro Fn LW len cast toNat wrap add sub mul bin lt eq At set part app fz' rep nadd nmax ssize sext sget scat seq slt Wide Flat Ones Room r' post' hC hF hr hp
 cbv
 refine bcs (fun f2 => ?_) (fun f2 => ?_)
 ·
  replace hh := ifT hh f2
  try rw [f2]
  cbv
  exact Eb
 ·
  replace hh := ifF hh f2
  try rw [f2]
  cbv
  refine bcs (fun f4 => ?_) (fun f4 => ?_)
  ·
   replace hh := ifT hh f4
   try rw [f4]
   cbv
   exact Eb
  ·
   replace hh := ifF hh f4
   try rw [f4]
   cbv
   refine bcs (fun f6 => ?_) (fun f6 => ?_)
   ·
    replace hh := ifT hh f6
    try rw [f6]
    cbv
    exact Eb
   ·
    replace hh := ifF hh f6
    try rw [f6]
    cbv
    refine bcs (fun f8 => ?_) (fun f8 => ?_)
    ·
     replace hh := ifT hh f8
     try rw [f8]
     cbv
     exact Eb
    ·
     replace hh := ifF hh f8
     try rw [f8]
     cbv
     refine bcs (fun f10 => ?_) (fun f10 => ?_)
     ·
      replace hh := ifT hh f10
      try rw [f10]
      cbv
      exact Eb
     ·
      replace hh := ifF hh f10
      try rw [f10]
      cbv
      refine bcs (fun f12 => ?_) (fun f12 => ?_)
      ·
       replace hh := ifT hh f12
       try rw [f12]
       cbv
       exact Eb
      ·
       replace hh := ifF hh f12
       try rw [f12]
       cbv
       refine bcs (fun f14 => ?_) (fun f14 => ?_)
       ·
        replace hh := ifT hh f14
        try rw [f14]
        cbv
        exact Eb
       ·
        replace hh := ifF hh f14
        try rw [f14]
        cbv
        exact Eb

theorem c_scc73 : ∀ k : Nat, (∀ {p0 : GEx} {p1 : Int} {r : Bool}, spec_l2Form.f k p0 p1 = some r → FunW P 73 [.agg [iA p0.Kind, iA p0.Sym, iA p0.N, tA (qGEx p0.Kids)], iA p1] [hA, hA] (bA r)) := by
  intro k
  induction k using Nat.strongRecOn with
  | _ k ih =>
  · intro p0 p1 r hh
    cases k with
    | zero => unfold spec_l2Form.f at hh; cases hh
    | succ k =>
    obtain ⟨p0a, p0b, p0c, p0d⟩ := p0
    unfold spec_l2Form.f at hh
    refine go (ts := [(4, none)]) (rm := [.own]) (pm := [.skip, .skip]) Tryz.func73 ?_
    intro Fn LW len cast toNat wrap add sub mul bin lt eq At set part app fz' rep nadd nmax ssize sext sget scat seq slt Wide Flat Ones Room r' post' hC hF hr hp
    cbv
    refine bcs (fun f2 => ?_) (fun f2 => ?_)
    ·
     replace hh := ifT hh f2
     try rw [f2]
     cbv
     exact Eb
    ·
     replace hh := ifF hh f2
     try rw [f2]
     cbv
     replace hh := bind_some hh
     obtain ⟨x4, h3, hh⟩ := hh
     refine go_call hF (c_spec_l2Kids hQ h3) ?_
     cbv
     replace hh := if_or hh
     rcases hh with ⟨b6, hh⟩ | ⟨b6, hh⟩
     ·
      have f7 : (eq x4 (cast (len (qGEx p0d)))) = true := Tb b6
      have g := f7; cbv at g; try rw [f7]
      try rw [g]
      cbv
      refine bcs (fun f9 => ?_) (fun f9 => ?_)
      ·
       replace hh := ifT hh f9
       try rw [f9]
       cbv
       exact Eb
      ·
       replace hh := ifF hh f9
       try rw [f9]
       cbv
       replace hh := if_or hh
       rcases hh with ⟨b10, hh⟩ | ⟨b10, hh⟩
       ·
        have f11 : (lt p0b 5) = true := Tb b10
        have g := f11; cbv at g; try rw [f11]
        try rw [g]
        cbv
        replace hh := if_or hh
        rcases hh with ⟨b12, hh⟩ | ⟨b12, hh⟩
        ·
         have f13 : (eq p0a 1) = true := Tb b12
         have g := f13; cbv at g; try rw [f13]
         try rw [g]
         cbv
         refine bcs (fun f15 => ?_) (fun f15 => ?_)
         ·
          replace hh := ifT hh f15
          try rw [f15]
          cbv
          refine bcs (fun f17 => ?_) (fun f17 => ?_)
          ·
           replace hh := ifT hh f17
           try rw [f17]
           cbv
           exact Eb
          ·
           replace hh := ifF hh f17
           try rw [f17]
           cbv
           refine bcs (fun f19 => ?_) (fun f19 => ?_)
           ·
            replace hh := ifT hh f19
            try rw [f19]
            cbv
            exact Eb
           ·
            replace hh := ifF hh f19
            try rw [f19]
            cbv
            first | rw [f15] | (have g := f15; cbv at g; rw [g])
            cbv
            replace hh := bind_some hh
            obtain ⟨o1, hl1, hq1⟩ := hh
            refine loop_go4 hC eok mixed (spec_l2Form.l0 k (spec_l2Form.f k) (⟨p0a, p0b, p0c, p0d⟩ : GEx) p1)
             (fun s30 => (⟨[(1, iA p1), (2, .mptr (2, 0) 1 0 0), (5, iA s30)], [((2, 0), .box 1 [iA p0a, iA p0b, iA p0c, tA (qGEx p0d)])]⟩ : St))
             (fun (_ : Unit) => (⟨[], []⟩ : St)) .ok (.exit 0)
             (i0 := _) hl1 (fun _ => rfl) ?_ ?_ ?_
            ·
             rintro t0 e
             refine cov_of [((2, 0), (2, 0))] ?_
             cbv
             all_goals exact J1
            ·
             rintro _ hx
             subst o1
             have hh := hq1
             cbv
             exact Eb
            ·
             rintro n s30 N1 D1 hh hN1 hD1 hQ1
             unfold spec_l2Form.l0 at hh
             cbv
             refine bcs (fun f42 => ?_) (fun f42 => ?_)
             ·
              replace hh := ifT hh f42
              try rw [f42]
              cbv
              replace hh := req_some hh
              obtain ⟨h43, hh⟩ := hh
              replace hh := bind_some hh
              obtain ⟨⟨e44a, e44b, e44c, e44d⟩, h45, hh⟩ := hh
              try dsimp only at hh
              refine ⟨[iA e44a, iA e44b, iA e44c, tA (qGEx e44d)], Nb h43, Gb h45, ?_⟩
              cbv
              replace hh := bind_some hh
              obtain ⟨x47, h46, hh⟩ := hh
              refine go_call hF ((ih k (Nat.lt_succ_self k)) h46) ?_
              cbv
              replace hh := if_or hh
              rcases hh with ⟨b49, hh⟩ | ⟨b49, hh⟩
              ·
               have f50 : x47 = true := Tb b49
               have g := f50; cbv at g; try rw [f50]
               try rw [g]
               cbv
               refine hN1 _ _ hh fun t0 e => ?_
               refine cov_of [((2, 0), (2, 0))] ?_
               cbv
               all_goals exact J1
              ·
               have f50 : x47 = false := Fb b49
               have g := f50; cbv at g; try rw [f50]
               try rw [g]
               cbv
               cases hh
               have hh : some _ = some _ := hq1
               refine hQ1 _ _ ?_
               cbv
               exact Eb
             ·
              replace hh := ifF hh f42
              try rw [f42]
              cbv
              refine hD1 () _ hh fun _ e => ?_
              refine cov_of [] ?_
              cbv
              all_goals exact J0
         ·
          replace hh := ifF hh f15
          try rw [f15]
          cbv
          first | rw [f15] | (have g := f15; cbv at g; rw [g])
          cbv
          replace hh := if_or hh
          rcases hh with ⟨b51, hh⟩ | ⟨b51, hh⟩
          ·
           have f52 : (eq p0c 0) = true := Tb b51
           have g := f52; cbv at g; try rw [f52]
           try rw [g]
           cbv
           replace hh := bind_some hh
           obtain ⟨o1, hl1, hq1⟩ := hh
           refine loop_go4 hC eok mixed (spec_l2Form.l1 k (spec_l2Form.f k) (⟨p0a, p0b, p0c, p0d⟩ : GEx) p1)
            (fun s63 => (⟨[(1, iA p1), (2, .mptr (2, 0) 1 0 0), (5, iA s63)], [((2, 0), .box 1 [iA p0a, iA p0b, iA p0c, tA (qGEx p0d)])]⟩ : St))
            (fun (_ : Unit) => (⟨[], []⟩ : St)) .ok (.exit 0)
            (i0 := _) hl1 (fun _ => rfl) ?_ ?_ ?_
           ·
            rintro t0 e
            refine cov_of [((2, 0), (2, 0))] ?_
            cbv
            all_goals exact J1
           ·
            rintro _ hx
            subst o1
            have hh := hq1
            cbv
            exact Eb
           ·
            rintro n s63 N1 D1 hh hN1 hD1 hQ1
            unfold spec_l2Form.l1 at hh
            cbv
            refine bcs (fun f75 => ?_) (fun f75 => ?_)
            ·
             replace hh := ifT hh f75
             try rw [f75]
             cbv
             replace hh := req_some hh
             obtain ⟨h76, hh⟩ := hh
             replace hh := bind_some hh
             obtain ⟨⟨e77a, e77b, e77c, e77d⟩, h78, hh⟩ := hh
             try dsimp only at hh
             refine ⟨[iA e77a, iA e77b, iA e77c, tA (qGEx e77d)], Nb h76, Gb h78, ?_⟩
             cbv
             replace hh := bind_some hh
             obtain ⟨x80, h79, hh⟩ := hh
             refine go_call hF ((ih k (Nat.lt_succ_self k)) h79) ?_
             cbv
             replace hh := if_or hh
             rcases hh with ⟨b82, hh⟩ | ⟨b82, hh⟩
             ·
              have f83 : x80 = true := Tb b82
              have g := f83; cbv at g; try rw [f83]
              try rw [g]
              cbv
              refine hN1 _ _ hh fun t0 e => ?_
              refine cov_of [((2, 0), (2, 0))] ?_
              cbv
              all_goals exact J1
             ·
              have f83 : x80 = false := Fb b82
              have g := f83; cbv at g; try rw [f83]
              try rw [g]
              cbv
              cases hh
              have hh : some _ = some _ := hq1
              refine hQ1 _ _ ?_
              cbv
              exact Eb
            ·
             replace hh := ifF hh f75
             try rw [f75]
             cbv
             refine hD1 () _ hh fun _ e => ?_
             refine cov_of [] ?_
             cbv
             all_goals exact J0
          ·
           have f52 : (eq p0c 0) = false := Fb b51
           have g := f52; cbv at g; try rw [f52]
           try rw [g]
           cbv
           exact Eb
        ·
         have f13 : (eq p0a 1) = false := Fb b12
         have g := f13; cbv at g; try rw [f13]
         try rw [g]
         cbv
         replace hh := if_or hh
         rcases hh with ⟨b84, hh⟩ | ⟨b84, hh⟩
         ·
          have f85 : (eq p0b 0) = true := Tb b84
          have g := f85; cbv at g; try rw [f85]
          try rw [g]
          cbv
          refine bcs (fun f87 => ?_) (fun f87 => ?_)
          ·
           replace hh := ifT hh f87
           try rw [f87]
           cbv
           refine bcs (fun f89 => ?_) (fun f89 => ?_)
           ·
            replace hh := ifT hh f89
            try rw [f89]
            cbv
            exact Eb
           ·
            replace hh := ifF hh f89
            try rw [f89]
            cbv
            refine bcs (fun f91 => ?_) (fun f91 => ?_)
            ·
             replace hh := ifT hh f91
             try rw [f91]
             cbv
             exact Eb
            ·
             replace hh := ifF hh f91
             try rw [f91]
             cbv
             first | rw [f87] | (have g := f87; cbv at g; rw [g])
             cbv
             replace hh := bind_some hh
             obtain ⟨o1, hl1, hq1⟩ := hh
             refine loop_go4 hC eok mixed (spec_l2Form.l2 k (spec_l2Form.f k) (⟨p0a, p0b, p0c, p0d⟩ : GEx) p1)
              (fun s102 => (⟨[(1, iA p1), (2, .mptr (2, 0) 1 0 0), (5, iA s102)], [((2, 0), .box 1 [iA p0a, iA p0b, iA p0c, tA (qGEx p0d)])]⟩ : St))
              (fun (_ : Unit) => (⟨[], []⟩ : St)) .ok (.exit 0)
              (i0 := _) hl1 (fun _ => rfl) ?_ ?_ ?_
             ·
              rintro t0 e
              refine cov_of [((2, 0), (2, 0))] ?_
              cbv
              all_goals exact J1
             ·
              rintro _ hx
              subst o1
              have hh := hq1
              cbv
              exact Eb
             ·
              rintro n s102 N1 D1 hh hN1 hD1 hQ1
              unfold spec_l2Form.l2 at hh
              cbv
              refine bcs (fun f114 => ?_) (fun f114 => ?_)
              ·
               replace hh := ifT hh f114
               try rw [f114]
               cbv
               replace hh := req_some hh
               obtain ⟨h115, hh⟩ := hh
               replace hh := bind_some hh
               obtain ⟨⟨e116a, e116b, e116c, e116d⟩, h117, hh⟩ := hh
               try dsimp only at hh
               refine ⟨[iA e116a, iA e116b, iA e116c, tA (qGEx e116d)], Nb h115, Gb h117, ?_⟩
               cbv
               replace hh := bind_some hh
               obtain ⟨x119, h118, hh⟩ := hh
               refine go_call hF ((ih k (Nat.lt_succ_self k)) h118) ?_
               cbv
               replace hh := if_or hh
               rcases hh with ⟨b121, hh⟩ | ⟨b121, hh⟩
               ·
                have f122 : x119 = true := Tb b121
                have g := f122; cbv at g; try rw [f122]
                try rw [g]
                cbv
                refine hN1 _ _ hh fun t0 e => ?_
                refine cov_of [((2, 0), (2, 0))] ?_
                cbv
                all_goals exact J1
               ·
                have f122 : x119 = false := Fb b121
                have g := f122; cbv at g; try rw [f122]
                try rw [g]
                cbv
                cases hh
                have hh : some _ = some _ := hq1
                refine hQ1 _ _ ?_
                cbv
                exact Eb
              ·
               replace hh := ifF hh f114
               try rw [f114]
               cbv
               refine hD1 () _ hh fun _ e => ?_
               refine cov_of [] ?_
               cbv
               all_goals exact J0
          ·
           replace hh := ifF hh f87
           try rw [f87]
           cbv
           first | rw [f87] | (have g := f87; cbv at g; rw [g])
           cbv
           replace hh := if_or hh
           rcases hh with ⟨b123, hh⟩ | ⟨b123, hh⟩
           ·
            have f124 : (eq p0c 0) = true := Tb b123
            have g := f124; cbv at g; try rw [f124]
            try rw [g]
            cbv
            replace hh := bind_some hh
            obtain ⟨o1, hl1, hq1⟩ := hh
            refine loop_go4 hC eok mixed (spec_l2Form.l3 k (spec_l2Form.f k) (⟨p0a, p0b, p0c, p0d⟩ : GEx) p1)
             (fun s135 => (⟨[(1, iA p1), (2, .mptr (2, 0) 1 0 0), (5, iA s135)], [((2, 0), .box 1 [iA p0a, iA p0b, iA p0c, tA (qGEx p0d)])]⟩ : St))
             (fun (_ : Unit) => (⟨[], []⟩ : St)) .ok (.exit 0)
             (i0 := _) hl1 (fun _ => rfl) ?_ ?_ ?_
            ·
             rintro t0 e
             refine cov_of [((2, 0), (2, 0))] ?_
             cbv
             all_goals exact J1
            ·
             rintro _ hx
             subst o1
             have hh := hq1
             cbv
             exact Eb
            ·
             rintro n s135 N1 D1 hh hN1 hD1 hQ1
             unfold spec_l2Form.l3 at hh
             cbv
             refine bcs (fun f147 => ?_) (fun f147 => ?_)
             ·
              replace hh := ifT hh f147
              try rw [f147]
              cbv
              replace hh := req_some hh
              obtain ⟨h148, hh⟩ := hh
              replace hh := bind_some hh
              obtain ⟨⟨e149a, e149b, e149c, e149d⟩, h150, hh⟩ := hh
              try dsimp only at hh
              refine ⟨[iA e149a, iA e149b, iA e149c, tA (qGEx e149d)], Nb h148, Gb h150, ?_⟩
              cbv
              replace hh := bind_some hh
              obtain ⟨x152, h151, hh⟩ := hh
              refine go_call hF ((ih k (Nat.lt_succ_self k)) h151) ?_
              cbv
              replace hh := if_or hh
              rcases hh with ⟨b154, hh⟩ | ⟨b154, hh⟩
              ·
               have f155 : x152 = true := Tb b154
               have g := f155; cbv at g; try rw [f155]
               try rw [g]
               cbv
               refine hN1 _ _ hh fun t0 e => ?_
               refine cov_of [((2, 0), (2, 0))] ?_
               cbv
               all_goals exact J1
              ·
               have f155 : x152 = false := Fb b154
               have g := f155; cbv at g; try rw [f155]
               try rw [g]
               cbv
               cases hh
               have hh : some _ = some _ := hq1
               refine hQ1 _ _ ?_
               cbv
               exact Eb
             ·
              replace hh := ifF hh f147
              try rw [f147]
              cbv
              refine hD1 () _ hh fun _ e => ?_
              refine cov_of [] ?_
              cbv
              all_goals exact J0
           ·
            have f124 : (eq p0c 0) = false := Fb b123
            have g := f124; cbv at g; try rw [f124]
            try rw [g]
            cbv
            exact Eb
         ·
          have f85 : (eq p0b 0) = false := Fb b84
          have g := f85; cbv at g; try rw [f85]
          try rw [g]
          cbv
          exact Eb
       ·
        have f11 : (lt p0b 5) = false := Fb b10
        have g := f11; cbv at g; try rw [f11]
        try rw [g]
        cbv
        exact Eb
     ·
      have f7 : (eq x4 (cast (len (qGEx p0d)))) = false := Fb b6
      have g := f7; cbv at g; try rw [f7]
      try rw [g]
      cbv
      exact Eb
theorem c_spec_l2Form {k : Nat} {p0 : GEx} {p1 : Int} {r : Bool} (hh : spec_l2Form.f k p0 p1 = some r) : FunW P 73 [.agg [iA p0.Kind, iA p0.Sym, iA p0.N, tA (qGEx p0.Kids)], iA p1] [hA, hA] (bA r) := (c_scc73 hQ k) hh


theorem c_scc74 : ∀ k : Nat, (∀ {p0 : GEx} {p1 : Int} {r : Int}, spec_l2Many.f k p0 p1 = some r → FunW P 74 [.agg [iA p0.Kind, iA p0.Sym, iA p0.N, tA (qGEx p0.Kids)], iA p1] [hA, hA] (iA r)) := by
  intro k
  induction k using Nat.strongRecOn with
  | _ k ih =>
  · intro p0 p1 r hh
    cases k with
    | zero => unfold spec_l2Many.f at hh; cases hh
    | succ k =>
    obtain ⟨p0a, p0b, p0c, p0d⟩ := p0
    unfold spec_l2Many.f at hh
    refine go (ts := [(4, none)]) (rm := [.own]) (pm := [.skip, .skip]) Tryz.func74 ?_
    intro Fn LW len cast toNat wrap add sub mul bin lt eq At set part app fz' rep nadd nmax ssize sext sget scat seq slt Wide Flat Ones Room r' post' hC hF hr hp
    cbv
    replace hh := bind_some hh
    obtain ⟨o1, hl1, hq1⟩ := hh
    refine loop_go4 hC eok mixed (fun n (i : Int × Int) => spec_l2Many.l0 k (spec_l2Many.f k) (⟨p0a, p0b, p0c, p0d⟩ : GEx) p1 n i.1 i.2)
     (fun ⟨s11, s12⟩ => (⟨[(1, iA p1), (2, .mptr (2, 0) 1 0 0), (5, iA s11), (6, iA s12)], [((2, 0), .box 1 [iA p0a, iA p0b, iA p0c, tA (qGEx p0d)])]⟩ : St))
     (fun (x23 : Int) => (⟨[(5, iA x23)], []⟩ : St)) (fun x => x) (.exit 0)
     (i0 := (_, _)) hl1 (fun _ => rfl) ?_ ?_ ?_
    ·
     rintro ⟨t0, t1⟩ e
     refine cov_of [((2, 0), (2, 0))] ?_
     cbv
     all_goals exact J2
    ·
     rintro x23 hx
     subst o1
     have hh := hq1
     cbv
     exact Eb
    ·
     rintro n ⟨s11, s12⟩ N1 D1 hh hN1 hD1 hQ1
     dsimp only at hh
     unfold spec_l2Many.l0 at hh
     cbv
     refine bcs (fun f25 => ?_) (fun f25 => ?_)
     ·
      replace hh := ifT hh f25
      try rw [f25]
      cbv
      refine bcs (fun f27 => ?_) (fun f27 => ?_)
      ·
       replace hh := ifT hh f27
       try rw [f27]
       cbv
       replace hh := req_some hh
       obtain ⟨h28, hh⟩ := hh
       replace hh := bind_some hh
       obtain ⟨⟨e29a, e29b, e29c, e29d⟩, h30, hh⟩ := hh
       try dsimp only at hh
       refine ⟨[iA e29a, iA e29b, iA e29c, tA (qGEx e29d)], Nb h28, Gb h30, ?_⟩
       cbv
       replace hh := bind_some hh
       obtain ⟨x32, h31, hh⟩ := hh
       refine go_call hF ((ih k (Nat.lt_succ_self k)) h31) ?_
       cbv
       refine hN1 (_, _) _ hh fun ⟨t0, t1⟩ e => ?_
       refine cov_of [((2, 0), (2, 0))] ?_
       cbv
       all_goals exact J2
      ·
       replace hh := ifF hh f27
       try rw [f27]
       cbv
       refine hD1 _ _ hh fun t0 e => ?_
       refine cov_of [] ?_
       cbv
       all_goals exact J1
     ·
      replace hh := ifF hh f25
      try rw [f25]
      cbv
      refine hD1 _ _ hh fun t0 e => ?_
      refine cov_of [] ?_
      cbv
      all_goals exact J1
theorem c_spec_l2Many {k : Nat} {p0 : GEx} {p1 : Int} {r : Int} (hh : spec_l2Many.f k p0 p1 = some r) : FunW P 74 [.agg [iA p0.Kind, iA p0.Sym, iA p0.N, tA (qGEx p0.Kids)], iA p1] [hA, hA] (iA r) := (c_scc74 hQ k) hh


theorem c_spec_ExOk {k : Nat} {p0 : GEx} {r : Bool} (hh : spec_ExOk.f k p0 = some r) : FunW P 25 [.agg [iA p0.Kind, iA p0.Sym, iA p0.N, tA (qGEx p0.Kids)]] [hA] (bA r) := by
 obtain ⟨p0a, p0b, p0c, p0d⟩ := p0
 unfold spec_ExOk.f at hh
 refine go (ts := [(2, none)]) (rm := [.own]) (pm := [.skip]) Tryz.func25 ?_
 intro Fn LW len cast toNat wrap add sub mul bin lt eq At set part app fz' rep nadd nmax ssize sext sget scat seq slt Wide Flat Ones Room r' post' hC hF hr hp
 cbv
 replace hh := bind_some hh
 obtain ⟨x2, h1, hh⟩ := hh
 refine go_call hF (c_spec_l2Form hQ h1) ?_
 cbv
 refine bcs (fun f5 => ?_) (fun f5 => ?_)
 ·
  replace hh := ifT hh f5
  try rw [f5]
  cbv
  replace hh := bind_some hh
  obtain ⟨x7, h6, hh⟩ := hh
  refine go_call hF (c_spec_l2Many hQ h6) ?_
  cbv
  exact Eb
 ·
  replace hh := ifF hh f5
  try rw [f5]
  cbv
  exact Eb

theorem c_spec_l4Mode {p0 : Int} {r : Bool} (hh : spec_l4Mode.f p0 = some r) : FunW P 91 [iA p0] [hA] (bA r) := by
 unfold spec_l4Mode.f at hh
 refine go (ts := [(2, none)]) (rm := [.own]) (pm := [.skip]) Tryz.func91 ?_
 intro Fn LW len cast toNat wrap add sub mul bin lt eq At set part app fz' rep nadd nmax ssize sext sget scat seq slt Wide Flat Ones Room r' post' hC hF hr hp
 cbv
 replace hh := if_or hh
 rcases hh with ⟨b1, hh⟩ | ⟨b1, hh⟩
 ·
  have f2 : (lt p0 0) = true := Tb b1
  have g := f2; cbv at g; try rw [f2]
  try rw [g]
  cbv
  exact Eb
 ·
  have f2 : (lt p0 0) = false := Fb b1
  have g := f2; cbv at g; try rw [f2]
  try rw [g]
  cbv
  exact Eb

theorem c_spec_EvOk {p0 : GEv} {r : Bool} (hh : spec_EvOk.f p0 = some r) : FunW P 75 [.agg [iA p0.Sym, iA p0.At, iA p0.Val]] [hA] (bA r) := by
 obtain ⟨p0a, p0b, p0c⟩ := p0
 unfold spec_EvOk.f at hh
 refine go (ts := [(2, none)]) (rm := [.own]) (pm := [.skip]) Tryz.func75 ?_
 intro Fn LW len cast toNat wrap add sub mul bin lt eq At set part app fz' rep nadd nmax ssize sext sget scat seq slt Wide Flat Ones Room r' post' hC hF hr hp
 cbv
 replace hh := if_or hh
 rcases hh with ⟨b1, hh⟩ | ⟨b1, hh⟩
 ·
  have f2 : (lt p0a 0) = true := Tb b1
  have g := f2; cbv at g; try rw [f2]
  try rw [g]
  cbv
  exact Eb
 ·
  have f2 : (lt p0a 0) = false := Fb b1
  have g := f2; cbv at g; try rw [f2]
  try rw [g]
  cbv
  refine bcs (fun f4 => ?_) (fun f4 => ?_)
  ·
   replace hh := ifT hh f4
   try rw [f4]
   cbv
   replace hh := if_or hh
   rcases hh with ⟨b5, hh⟩ | ⟨b5, hh⟩
   ·
    have f6 : (lt p0b 1) = true := Tb b5
    have g := f6; cbv at g; try rw [f6]
    try rw [g]
    cbv
    exact Eb
   ·
    have f6 : (lt p0b 1) = false := Fb b5
    have g := f6; cbv at g; try rw [f6]
    try rw [g]
    cbv
    replace hh := if_or hh
    rcases hh with ⟨b7, hh⟩ | ⟨b7, hh⟩
    ·
     have f8 : (lt 1000 p0b) = true := Tb b7
     have g := f8; cbv at g; try rw [f8]
     try rw [g]
     cbv
     exact Eb
    ·
     have f8 : (lt 1000 p0b) = false := Fb b7
     have g := f8; cbv at g; try rw [f8]
     try rw [g]
     cbv
     replace hh := if_or hh
     rcases hh with ⟨b9, hh⟩ | ⟨b9, hh⟩
     ·
      have f10 : (lt p0c 0) = true := Tb b9
      have g := f10; cbv at g; try rw [f10]
      try rw [g]
      cbv
      exact Eb
     ·
      have f10 : (lt p0c 0) = false := Fb b9
      have g := f10; cbv at g; try rw [f10]
      try rw [g]
      cbv
      exact Eb
  ·
   replace hh := ifF hh f4
   try rw [f4]
   cbv
   exact Eb

theorem c_spec_EvsOk {k : Nat} {p0 : List GEv} {r : Bool} (hh : spec_EvsOk.f k p0 = some r) : FunW P 26 [tA (qGEv p0)] [hA] (bA r) := by
 unfold spec_EvsOk.f at hh
 refine go (ts := [(2, none)]) (rm := [.own]) (pm := [.skip]) Tryz.func26 ?_
 intro Fn LW len cast toNat wrap add sub mul bin lt eq At set part app fz' rep nadd nmax ssize sext sget scat seq slt Wide Flat Ones Room r' post' hC hF hr hp
 cbv
 refine bcs (fun f2 => ?_) (fun f2 => ?_)
 ·
  replace hh := ifT hh f2
  try rw [f2]
  cbv
  exact Eb
 ·
  replace hh := ifF hh f2
  try rw [f2]
  cbv
  replace hh := bind_some hh
  obtain ⟨o1, hl1, hq1⟩ := hh
  refine loop_go4 hC eok mixed (spec_EvsOk.l0 k p0)
   (fun s23 => (⟨[(0, tA (qGEv p0)), (3, iA s23)], []⟩ : St))
   (fun (_ : Unit) => (⟨[], []⟩ : St)) .ok (.exit 0)
   (i0 := _) hl1 (fun _ => rfl) ?_ ?_ ?_
  ·
   rintro t0 e
   refine cov_of [] ?_
   cbv
   all_goals exact J1
  ·
   rintro _ hx
   subst o1
   have hh := hq1
   cbv
   exact Eb
  ·
   rintro n s23 N1 D1 hh hN1 hD1 hQ1
   unfold spec_EvsOk.l0 at hh
   cbv
   refine bcs (fun f45 => ?_) (fun f45 => ?_)
   ·
    replace hh := ifT hh f45
    try rw [f45]
    cbv
    replace hh := req_some hh
    obtain ⟨h46, hh⟩ := hh
    replace hh := bind_some hh
    obtain ⟨⟨e47a, e47b, e47c⟩, h48, hh⟩ := hh
    try dsimp only at hh
    refine ⟨[iA e47a, iA e47b, iA e47c], Nb h46, Gb h48, ?_⟩
    cbv
    replace hh := bind_some hh
    obtain ⟨x50, h49, hh⟩ := hh
    refine go_call hF (c_spec_EvOk hQ h49) ?_
    cbv
    replace hh := if_or hh
    rcases hh with ⟨b52, hh⟩ | ⟨b52, hh⟩
    ·
     have f53 : x50 = true := Tb b52
     have g := f53; cbv at g; try rw [f53]
     try rw [g]
     cbv
     refine bcs (fun f55 => ?_) (fun f55 => ?_)
     ·
      replace hh := ifT hh f55
      try rw [f55]
      cbv
      replace hh := req_some hh
      obtain ⟨h56, hh⟩ := hh
      replace hh := bind_some hh
      obtain ⟨⟨e57a, e57b, e57c⟩, h58, hh⟩ := hh
      try dsimp only at hh
      refine ⟨[iA e57a, iA e57b, iA e57c], Nb h56, Gb h58, ?_⟩
      cbv
      replace hh := req_some hh
      obtain ⟨h59, hh⟩ := hh
      replace hh := bind_some hh
      obtain ⟨⟨e60a, e60b, e60c⟩, h61, hh⟩ := hh
      try dsimp only at hh
      refine ⟨[iA e60a, iA e60b, iA e60c], Nb h59, Gb h61, ?_⟩
      cbv
      replace hh := if_or hh
      rcases hh with ⟨b62, hh⟩ | ⟨b62, hh⟩
      ·
       have f63 : (lt e60b e57b) = true := Tb b62
       have g := f63; cbv at g; try rw [f63]
       try rw [g]
       cbv
       refine hN1 _ _ hh fun t0 e => ?_
       refine cov_of [] ?_
       cbv
       all_goals exact J1
      ·
       have f63 : (lt e60b e57b) = false := Fb b62
       have g := f63; cbv at g; try rw [f63]
       try rw [g]
       cbv
       cases hh
       have hh : some _ = some _ := hq1
       refine hQ1 _ _ ?_
       cbv
       exact Eb
     ·
      replace hh := ifF hh f55
      try rw [f55]
      cbv
      refine hN1 _ _ hh fun t0 e => ?_
      refine cov_of [] ?_
      cbv
      all_goals exact J1
    ·
     have f53 : x50 = false := Fb b52
     have g := f53; cbv at g; try rw [f53]
     try rw [g]
     cbv
     cases hh
     have hh : some _ = some _ := hq1
     refine hQ1 _ _ ?_
     cbv
     exact Eb
   ·
    replace hh := ifF hh f45
    try rw [f45]
    cbv
    refine hD1 () _ hh fun _ e => ?_
    refine cov_of [] ?_
    cbv
    all_goals exact J0

theorem c_spec_l6Sym {k : Nat} {p0 : Int} {p1 : List GEv} {r : List GOcc} (hh : spec_l6Sym.f k p0 p1 = some r) : FunW P 127 [iA p0, tA (qGEv p1)] [hA, hA] (oA 3 (qGOccO r)) := by
 unfold spec_l6Sym.f at hh
 refine go (ts := [(4, none)]) (rm := [.own]) (pm := [.skip, .skip]) Tryz.func127 ?_
 intro Fn LW len cast toNat wrap add sub mul bin lt eq At set part app fz' rep nadd nmax ssize sext sget scat seq slt Wide Flat Ones Room r' post' hC hF hr hp
 cbv
 replace hh := bind_some hh
 obtain ⟨o1, hl1, hq1⟩ := hh
 refine loop_go4 hC eok mixed (fun n (i : (List GOcc) × Int) => spec_l6Sym.l0 k p0 p1 n i.1 i.2)
  (fun ⟨s15, s16⟩ => (⟨[(0, iA p0), (1, tA (qGEv p1)), (5, .ref (7, 0) 1 0 (len (qGOccO s15))), (6, iA s16)], [((7, 0), .arr 1 3 (qGOccO s15))]⟩ : St))
  (fun (x31 : List GOcc) => (⟨[(5, .ref (7, 0) 1 0 (len (qGOccO x31)))], [((7, 0), .arr 1 3 (qGOccO x31))]⟩ : St)) (fun x => x) (.exit 0)
  (i0 := (_, _)) hl1 (fun _ => rfl) ?_ ?_ ?_
 ·
  rintro ⟨t0, t1⟩ e
  refine cov_of [((7, 0), (7, 0))] ?_
  cbv
  all_goals exact J2
 ·
  rintro x31 hx
  subst o1
  have hh := hq1
  cbv
  exact Eb
 ·
  rintro n ⟨s15, s16⟩ N1 D1 hh hN1 hD1 hQ1
  dsimp only at hh
  unfold spec_l6Sym.l0 at hh
  cbv
  refine bcs (fun f33 => ?_) (fun f33 => ?_)
  ·
   replace hh := ifT hh f33
   try rw [f33]
   cbv
   replace hh := req_some hh
   obtain ⟨h34, hh⟩ := hh
   replace hh := bind_some hh
   obtain ⟨⟨e35a, e35b, e35c⟩, h36, hh⟩ := hh
   try dsimp only at hh
   refine ⟨[iA e35a, iA e35b, iA e35c], Nb h34, Gb h36, ?_⟩
   cbv
   refine bcs (fun f38 => ?_) (fun f38 => ?_)
   ·
    replace hh := ifT hh f38
    try rw [f38]
    cbv
    replace hh := req_some hh
    obtain ⟨h39, hh⟩ := hh
    replace hh := bind_some hh
    obtain ⟨⟨e40a, e40b, e40c⟩, h41, hh⟩ := hh
    try dsimp only at hh
    refine ⟨[iA e40a, iA e40b, iA e40c], Nb h39, Gb h41, ?_⟩
    cbv
    replace hh := req_some hh
    obtain ⟨h42, hh⟩ := hh
    replace hh := bind_some hh
    obtain ⟨⟨e43a, e43b, e43c⟩, h44, hh⟩ := hh
    try dsimp only at hh
    refine ⟨[iA e43a, iA e43b, iA e43c], Nb h42, Gb h44, ?_⟩
    cbv
    refine ⟨Ob, ?_⟩
    replace hh := req_some hh
    obtain ⟨h45, hh⟩ := hh
    refine ⟨⟨Ob, Ab⟩, ?_⟩
    refine ⟨⟨Ob, Wb h45⟩, ?_⟩
    refine hN1 (_, _) _ hh fun ⟨t0, t1⟩ e => ?_
    refine cov_of [((7, 0), (36, 0))] ?_
    cbv
    all_goals exact J2
   ·
    replace hh := ifF hh f38
    try rw [f38]
    cbv
    refine hN1 (_, _) _ hh fun ⟨t0, t1⟩ e => ?_
    refine cov_of [((7, 0), (7, 0))] ?_
    cbv
    all_goals exact J2
  ·
   replace hh := ifF hh f33
   try rw [f33]
   cbv
   refine hD1 _ _ hh fun t0 e => ?_
   refine cov_of [((7, 0), (7, 0))] ?_
   cbv
   all_goals exact J1

theorem c_spec_OccOk {k : Nat} {p0 : GOcc} {r : Bool} (hh : spec_OccOk.f k p0 = some r) : FunW P 185 [.agg [iA p0.From, iA p0.To, tA (qInt p0.Ids)]] [hA] (bA r) := by
 obtain ⟨p0a, p0b, p0c⟩ := p0
 unfold spec_OccOk.f at hh
 refine go (ts := [(2, none)]) (rm := [.own]) (pm := [.skip]) Tryz.func185 ?_
 intro Fn LW len cast toNat wrap add sub mul bin lt eq At set part app fz' rep nadd nmax ssize sext sget scat seq slt Wide Flat Ones Room r' post' hC hF hr hp
 cbv
 refine bcs (fun f2 => ?_) (fun f2 => ?_)
 ·
  replace hh := ifT hh f2
  try rw [f2]
  cbv
  exact Eb
 ·
  replace hh := ifF hh f2
  try rw [f2]
  cbv
  refine bcs (fun f4 => ?_) (fun f4 => ?_)
  ·
   replace hh := ifT hh f4
   try rw [f4]
   cbv
   exact Eb
  ·
   replace hh := ifF hh f4
   try rw [f4]
   cbv
   refine bcs (fun f6 => ?_) (fun f6 => ?_)
   ·
    replace hh := ifT hh f6
    try rw [f6]
    cbv
    exact Eb
   ·
    replace hh := ifF hh f6
    try rw [f6]
    cbv
    refine bcs (fun f8 => ?_) (fun f8 => ?_)
    ·
     replace hh := ifT hh f8
     try rw [f8]
     cbv
     exact Eb
    ·
     replace hh := ifF hh f8
     try rw [f8]
     cbv
     refine bcs (fun f10 => ?_) (fun f10 => ?_)
     ·
      replace hh := ifT hh f10
      try rw [f10]
      cbv
      exact Eb
     ·
      replace hh := ifF hh f10
      try rw [f10]
      cbv
      replace hh := bind_some hh
      obtain ⟨o1, hl1, hq1⟩ := hh
      refine loop_go4 hC eok mixed (spec_OccOk.l0 k (⟨p0a, p0b, p0c⟩ : GOcc))
       (fun s33 => (⟨[(1, .mptr (1, 0) 1 0 0), (3, iA s33)], [((1, 0), .box 1 [iA p0a, iA p0b, tA (qInt p0c)])]⟩ : St))
       (fun (_ : Unit) => (⟨[], []⟩ : St)) .ok (.exit 0)
       (i0 := _) hl1 (fun _ => rfl) ?_ ?_ ?_
      ·
       rintro t0 e
       refine cov_of [((1, 0), (1, 0))] ?_
       cbv
       all_goals exact J1
      ·
       rintro _ hx
       subst o1
       have hh := hq1
       cbv
       exact Eb
      ·
       rintro n s33 N1 D1 hh hN1 hD1 hQ1
       unfold spec_OccOk.l0 at hh
       cbv
       refine bcs (fun f57 => ?_) (fun f57 => ?_)
       ·
        replace hh := ifT hh f57
        try rw [f57]
        cbv
        replace hh := req_some hh
        obtain ⟨h58, hh⟩ := hh
        replace hh := bind_some hh
        obtain ⟨e59, h60, hh⟩ := hh
        refine ⟨[iA e59], Nb h58, Gb h60, ?_⟩
        cbv
        refine bcs (fun f62 => ?_) (fun f62 => ?_)
        ·
         replace hh := ifT hh f62
         try rw [f62]
         cbv
         cases hh
         have hh : some _ = some _ := hq1
         refine hQ1 _ _ ?_
         cbv
         exact Eb
        ·
         replace hh := ifF hh f62
         try rw [f62]
         cbv
         replace hh := req_some hh
         obtain ⟨h63, hh⟩ := hh
         replace hh := bind_some hh
         obtain ⟨e64, h65, hh⟩ := hh
         refine ⟨[iA e64], Nb h63, Gb h65, ?_⟩
         cbv
         replace hh := if_or hh
         rcases hh with ⟨b66, hh⟩ | ⟨b66, hh⟩
         ·
          have f67 : (lt e64 24) = true := Tb b66
          have g := f67; cbv at g; try rw [f67]
          try rw [g]
          cbv
          refine bcs (fun f69 => ?_) (fun f69 => ?_)
          ·
           replace hh := ifT hh f69
           try rw [f69]
           cbv
           replace hh := req_some hh
           obtain ⟨h70, hh⟩ := hh
           replace hh := bind_some hh
           obtain ⟨e71, h72, hh⟩ := hh
           refine ⟨[iA e71], Nb h70, Gb h72, ?_⟩
           cbv
           replace hh := req_some hh
           obtain ⟨h73, hh⟩ := hh
           replace hh := bind_some hh
           obtain ⟨e74, h75, hh⟩ := hh
           refine ⟨[iA e74], Nb h73, Gb h75, ?_⟩
           cbv
           replace hh := if_or hh
           rcases hh with ⟨b76, hh⟩ | ⟨b76, hh⟩
           ·
            have f77 : (lt e74 e71) = true := Tb b76
            have g := f77; cbv at g; try rw [f77]
            try rw [g]
            cbv
            refine hN1 _ _ hh fun t0 e => ?_
            refine cov_of [((1, 0), (1, 0))] ?_
            cbv
            all_goals exact J1
           ·
            have f77 : (lt e74 e71) = false := Fb b76
            have g := f77; cbv at g; try rw [f77]
            try rw [g]
            cbv
            cases hh
            have hh : some _ = some _ := hq1
            refine hQ1 _ _ ?_
            cbv
            exact Eb
          ·
           replace hh := ifF hh f69
           try rw [f69]
           cbv
           refine hN1 _ _ hh fun t0 e => ?_
           refine cov_of [((1, 0), (1, 0))] ?_
           cbv
           all_goals exact J1
         ·
          have f67 : (lt e64 24) = false := Fb b66
          have g := f67; cbv at g; try rw [f67]
          try rw [g]
          cbv
          cases hh
          have hh : some _ = some _ := hq1
          refine hQ1 _ _ ?_
          cbv
          exact Eb
       ·
        replace hh := ifF hh f57
        try rw [f57]
        cbv
        refine hD1 () _ hh fun _ e => ?_
        refine cov_of [] ?_
        cbv
        all_goals exact J0

theorem c_spec_l3Ids {k : Nat} {p0 : List Int} {p1 : List Int} {r : Int} (hh : spec_l3Ids.f k p0 p1 = some r) : FunW P 207 [tA (qInt p0), tA (qInt p1)] [hA, hA] (iA r) := by
 unfold spec_l3Ids.f at hh
 refine go (ts := [(4, none)]) (rm := [.own]) (pm := [.skip, .skip]) Tryz.func207 ?_
 intro Fn LW len cast toNat wrap add sub mul bin lt eq At set part app fz' rep nadd nmax ssize sext sget scat seq slt Wide Flat Ones Room r' post' hC hF hr hp
 cbv
 replace hh := bind_some hh
 obtain ⟨o1, hl1, hq1⟩ := hh
 refine loop_go4 hC eok mixed (spec_l3Ids.l0 k p0 p1)
  (fun s21 => (⟨[(0, tA (qInt p0)), (1, tA (qInt p1)), (5, iA s21)], []⟩ : St))
  (fun (_ : Unit) => (⟨[(0, tA (qInt p0)), (1, tA (qInt p1))], []⟩ : St)) .ok (.exit 0)
  (i0 := _) hl1 (fun _ => rfl) ?_ ?_ ?_
 ·
  rintro t0 e
  refine cov_of [] ?_
  cbv
  all_goals exact J1
 ·
  rintro _ hx
  subst o1
  have hh := hq1
  cbv
  refine bcs (fun f63 => ?_) (fun f63 => ?_)
  ·
   replace hh := ifT hh f63
   try rw [f63]
   cbv
   exact Eb
  ·
   replace hh := ifF hh f63
   try rw [f63]
   cbv
   refine bcs (fun f65 => ?_) (fun f65 => ?_)
   ·
    replace hh := ifT hh f65
    try rw [f65]
    cbv
    exact Eb
   ·
    replace hh := ifF hh f65
    try rw [f65]
    cbv
    exact Eb
 ·
  rintro n s21 N1 D1 hh hN1 hD1 hQ1
  unfold spec_l3Ids.l0 at hh
  cbv
  refine bcs (fun f43 => ?_) (fun f43 => ?_)
  ·
   replace hh := ifT hh f43
   try rw [f43]
   cbv
   refine bcs (fun f45 => ?_) (fun f45 => ?_)
   ·
    replace hh := ifT hh f45
    try rw [f45]
    cbv
    replace hh := req_some hh
    obtain ⟨h46, hh⟩ := hh
    replace hh := bind_some hh
    obtain ⟨e47, h48, hh⟩ := hh
    refine ⟨[iA e47], Nb h46, Gb h48, ?_⟩
    cbv
    replace hh := req_some hh
    obtain ⟨h49, hh⟩ := hh
    replace hh := bind_some hh
    obtain ⟨e50, h51, hh⟩ := hh
    refine ⟨[iA e50], Nb h49, Gb h51, ?_⟩
    cbv
    refine bcs (fun f53 => ?_) (fun f53 => ?_)
    ·
     replace hh := ifT hh f53
     try rw [f53]
     cbv
     cases hh
     have hh : some _ = some _ := hq1
     refine hQ1 _ _ ?_
     cbv
     exact Eb
    ·
     replace hh := ifF hh f53
     try rw [f53]
     cbv
     replace hh := req_some hh
     obtain ⟨h54, hh⟩ := hh
     replace hh := bind_some hh
     obtain ⟨e55, h56, hh⟩ := hh
     refine ⟨[iA e55], Nb h54, Gb h56, ?_⟩
     cbv
     replace hh := req_some hh
     obtain ⟨h57, hh⟩ := hh
     replace hh := bind_some hh
     obtain ⟨e58, h59, hh⟩ := hh
     refine ⟨[iA e58], Nb h57, Gb h59, ?_⟩
     cbv
     refine bcs (fun f61 => ?_) (fun f61 => ?_)
     ·
      replace hh := ifT hh f61
      try rw [f61]
      cbv
      cases hh
      have hh : some _ = some _ := hq1
      refine hQ1 _ _ ?_
      cbv
      exact Eb
     ·
      replace hh := ifF hh f61
      try rw [f61]
      cbv
      refine hN1 _ _ hh fun t0 e => ?_
      refine cov_of [] ?_
      cbv
      all_goals exact J1
   ·
    replace hh := ifF hh f45
    try rw [f45]
    cbv
    refine hD1 () _ hh fun _ e => ?_
    refine cov_of [] ?_
    cbv
    all_goals exact J0
  ·
   replace hh := ifF hh f43
   try rw [f43]
   cbv
   refine hD1 () _ hh fun _ e => ?_
   refine cov_of [] ?_
   cbv
   all_goals exact J0

theorem c_spec_OccLess {k : Nat} {p0 : GOcc} {p1 : GOcc} {r : Bool} (hh : spec_OccLess.f k p0 p1 = some r) : FunW P 186 [.agg [iA p0.From, iA p0.To, tA (qInt p0.Ids)], .agg [iA p1.From, iA p1.To, tA (qInt p1.Ids)]] [hA, hA] (bA r) := by
 obtain ⟨p0a, p0b, p0c⟩ := p0
 obtain ⟨p1a, p1b, p1c⟩ := p1
 unfold spec_OccLess.f at hh
 refine go (ts := [(4, none)]) (rm := [.own]) (pm := [.skip, .skip]) Tryz.func186 ?_
 intro Fn LW len cast toNat wrap add sub mul bin lt eq At set part app fz' rep nadd nmax ssize sext sget scat seq slt Wide Flat Ones Room r' post' hC hF hr hp
 cbv
 replace hh := if_or hh
 rcases hh with ⟨b1, hh⟩ | ⟨b1, hh⟩
 ·
  have f2 : (eq p0b p1b) = true := Tb b1
  have g := f2; cbv at g; try rw [f2]
  try rw [g]
  cbv
  replace hh := if_or hh
  rcases hh with ⟨b3, hh⟩ | ⟨b3, hh⟩
  ·
   have f4 : (eq p0a p1a) = true := Tb b3
   have g := f4; cbv at g; try rw [f4]
   try rw [g]
   cbv
   replace hh := bind_some hh
   obtain ⟨x6, h5, hh⟩ := hh
   refine go_call hF (c_spec_l3Ids hQ h5) ?_
   cbv
   exact Eb
  ·
   have f4 : (eq p0a p1a) = false := Fb b3
   have g := f4; cbv at g; try rw [f4]
   try rw [g]
   cbv
   exact Eb
 ·
  have f2 : (eq p0b p1b) = false := Fb b1
  have g := f2; cbv at g; try rw [f2]
  try rw [g]
  cbv
  exact Eb
theorem c_spec_OccLess_L0 {k : Nat} {p0 : GOcc} {p1 : GOcc} {r : Bool} (hh : spec_OccLess.f k p0 p1 = some r) : FunW P 186 [.agg [iA p0.From, iA p0.To, oA 1 (qInt p0.Ids)], .agg [iA p1.From, iA p1.To, tA (qInt p1.Ids)]] [.agg [iA p0.From, iA p0.To, oA 1 (qInt p0.Ids)], hA] (bA r) := by
  cases hQ; exact (c_spec_OccLess .mk hh).lend (rfl) (.lend (by simp) (.same rfl .nil))

theorem c_spec_OccsOk {k : Nat} {p0 : List GOcc} {r : Bool} (hh : spec_OccsOk.f k p0 = some r) : FunW P 153 [tA (qGOcc p0)] [hA] (bA r) := by
 unfold spec_OccsOk.f at hh
 refine go (ts := [(2, none)]) (rm := [.own]) (pm := [.skip]) Tryz.func153 ?_
 intro Fn LW len cast toNat wrap add sub mul bin lt eq At set part app fz' rep nadd nmax ssize sext sget scat seq slt Wide Flat Ones Room r' post' hC hF hr hp
 cbv
 refine bcs (fun f2 => ?_) (fun f2 => ?_)
 ·
  replace hh := ifT hh f2
  try rw [f2]
  cbv
  exact Eb
 ·
  replace hh := ifF hh f2
  try rw [f2]
  cbv
  replace hh := bind_some hh
  obtain ⟨o1, hl1, hq1⟩ := hh
  refine loop_go4 hC eok mixed (spec_OccsOk.l0 k p0)
   (fun s26 => (⟨[(0, tA (qGOcc p0)), (3, iA s26)], []⟩ : St))
   (fun (_ : Unit) => (⟨[], []⟩ : St)) .ok (.exit 0)
   (i0 := _) hl1 (fun _ => rfl) ?_ ?_ ?_
  ·
   rintro t0 e
   refine cov_of [] ?_
   cbv
   all_goals exact J1
  ·
   rintro _ hx
   subst o1
   have hh := hq1
   cbv
   exact Eb
  ·
   rintro n s26 N1 D1 hh hN1 hD1 hQ1
   unfold spec_OccsOk.l0 at hh
   cbv
   refine bcs (fun f51 => ?_) (fun f51 => ?_)
   ·
    replace hh := ifT hh f51
    try rw [f51]
    cbv
    replace hh := req_some hh
    obtain ⟨h52, hh⟩ := hh
    replace hh := bind_some hh
    obtain ⟨⟨e53a, e53b, e53c⟩, h54, hh⟩ := hh
    try dsimp only at hh
    refine ⟨[iA e53a, iA e53b, tA (qInt e53c)], Nb h52, Gb h54, ?_⟩
    cbv
    replace hh := bind_some hh
    obtain ⟨x56, h55, hh⟩ := hh
    refine go_call hF (c_spec_OccOk hQ h55) ?_
    cbv
    replace hh := if_or hh
    rcases hh with ⟨b58, hh⟩ | ⟨b58, hh⟩
    ·
     have f59 : x56 = true := Tb b58
     have g := f59; cbv at g; try rw [f59]
     try rw [g]
     cbv
     refine bcs (fun f61 => ?_) (fun f61 => ?_)
     ·
      replace hh := ifT hh f61
      try rw [f61]
      cbv
      replace hh := req_some hh
      obtain ⟨h62, hh⟩ := hh
      replace hh := bind_some hh
      obtain ⟨⟨e63a, e63b, e63c⟩, h64, hh⟩ := hh
      try dsimp only at hh
      refine ⟨[iA e63a, iA e63b, tA (qInt e63c)], Nb h62, Gb h64, ?_⟩
      cbv
      replace hh := req_some hh
      obtain ⟨h65, hh⟩ := hh
      replace hh := bind_some hh
      obtain ⟨⟨e66a, e66b, e66c⟩, h67, hh⟩ := hh
      try dsimp only at hh
      refine ⟨[iA e66a, iA e66b, tA (qInt e66c)], Nb h65, Gb h67, ?_⟩
      cbv
      replace hh := bind_some hh
      obtain ⟨x69, h68, hh⟩ := hh
      refine go_call hF (c_spec_OccLess hQ h68) ?_
      cbv
      replace hh := if_or hh
      rcases hh with ⟨b71, hh⟩ | ⟨b71, hh⟩
      ·
       have f72 : x69 = true := Tb b71
       have g := f72; cbv at g; try rw [f72]
       try rw [g]
       cbv
       refine hN1 _ _ hh fun t0 e => ?_
       refine cov_of [] ?_
       cbv
       all_goals exact J1
      ·
       have f72 : x69 = false := Fb b71
       have g := f72; cbv at g; try rw [f72]
       try rw [g]
       cbv
       cases hh
       have hh : some _ = some _ := hq1
       refine hQ1 _ _ ?_
       cbv
       exact Eb
     ·
      replace hh := ifF hh f61
      try rw [f61]
      cbv
      refine hN1 _ _ hh fun t0 e => ?_
      refine cov_of [] ?_
      cbv
      all_goals exact J1
    ·
     have f59 : x56 = false := Fb b58
     have g := f59; cbv at g; try rw [f59]
     try rw [g]
     cbv
     cases hh
     have hh : some _ = some _ := hq1
     refine hQ1 _ _ ?_
     cbv
     exact Eb
   ·
    replace hh := ifF hh f51
    try rw [f51]
    cbv
    refine hD1 () _ hh fun _ e => ?_
    refine cov_of [] ?_
    cbv
    all_goals exact J0

theorem c_spec_l3Copy {p0 : GOcc} {r : GOcc} (hh : spec_l3Copy.f p0 = some r) : FunW P 144 [.agg [iA p0.From, iA p0.To, tA (qInt p0.Ids)]] [hA] (.agg [iA r.From, iA r.To, oA 1 (qInt r.Ids)]) := by
 obtain ⟨p0a, p0b, p0c⟩ := p0
 unfold spec_l3Copy.f at hh
 refine go (ts := [(2, some 63)]) (rm := [.own]) (pm := [.skip]) Tryz.func144 ?_
 intro Fn LW len cast toNat wrap add sub mul bin lt eq At set part app fz' rep nadd nmax ssize sext sget scat seq slt Wide Flat Ones Room r' post' hC hF hr hp
 cbv
 replace hh := req_some hh
 obtain ⟨h1, hh⟩ := hh
 try dsimp only at h1
 refine ⟨⟨Ab, Ab⟩, ?_⟩
 refine ⟨⟨Ob, Wb h1⟩, ?_⟩
 exact Eb

theorem c_spec_l3List {k : Nat} {p0 : List GOcc} {r : List GOcc} (hh : spec_l3List.f k p0 = some r) : FunW P 107 [tA (qGOcc p0)] [hA] (oA 3 (qGOccO r)) := by
 unfold spec_l3List.f at hh
 refine go (ts := [(2, none)]) (rm := [.own]) (pm := [.skip]) Tryz.func107 ?_
 intro Fn LW len cast toNat wrap add sub mul bin lt eq At set part app fz' rep nadd nmax ssize sext sget scat seq slt Wide Flat Ones Room r' post' hC hF hr hp
 cbv
 replace hh := bind_some hh
 obtain ⟨o1, hl1, hq1⟩ := hh
 refine loop_go4 hC eok mixed (fun n (i : (List GOcc) × Int) => spec_l3List.l0 k p0 n i.1 i.2)
  (fun ⟨s10, s11⟩ => (⟨[(0, tA (qGOcc p0)), (3, .ref (5, 0) 1 0 (len (qGOccO s10))), (4, iA s11)], [((5, 0), .arr 1 3 (qGOccO s10))]⟩ : St))
  (fun (x21 : List GOcc) => (⟨[(3, .ref (5, 0) 1 0 (len (qGOccO x21)))], [((5, 0), .arr 1 3 (qGOccO x21))]⟩ : St)) (fun x => x) (.exit 0)
  (i0 := (_, _)) hl1 (fun _ => rfl) ?_ ?_ ?_
 ·
  rintro ⟨t0, t1⟩ e
  refine cov_of [((5, 0), (5, 0))] ?_
  cbv
  all_goals exact J2
 ·
  rintro x21 hx
  subst o1
  have hh := hq1
  cbv
  exact Eb
 ·
  rintro n ⟨s10, s11⟩ N1 D1 hh hN1 hD1 hQ1
  dsimp only at hh
  unfold spec_l3List.l0 at hh
  cbv
  refine bcs (fun f23 => ?_) (fun f23 => ?_)
  ·
   replace hh := ifT hh f23
   try rw [f23]
   cbv
   replace hh := req_some hh
   obtain ⟨h24, hh⟩ := hh
   replace hh := bind_some hh
   obtain ⟨⟨e25a, e25b, e25c⟩, h26, hh⟩ := hh
   try dsimp only at hh
   refine ⟨[iA e25a, iA e25b, tA (qInt e25c)], Nb h24, Gb h26, ?_⟩
   cbv
   replace hh := bind_some hh
   obtain ⟨⟨x28a, x28b, x28c⟩, h27, hh⟩ := hh
   try dsimp only at hh
   have fc := c_spec_l3Copy hQ h27
   try dsimp only at fc
   refine go_call hF fc ?_
   cbv
   replace hh := req_some hh
   obtain ⟨h30, hh⟩ := hh
   refine ⟨⟨Ob, Ab⟩, ?_⟩
   refine ⟨⟨Ob, Wb h30⟩, ?_⟩
   refine hN1 (_, _) _ hh fun ⟨t0, t1⟩ e => ?_
   refine cov_of [((5, 0), (19, 0))] ?_
   cbv
   all_goals exact J2
  ·
   replace hh := ifF hh f23
   try rw [f23]
   cbv
   refine hD1 _ _ hh fun t0 e => ?_
   refine cov_of [((5, 0), (5, 0))] ?_
   cbv
   all_goals exact J1

theorem c_spec_l3Same {k : Nat} {p0 : GOcc} {p1 : GOcc} {r : Bool} (hh : spec_l3Same.f k p0 p1 = some r) : FunW P 193 [.agg [iA p0.From, iA p0.To, tA (qInt p0.Ids)], .agg [iA p1.From, iA p1.To, tA (qInt p1.Ids)]] [hA, hA] (bA r) := by
 obtain ⟨p0a, p0b, p0c⟩ := p0
 obtain ⟨p1a, p1b, p1c⟩ := p1
 unfold spec_l3Same.f at hh
 refine go (ts := [(4, none)]) (rm := [.own]) (pm := [.skip, .skip]) Tryz.func193 ?_
 intro Fn LW len cast toNat wrap add sub mul bin lt eq At set part app fz' rep nadd nmax ssize sext sget scat seq slt Wide Flat Ones Room r' post' hC hF hr hp
 cbv
 refine bcs (fun f2 => ?_) (fun f2 => ?_)
 ·
  replace hh := ifT hh f2
  try rw [f2]
  cbv
  refine bcs (fun f4 => ?_) (fun f4 => ?_)
  ·
   replace hh := ifT hh f4
   try rw [f4]
   cbv
   refine bcs (fun f6 => ?_) (fun f6 => ?_)
   ·
    replace hh := ifT hh f6
    try rw [f6]
    cbv
    replace hh := bind_some hh
    obtain ⟨x8, h7, hh⟩ := hh
    refine go_call hF (c_spec_l3Ids hQ h7) ?_
    cbv
    exact Eb
   ·
    replace hh := ifF hh f6
    try rw [f6]
    cbv
    exact Eb
  ·
   replace hh := ifF hh f4
   try rw [f4]
   cbv
   exact Eb
 ·
  replace hh := ifF hh f2
  try rw [f2]
  cbv
  exact Eb
theorem c_spec_l3Same_L0 {k : Nat} {p0 : GOcc} {p1 : GOcc} {r : Bool} (hh : spec_l3Same.f k p0 p1 = some r) : FunW P 193 [.agg [iA p0.From, iA p0.To, oA 1 (qInt p0.Ids)], .agg [iA p1.From, iA p1.To, tA (qInt p1.Ids)]] [.agg [iA p0.From, iA p0.To, oA 1 (qInt p0.Ids)], hA] (bA r) := by
  cases hQ; exact (c_spec_l3Same .mk hh).lend (rfl) (.lend (by simp) (.same rfl .nil))

theorem c_spec_l3Put {k : Nat} {p0 : List GOcc} {p1 : GOcc} {r : List GOcc} (hh : spec_l3Put.f k p0 p1 = some r) : FunW P 159 [oA 3 (qGOcc p0), .agg [iA p1.From, iA p1.To, tA (qInt p1.Ids)]] [hA, hA] (oA 3 (qGOcc r)) := by
 obtain ⟨p1a, p1b, p1c⟩ := p1
 unfold spec_l3Put.f at hh
 refine go (ts := [(4, none)]) (rm := [.own]) (pm := [.skip, .skip]) Tryz.func159 ?_
 intro Fn LW len cast toNat wrap add sub mul bin lt eq At set part app fz' rep nadd nmax ssize sext sget scat seq slt Wide Flat Ones Room r' post' hC hF hr hp
 cbv
 replace hh := bind_some hh
 obtain ⟨o1, hl1, hq1⟩ := hh
 refine loop_go4 hC eok mixed (spec_l3Put.l0 k p0 (⟨p1a, p1b, p1c⟩ : GOcc))
  (fun s12 => (⟨[(0, .ref (0, 0) 1 0 (len (qGOcc p0))), (3, .mptr (3, 0) 1 0 0), (5, iA s12), (1000000, .ref (0, 0) 1 0 (len (qGOcc p0)))], [((0, 0), .arr 1 3 (qGOcc p0)), ((3, 0), .box 1 [iA p1a, iA p1b, tA (qInt p1c)])]⟩ : St))
  (fun (x24 : Int) => (⟨[(0, .ref (0, 0) 1 0 (len (qGOcc p0))), (3, .mptr (3, 0) 1 0 0), (5, iA x24), (1000000, .ref (0, 0) 1 0 (len (qGOcc p0)))], [((0, 0), .arr 1 3 (qGOcc p0)), ((3, 0), .box 1 [iA p1a, iA p1b, tA (qInt p1c)])]⟩ : St)) (fun x => x) (.exit 0)
  (i0 := _) hl1 (fun _ => rfl) ?_ ?_ ?_
 ·
  rintro t0 e
  refine cov_of [((0, 0), (0, 0)), ((3, 0), (3, 0))] ?_
  cbv
  all_goals exact J1
 ·
  rintro x24 hx
  subst o1
  have hh := hq1
  cbv
  refine bcs (fun f37 => ?_) (fun f37 => ?_)
  ·
   replace hh := ifT hh f37
   try rw [f37]
   cbv
   replace hh := req_some hh
   obtain ⟨h38, hh⟩ := hh
   replace hh := req_some hh
   obtain ⟨h39, hh⟩ := hh
   refine ⟨Nb h38, Mb h39, ?_⟩
   replace hh := bind_some hh
   obtain ⟨⟨e40a, e40b, e40c⟩, h41, hh⟩ := hh
   try dsimp only at hh
   refine ⟨[iA e40a, iA e40b, tA (qInt e40c)], Gb h41, ?_⟩
   cbv
   replace hh := bind_some hh
   obtain ⟨x43, h42, hh⟩ := hh
   refine go_call hF (c_spec_l3Same hQ h42) ?_
   cbv
   refine bcs (fun f46 => ?_) (fun f46 => ?_)
   ·
    replace hh := ifT hh f46
    try rw [f46]
    cbv
    exact Eb
   ·
    replace hh := ifF hh f46
    try rw [f46]
    cbv
    replace hh := req_some hh
    obtain ⟨h47, hh⟩ := hh
    replace hh := req_some hh
    obtain ⟨h48, hh⟩ := hh
    replace hh := req_some hh
    obtain ⟨h49, hh⟩ := hh
    refine ⟨⟨Nb h47, Nb h48, Nb h49⟩, ?_⟩
    replace hh := req_some hh
    obtain ⟨h50, hh⟩ := hh
    refine ⟨⟨Ob, Ab, Ab⟩, ?_⟩
    refine ⟨⟨Ob, Wb h50⟩, ?_⟩
    replace hh := req_some hh
    obtain ⟨h51, hh⟩ := hh
    replace hh := req_some hh
    obtain ⟨h52, hh⟩ := hh
    replace hh := req_some hh
    obtain ⟨h53, hh⟩ := hh
    refine ⟨⟨Nb h51, Nb h52, Nb h53⟩, ?_⟩
    replace hh := bind_some hh
    obtain ⟨⟨x55a, x55b, x55c⟩, h54, hh⟩ := hh
    try dsimp only at hh
    have fc := FunW.frz (r' := .agg [iA x55a, iA x55b, tA (qInt x55c)]) (c_spec_l3Copy hQ h54) (by cases hQ; simp)
    try dsimp only at fc
    refine go_call hF fc ?_
    cbv
    replace hh := req_some hh
    obtain ⟨h57, hh⟩ := hh
    rw [if_pos (show (nadd 0 (toNat 0)) = 0 ∧ True from ⟨by cases hC; rfl, trivial⟩)]
    cbv
    refine ⟨⟨Ob, Ab⟩, ?_⟩
    refine ⟨⟨Ob, Wb h57⟩, ?_⟩
    replace hh := req_some hh
    obtain ⟨h58, hh⟩ := hh
    refine ⟨⟨Ob, Ab, Ab⟩, ?_⟩
    refine ⟨⟨Ob, Wb h58⟩, ?_⟩
    exact Eb
  ·
   replace hh := ifF hh f37
   try rw [f37]
   cbv
   replace hh := req_some hh
   obtain ⟨h59, hh⟩ := hh
   replace hh := req_some hh
   obtain ⟨h60, hh⟩ := hh
   replace hh := req_some hh
   obtain ⟨h61, hh⟩ := hh
   refine ⟨⟨Nb h59, Nb h60, Nb h61⟩, ?_⟩
   replace hh := req_some hh
   obtain ⟨h62, hh⟩ := hh
   refine ⟨⟨Ob, Ab, Ab⟩, ?_⟩
   refine ⟨⟨Ob, Wb h62⟩, ?_⟩
   replace hh := req_some hh
   obtain ⟨h63, hh⟩ := hh
   replace hh := req_some hh
   obtain ⟨h64, hh⟩ := hh
   replace hh := req_some hh
   obtain ⟨h65, hh⟩ := hh
   refine ⟨⟨Nb h63, Nb h64, Nb h65⟩, ?_⟩
   replace hh := bind_some hh
   obtain ⟨⟨x67a, x67b, x67c⟩, h66, hh⟩ := hh
   try dsimp only at hh
   have fc := FunW.frz (r' := .agg [iA x67a, iA x67b, tA (qInt x67c)]) (c_spec_l3Copy hQ h66) (by cases hQ; simp)
   try dsimp only at fc
   refine go_call hF fc ?_
   cbv
   replace hh := req_some hh
   obtain ⟨h69, hh⟩ := hh
   rw [if_pos (show (nadd 0 (toNat 0)) = 0 ∧ True from ⟨by cases hC; rfl, trivial⟩)]
   cbv
   refine ⟨⟨Ob, Ab⟩, ?_⟩
   refine ⟨⟨Ob, Wb h69⟩, ?_⟩
   replace hh := req_some hh
   obtain ⟨h70, hh⟩ := hh
   refine ⟨⟨Ob, Ab, Ab⟩, ?_⟩
   refine ⟨⟨Ob, Wb h70⟩, ?_⟩
   exact Eb
 ·
  rintro n s12 N1 D1 hh hN1 hD1 hQ1
  unfold spec_l3Put.l0 at hh
  cbv
  refine bcs (fun f26 => ?_) (fun f26 => ?_)
  ·
   replace hh := ifT hh f26
   try rw [f26]
   cbv
   replace hh := req_some hh
   obtain ⟨h27, hh⟩ := hh
   replace hh := req_some hh
   obtain ⟨h28, hh⟩ := hh
   refine ⟨Nb h27, Mb h28, ?_⟩
   replace hh := bind_some hh
   obtain ⟨⟨e29a, e29b, e29c⟩, h30, hh⟩ := hh
   try dsimp only at hh
   refine ⟨[iA e29a, iA e29b, tA (qInt e29c)], Gb h30, ?_⟩
   cbv
   replace hh := bind_some hh
   obtain ⟨x32, h31, hh⟩ := hh
   refine go_call hF (c_spec_OccLess hQ h31) ?_
   cbv
   refine bcs (fun f35 => ?_) (fun f35 => ?_)
   ·
    replace hh := ifT hh f35
    try rw [f35]
    cbv
    refine hN1 _ _ hh fun t0 e => ?_
    refine cov_of [((0, 0), (0, 0)), ((3, 0), (3, 0))] ?_
    cbv
    all_goals exact J1
   ·
    replace hh := ifF hh f35
    try rw [f35]
    cbv
    refine hD1 _ _ hh fun t0 e => ?_
    refine cov_of [((0, 0), (0, 0)), ((3, 0), (3, 0))] ?_
    cbv
    all_goals exact J1
  ·
   replace hh := ifF hh f26
   try rw [f26]
   cbv
   refine hD1 _ _ hh fun t0 e => ?_
   refine cov_of [((0, 0), (0, 0)), ((3, 0), (3, 0))] ?_
   cbv
   all_goals exact J1

theorem c_spec_l4Merge {k : Nat} {p0 : List GOcc} {p1 : List GOcc} {r : List GOcc} (hh : spec_l4Merge.f k p0 p1 = some r) : FunW P 155 [oA 3 (qGOcc p0), tA (qGOcc p1)] [hA, hA] (oA 3 (qGOcc r)) := by
 unfold spec_l4Merge.f at hh
 refine go (ts := [(4, none)]) (rm := [.own]) (pm := [.skip, .skip]) Tryz.func155 ?_
 intro Fn LW len cast toNat wrap add sub mul bin lt eq At set part app fz' rep nadd nmax ssize sext sget scat seq slt Wide Flat Ones Room r' post' hC hF hr hp
 cbv
 replace hh := bind_some hh
 obtain ⟨o1, hl1, hq1⟩ := hh
 refine loop_go4 hC eok mixed (fun n (i : (List GOcc) × Int) => spec_l4Merge.l0 k p1 n i.1 i.2)
  (fun ⟨s9, s10⟩ => (⟨[(0, .ref (0, 0) 1 0 (len (qGOcc s9))), (1, tA (qGOcc p1)), (5, iA s10)], [((0, 0), .arr 1 3 (qGOcc s9))]⟩ : St))
  (fun (x19 : List GOcc) => (⟨[(0, .ref (0, 0) 1 0 (len (qGOcc x19)))], [((0, 0), .arr 1 3 (qGOcc x19))]⟩ : St)) (fun x => x) (.exit 0)
  (i0 := (_, _)) hl1 (fun _ => rfl) ?_ ?_ ?_
 ·
  rintro ⟨t0, t1⟩ e
  refine cov_of [((0, 0), (0, 0))] ?_
  cbv
  all_goals exact J2
 ·
  rintro x19 hx
  subst o1
  have hh := hq1
  cbv
  exact Eb
 ·
  rintro n ⟨s9, s10⟩ N1 D1 hh hN1 hD1 hQ1
  dsimp only at hh
  unfold spec_l4Merge.l0 at hh
  cbv
  refine bcs (fun f21 => ?_) (fun f21 => ?_)
  ·
   replace hh := ifT hh f21
   try rw [f21]
   cbv
   replace hh := req_some hh
   obtain ⟨h22, hh⟩ := hh
   replace hh := bind_some hh
   obtain ⟨⟨e23a, e23b, e23c⟩, h24, hh⟩ := hh
   try dsimp only at hh
   refine ⟨[iA e23a, iA e23b, tA (qInt e23c)], Nb h22, Gb h24, ?_⟩
   cbv
   replace hh := bind_some hh
   obtain ⟨x26, h25, hh⟩ := hh
   refine go_call hF (c_spec_l3Put hQ h25) ?_
   cbv
   refine hN1 (_, _) _ hh fun ⟨t0, t1⟩ e => ?_
   refine cov_of [((0, 0), (17, 0))] ?_
   cbv
   all_goals exact J2
  ·
   replace hh := ifF hh f21
   try rw [f21]
   cbv
   refine hD1 _ _ hh fun t0 e => ?_
   refine cov_of [((0, 0), (0, 0))] ?_
   cbv
   all_goals exact J1

theorem c_spec_l4Told {k : Nat} {p0 : List GOcc} {r : (List GOcc) × Bool} (hh : spec_l4Told.f k p0 = some r) : FunW P 154 [tA (qGOcc p0)] [hA] (.tup [oA 3 (qGOccO r.1), bA r.2]) := by
 unfold spec_l4Told.f at hh
 refine go (ts := [(2, none), (3, none)]) (rm := [.own, .own]) (pm := [.skip]) Tryz.func154 ?_
 intro Fn LW len cast toNat wrap add sub mul bin lt eq At set part app fz' rep nadd nmax ssize sext sget scat seq slt Wide Flat Ones Room r' post' hC hF hr hp
 cbv
 refine bcs (fun f2 => ?_) (fun f2 => ?_)
 ·
  replace hh := ifT hh f2
  try rw [f2]
  cbv
  exact Eb
 ·
  replace hh := ifF hh f2
  try rw [f2]
  cbv
  replace hh := bind_some hh
  obtain ⟨x4, h3, hh⟩ := hh
  refine go_call hF (c_spec_l3List hQ h3) ?_
  cbv
  exact Eb
theorem c_spec_l4Told_L0S {k : Nat} {p0 : List GOcc} {r : (List GOcc) × Bool} (hh : spec_l4Told.f k p0 = some r) : FunW P 154 [oA 3 (qGOcc p0)] [oA 3 (qGOcc p0)] (.tup [oA 3 (qGOccO r.1), bA r.2]) := by
  cases hQ; exact (c_spec_l4Told .mk hh).lend (by simp [Vm.ownd, owndL, -r_GOccO_map, r_GOccO_ownd]) (.lend (congrArg A.tree (r_GOcc_fz _).symm) .nil)

theorem c_spec_OrOf {k : Nat} {p0 : List GOcc} {p1 : List GOcc} {r : (List GOcc) × Bool} (hh : spec_OrOf.f k p0 p1 = some r) : FunW P 128 [tA (qGOcc p0), tA (qGOcc p1)] [hA, hA] (.tup [oA 3 (qGOccO r.1), bA r.2]) := by
 unfold spec_OrOf.f at hh
 refine go (ts := [(4, none), (5, none)]) (rm := [.own, .own]) (pm := [.skip, .skip]) Tryz.func128 ?_
 intro Fn LW len cast toNat wrap add sub mul bin lt eq At set part app fz' rep nadd nmax ssize sext sget scat seq slt Wide Flat Ones Room r' post' hC hF hr hp
 cbv
 replace hh := bind_some hh
 obtain ⟨x2, h1, hh⟩ := hh
 refine go_call hF (c_spec_OccsOk hQ h1) ?_
 cbv
 replace hh := if_or hh
 rcases hh with ⟨b4, hh⟩ | ⟨b4, hh⟩
 ·
  have f5 : x2 = true := Tb b4
  have g := f5; cbv at g; try rw [f5]
  try rw [g]
  cbv
  replace hh := bind_some hh
  obtain ⟨x7, h6, hh⟩ := hh
  refine go_call hF (c_spec_OccsOk hQ h6) ?_
  cbv
  replace hh := if_or hh
  rcases hh with ⟨b9, hh⟩ | ⟨b9, hh⟩
  ·
   have f10 : x7 = true := Tb b9
   have g := f10; cbv at g; try rw [f10]
   try rw [g]
   cbv
   replace hh := bind_some hh
   obtain ⟨x12, h11, hh⟩ := hh
   refine go_call hF (FunW.frzIn (r' := oA 3 (qGOcc x12)) (c_spec_l3List hQ h11) (by cases hQ; simp)) ?_
   cbv
   replace hh := bind_some hh
   obtain ⟨x15, h14, hh⟩ := hh
   refine go_call hF (c_spec_l4Merge hQ h14) ?_
   cbv
   replace hh := bind_some hh
   obtain ⟨⟨x18_0, x18_1⟩, h17, hh⟩ := hh
   try dsimp only at hh
   have fc := c_spec_l4Told_L0S hQ h17
   try dsimp only at fc
   refine go_call hF fc ?_
   cbv
   exact Eb
  ·
   have f10 : x7 = false := Fb b9
   have g := f10; cbv at g; try rw [f10]
   try rw [g]
   cbv
   exact Eb
 ·
  have f5 : x2 = false := Fb b4
  have g := f5; cbv at g; try rw [f5]
  try rw [g]
  cbv
  exact Eb

theorem c_spec_l4Times {k : Nat} {p0 : List (List GOcc)} {r : List Int} (hh : spec_l4Times.f k p0 = some r) : FunW P 187 [tA (qLGOcc p0)] [hA] (oA 1 (qInt r)) := by
 unfold spec_l4Times.f at hh
 refine go (ts := [(2, none)]) (rm := [.own]) (pm := [.skip]) Tryz.func187 ?_
 intro Fn LW len cast toNat wrap add sub mul bin lt eq At set part app fz' rep nadd nmax ssize sext sget scat seq slt Wide Flat Ones Room r' post' hC hF hr hp
 cbv
 replace hh := bind_some hh
 obtain ⟨o1, hl1, hq1⟩ := hh
 refine loop_go4 hC eok mixed (fun n (i : (List Int) × Int) => spec_l4Times.l8 k p0 n i.1 i.2)
  (fun ⟨s139, s140⟩ => (⟨[(0, tA (qLGOcc p0)), (3, .ref (8, 0) 1 0 (len (qInt s139))), (4, iA s140)], [((8, 0), .arr 1 1 (qInt s139))]⟩ : St))
  (fun (x279 : List Int) => (⟨[(3, .ref (8, 0) 1 0 (len (qInt x279)))], [((8, 0), .arr 1 1 (qInt x279))]⟩ : St)) (fun x => x) (.exit 0)
  (i0 := (_, _)) hl1 (fun _ => rfl) ?_ ?_ ?_
 ·
  rintro ⟨t0, t1⟩ e
  refine cov_of [((8, 0), (8, 0))] ?_
  cbv
  all_goals exact J2
 ·
  rintro x279 hx
  subst o1
  have hh := hq1
  cbv
  exact Eb
 ·
  rintro n ⟨s139, s140⟩ N1 D1 hh hN1 hD1 hQ1
  dsimp only at hh
  unfold spec_l4Times.l8 at hh
  cbv
  replace hh := if_or hh
  rcases hh with ⟨b280, hh⟩ | ⟨b280, hh⟩
  ·
   have f281 : (lt 2000 s140) = true := Tb b280
   have g := f281; cbv at g; try rw [f281]
   try rw [g]
   cbv
   refine hD1 _ _ hh fun t0 e => ?_
   refine cov_of [((8, 0), (8, 0))] ?_
   cbv
   all_goals exact J1
  ·
   have f281 : (lt 2000 s140) = false := Fb b280
   have g := f281; cbv at g; try rw [f281]
   try rw [g]
   cbv
   replace hh := bind_some hh
   obtain ⟨o2, hl2, hq2⟩ := hh
   refine loop_go4 hC eok mixed (fun n (i : Bool × Int) => spec_l4Times.l11 k p0 s140 n i.1 i.2)
    (fun ⟨s324, s325⟩ => (⟨[(0, tA (qLGOcc p0)), (3, .ref (8, 0) 1 0 (len (qInt s139))), (4, iA s140), (5, bA s324), (6, iA s325)], [((8, 0), .arr 1 1 (qInt s139))]⟩ : St))
    (fun (x370 : Bool) => (⟨[(0, tA (qLGOcc p0)), (3, .ref (8, 0) 1 0 (len (qInt s139))), (4, iA s140), (5, bA x370)], [((8, 0), .arr 1 1 (qInt s139))]⟩ : St)) (fun x => x) (.exit 2)
    (i0 := (_, _)) hl2 (fun _ => rfl) ?_ ?_ ?_
   ·
    rintro ⟨t0, t1⟩ e
    refine cov_of [((8, 0), (8, 0))] ?_
    cbv
    all_goals exact J2
   ·
    rintro x370 hx
    subst o2
    have hh := hq2
    cbv
    refine bcs (fun f416 => ?_) (fun f416 => ?_)
    ·
     replace hh := ifT hh f416
     try rw [f416]
     cbv
     replace hh := req_some hh
     obtain ⟨h417, hh⟩ := hh
     refine ⟨⟨Ob, Ab⟩, ?_⟩
     refine ⟨⟨Ob, Wb h417⟩, ?_⟩
     refine hN1 (_, _) _ hh fun ⟨t0, t1⟩ e => ?_
     refine cov_of [((8, 0), (45, 0))] ?_
     cbv
     all_goals exact J2
    ·
     replace hh := ifF hh f416
     try rw [f416]
     cbv
     refine hN1 (_, _) _ hh fun ⟨t0, t1⟩ e => ?_
     refine cov_of [((8, 0), (8, 0))] ?_
     cbv
     all_goals exact J2
   ·
    rintro n ⟨s324, s325⟩ N2 D2 hh hN2 hD2 hQ2
    dsimp only at hh
    unfold spec_l4Times.l11 at hh
    cbv
    refine bcs (fun f372 => ?_) (fun f372 => ?_)
    ·
     replace hh := ifT hh f372
     try rw [f372]
     cbv
     replace hh := bind_some hh
     obtain ⟨o3, hl3, hq3⟩ := hh
     refine loop_go4 hC eok mixed (fun n (i : Bool × Int) => spec_l4Times.l12 k p0 s140 s325 n i.1 i.2)
      (fun ⟨s386, s387⟩ => (⟨[(0, tA (qLGOcc p0)), (3, .ref (8, 0) 1 0 (len (qInt s139))), (4, iA s140), (5, bA s386), (6, iA s325), (7, iA s387)], [((8, 0), .arr 1 1 (qInt s139))]⟩ : St))
      (fun (x401 : Bool) => (⟨[(0, tA (qLGOcc p0)), (3, .ref (8, 0) 1 0 (len (qInt s139))), (4, iA s140), (5, bA x401), (6, iA s325)], [((8, 0), .arr 1 1 (qInt s139))]⟩ : St)) (fun x => x) (.exit 4)
      (i0 := (_, _)) hl3 (fun _ => rfl) ?_ ?_ ?_
     ·
      rintro ⟨t0, t1⟩ e
      refine cov_of [((8, 0), (8, 0))] ?_
      cbv
      all_goals exact J2
     ·
      rintro x401 hx
      subst o3
      have hh := hq3
      cbv
      refine hN2 (_, _) _ hh fun ⟨t0, t1⟩ e => ?_
      refine cov_of [((8, 0), (8, 0))] ?_
      cbv
      all_goals exact J2
     ·
      rintro n ⟨s386, s387⟩ N3 D3 hh hN3 hD3 hQ3
      dsimp only at hh
      unfold spec_l4Times.l12 at hh
      cbv
      replace hh := req_some hh
      obtain ⟨h402, hh⟩ := hh
      replace hh := bind_some hh
      obtain ⟨e403, h404, hh⟩ := hh
      refine ⟨[tA (qGOcc e403)], Nb h402, Gb h404, ?_⟩
      cbv
      refine bcs (fun f406 => ?_) (fun f406 => ?_)
      ·
       replace hh := ifT hh f406
       try rw [f406]
       cbv
       refine bcs (fun f408 => ?_) (fun f408 => ?_)
       ·
        replace hh := ifT hh f408
        try rw [f408]
        cbv
        refine hN3 (_, _) _ hh fun ⟨t0, t1⟩ e => ?_
        refine cov_of [((8, 0), (8, 0))] ?_
        cbv
        all_goals exact J2
       ·
        replace hh := ifF hh f408
        try rw [f408]
        cbv
        replace hh := req_some hh
        obtain ⟨h409, hh⟩ := hh
        replace hh := bind_some hh
        obtain ⟨e410, h411, hh⟩ := hh
        refine ⟨[tA (qGOcc e410)], Nb h409, Gb h411, ?_⟩
        cbv
        replace hh := req_some hh
        obtain ⟨h412, hh⟩ := hh
        replace hh := bind_some hh
        obtain ⟨⟨e413a, e413b, e413c⟩, h414, hh⟩ := hh
        try dsimp only at hh
        refine ⟨[iA e413a, iA e413b, tA (qInt e413c)], Nb h412, Gb h414, ?_⟩
        cbv
        refine hN3 (_, _) _ hh fun ⟨t0, t1⟩ e => ?_
        refine cov_of [((8, 0), (8, 0))] ?_
        cbv
        all_goals exact J2
      ·
       replace hh := ifF hh f406
       try rw [f406]
       cbv
       refine hD3 _ _ hh fun t0 e => ?_
       refine cov_of [((8, 0), (8, 0))] ?_
       cbv
       all_goals exact J1
    ·
     replace hh := ifF hh f372
     try rw [f372]
     cbv
     refine hD2 _ _ hh fun t0 e => ?_
     refine cov_of [((8, 0), (8, 0))] ?_
     cbv
     all_goals exact J1
theorem c_spec_l4Times_L0S {k : Nat} {p0 : List (List GOcc)} {r : List Int} (hh : spec_l4Times.f k p0 = some r) : FunW P 187 [oA 1 (qLGOcc p0)] [oA 1 (qLGOcc p0)] (oA 1 (qInt r)) := by
  cases hQ; exact (c_spec_l4Times .mk hh).lend (r_Int_ownd _) (.lend (congrArg A.tree (r_LGOcc_fz _).symm) .nil)

theorem c_spec_l4At {k : Nat} {p0 : List GOcc} {p1 : Int} {r : List GOcc} (hh : spec_l4At.f k p0 p1 = some r) : FunW P 108 [tA (qGOcc p0), iA p1] [hA, hA] (oA 3 (qGOcc r)) := by
 unfold spec_l4At.f at hh
 refine go (ts := [(4, none)]) (rm := [.own]) (pm := [.skip, .skip]) Tryz.func108 ?_
 intro Fn LW len cast toNat wrap add sub mul bin lt eq At set part app fz' rep nadd nmax ssize sext sget scat seq slt Wide Flat Ones Room r' post' hC hF hr hp
 cbv
 replace hh := bind_some hh
 obtain ⟨o1, hl1, hq1⟩ := hh
 refine loop_go4 hC eok mixed (fun n (i : (List GOcc) × Int) => spec_l4At.l0 k p0 p1 n i.1 i.2)
  (fun ⟨s12, s13⟩ => (⟨[(0, tA (qGOcc p0)), (1, iA p1), (5, .ref (7, 0) 1 0 (len (qGOcc s12))), (6, iA s13)], [((7, 0), .arr 1 3 (qGOcc s12))]⟩ : St))
  (fun (x25 : List GOcc) => (⟨[(5, .ref (7, 0) 1 0 (len (qGOcc x25)))], [((7, 0), .arr 1 3 (qGOcc x25))]⟩ : St)) (fun x => x) (.exit 0)
  (i0 := (_, _)) hl1 (fun _ => rfl) ?_ ?_ ?_
 ·
  rintro ⟨t0, t1⟩ e
  refine cov_of [((7, 0), (7, 0))] ?_
  cbv
  all_goals exact J2
 ·
  rintro x25 hx
  subst o1
  have hh := hq1
  cbv
  exact Eb
 ·
  rintro n ⟨s12, s13⟩ N1 D1 hh hN1 hD1 hQ1
  dsimp only at hh
  unfold spec_l4At.l0 at hh
  cbv
  refine bcs (fun f27 => ?_) (fun f27 => ?_)
  ·
   replace hh := ifT hh f27
   try rw [f27]
   cbv
   replace hh := req_some hh
   obtain ⟨h28, hh⟩ := hh
   replace hh := bind_some hh
   obtain ⟨⟨e29a, e29b, e29c⟩, h30, hh⟩ := hh
   try dsimp only at hh
   refine ⟨[iA e29a, iA e29b, tA (qInt e29c)], Nb h28, Gb h30, ?_⟩
   cbv
   refine bcs (fun f32 => ?_) (fun f32 => ?_)
   ·
    replace hh := ifT hh f32
    try rw [f32]
    cbv
    replace hh := req_some hh
    obtain ⟨h33, hh⟩ := hh
    replace hh := bind_some hh
    obtain ⟨⟨e34a, e34b, e34c⟩, h35, hh⟩ := hh
    try dsimp only at hh
    refine ⟨[iA e34a, iA e34b, tA (qInt e34c)], Nb h33, Gb h35, ?_⟩
    cbv
    replace hh := req_some hh
    obtain ⟨h36, hh⟩ := hh
    refine ⟨⟨Ob, Ab⟩, ?_⟩
    refine ⟨⟨Ob, Wb h36⟩, ?_⟩
    refine hN1 (_, _) _ hh fun ⟨t0, t1⟩ e => ?_
    refine cov_of [((7, 0), (27, 0))] ?_
    cbv
    all_goals exact J2
   ·
    replace hh := ifF hh f32
    try rw [f32]
    cbv
    refine hN1 (_, _) _ hh fun ⟨t0, t1⟩ e => ?_
    refine cov_of [((7, 0), (7, 0))] ?_
    cbv
    all_goals exact J2
  ·
   replace hh := ifF hh f27
   try rw [f27]
   cbv
   refine hD1 _ _ hh fun t0 e => ?_
   refine cov_of [((7, 0), (7, 0))] ?_
   cbv
   all_goals exact J1

end Go.Proofs.YtdhlbpgjcfdofaaGreat
