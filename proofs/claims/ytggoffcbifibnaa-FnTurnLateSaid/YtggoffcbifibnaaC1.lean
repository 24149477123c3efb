/- The functions of this program do what the plain ones do. -/
import Derived.Test.YtggoffcbifibnaaC0
namespace Go.Proofs.Ytggoffcbifibnaa
open Go Go.Vm
set_option linter.unusedVariables false
set_option maxHeartbeats 4000000
variable {qIu8 : List Int → Vm.Rows} {qGEv : List GEv → Vm.Rows} {qInt : List Int → Vm.Rows} {qGOcc : List GOcc → Vm.Rows} {qGOccO : List GOcc → Vm.Rows} (hQ : EQ qIu8 qGEv qInt qGOcc qGOccO)
include hQ
theorem c_impl_EvsSame {k : Nat} {p0 : List GEv} {p1 : List GEv} {r : Bool} (hh : impl_EvsSame.f k p0 p1 = some r) : FunW P 8 [tA (qGEv p0), tA (qGEv p1)] [hA, hA] (bA r) := by
 unfold impl_EvsSame.f at hh
 refine go (ts := [(4, none)]) (rm := [.own]) (pm := [.skip, .skip]) Try.func8 ?_
 intro Fn LW len cast toNat wrap add sub mul bin lt eq At set part app fz' rep nadd nmax ssize sext sget scat seq slt Wide Flat Ones Room r' post' hC hF hr hp
 cbv
 obtain ⟨x2, h1, hh⟩ := bind_some hh
 refine go_call hF (c_slices_Equal hQ h1) ?_
 cbv
 exact Eb
theorem c_impl_EvsSame_L0_1 {k : Nat} {p0 : List GEv} {p1 : List GEv} {r : Bool} (hh : impl_EvsSame.f k p0 p1 = some r) : FunW P 8 [oA 3 (qGEv p0), oA 3 (qGEv p1)] [oA 3 (qGEv p0), oA 3 (qGEv p1)] (bA r) := by
  cases hQ; exact (c_impl_EvsSame .mk hh).lend (rfl) (.lend (congrArg A.tree (r_GEv_fz _).symm) (.lend (congrArg A.tree (r_GEv_fz _).symm) .nil))

theorem c_spec_OccOk {k : Nat} {p0 : GOcc} {r : Bool} (hh : spec_OccOk.f k p0 = some r) : FunW P 41 [.agg [iA p0.From, iA p0.To, tA (qInt p0.Ids)]] [hA] (bA r) := by
 obtain ⟨p0a, p0b, p0c⟩ := p0
 unfold spec_OccOk.f at hh
 refine go (ts := [(2, none)]) (rm := [.own]) (pm := [.skip]) Try.func41 ?_
 intro Fn LW len cast toNat wrap add sub mul bin lt eq At set part app fz' rep nadd nmax ssize sext sget scat seq slt Wide Flat Ones Room r' post' hC hF hr hp
 cbv
 refine bcs (fun f2 => ?_) (fun f2 => ?_)
 ·
  replace hh := ifT hh f2
  try rw [f2]
  cbv
  exact Eb
 ·
  replace hh := ifF hh f2
  try rw [f2]
  cbv
  refine bcs (fun f4 => ?_) (fun f4 => ?_)
  ·
   replace hh := ifT hh f4
   try rw [f4]
   cbv
   exact Eb
  ·
   replace hh := ifF hh f4
   try rw [f4]
   cbv
   refine bcs (fun f6 => ?_) (fun f6 => ?_)
   ·
    replace hh := ifT hh f6
    try rw [f6]
    cbv
    exact Eb
   ·
    replace hh := ifF hh f6
    try rw [f6]
    cbv
    refine bcs (fun f8 => ?_) (fun f8 => ?_)
    ·
     replace hh := ifT hh f8
     try rw [f8]
     cbv
     exact Eb
    ·
     replace hh := ifF hh f8
     try rw [f8]
     cbv
     refine bcs (fun f10 => ?_) (fun f10 => ?_)
     ·
      replace hh := ifT hh f10
      try rw [f10]
      cbv
      exact Eb
     ·
      replace hh := ifF hh f10
      try rw [f10]
      cbv
      obtain ⟨o1, hl1, hq1⟩ := bind_some hh
      refine loop_go4 hC eok mixed (spec_OccOk.l0 k (⟨p0a, p0b, p0c⟩ : GOcc))
       (fun s33 => (⟨[(1, .mptr (1, 0) 1 0 0), (3, iA s33)], [((1, 0), .box 1 [iA p0a, iA p0b, tA (qInt p0c)])]⟩ : St))
       (fun (_ : Unit) => (⟨[], []⟩ : St)) .ok (.exit 0)
       (i0 := _) hl1 (fun _ => rfl) ?_ ?_ ?_
      ·
       rintro t0 e
       refine cov_of [((1, 0), (1, 0))] ?_
       cbv
       all_goals exact J1
      ·
       rintro _ hx
       subst o1
       have hh := hq1
       cbv
       exact Eb
      ·
       rintro n s33 N1 D1 hh hN1 hD1 hQ1
       unfold spec_OccOk.l0 at hh
       cbv
       refine bcs (fun f57 => ?_) (fun f57 => ?_)
       ·
        replace hh := ifT hh f57
        try rw [f57]
        cbv
        obtain ⟨h58, hh⟩ := req_some hh
        obtain ⟨e59, h60, hh⟩ := bind_some hh
        refine ⟨[iA e59], Nb h58, Gb h60, ?_⟩
        cbv
        refine bcs (fun f62 => ?_) (fun f62 => ?_)
        ·
         replace hh := ifT hh f62
         try rw [f62]
         cbv
         cases hh
         have hh : some _ = some _ := hq1
         refine hQ1 _ _ ?_
         cbv
         exact Eb
        ·
         replace hh := ifF hh f62
         try rw [f62]
         cbv
         obtain ⟨h63, hh⟩ := req_some hh
         obtain ⟨e64, h65, hh⟩ := bind_some hh
         refine ⟨[iA e64], Nb h63, Gb h65, ?_⟩
         cbv
         rcases if_or hh with ⟨b66, hh⟩ | ⟨b66, hh⟩
         ·
          have f67 : (lt e64 24) = true := Tb b66
          have g := f67; cbv at g; try rw [f67]
          try rw [g]
          cbv
          refine bcs (fun f69 => ?_) (fun f69 => ?_)
          ·
           replace hh := ifT hh f69
           try rw [f69]
           cbv
           obtain ⟨h70, hh⟩ := req_some hh
           obtain ⟨e71, h72, hh⟩ := bind_some hh
           refine ⟨[iA e71], Nb h70, Gb h72, ?_⟩
           cbv
           obtain ⟨h73, hh⟩ := req_some hh
           obtain ⟨e74, h75, hh⟩ := bind_some hh
           refine ⟨[iA e74], Nb h73, Gb h75, ?_⟩
           cbv
           rcases if_or hh with ⟨b76, hh⟩ | ⟨b76, hh⟩
           ·
            have f77 : (lt e74 e71) = true := Tb b76
            have g := f77; cbv at g; try rw [f77]
            try rw [g]
            cbv
            refine hN1 _ _ hh fun t0 e => ?_
            refine cov_of [((1, 0), (1, 0))] ?_
            cbv
            all_goals exact J1
           ·
            have f77 : (lt e74 e71) = false := Fb b76
            have g := f77; cbv at g; try rw [f77]
            try rw [g]
            cbv
            cases hh
            have hh : some _ = some _ := hq1
            refine hQ1 _ _ ?_
            cbv
            exact Eb
          ·
           replace hh := ifF hh f69
           try rw [f69]
           cbv
           refine hN1 _ _ hh fun t0 e => ?_
           refine cov_of [((1, 0), (1, 0))] ?_
           cbv
           all_goals exact J1
         ·
          have f67 : (lt e64 24) = false := Fb b66
          have g := f67; cbv at g; try rw [f67]
          try rw [g]
          cbv
          cases hh
          have hh : some _ = some _ := hq1
          refine hQ1 _ _ ?_
          cbv
          exact Eb
       ·
        replace hh := ifF hh f57
        try rw [f57]
        cbv
        refine hD1 () _ hh fun _ e => ?_
        refine cov_of [] ?_
        cbv
        all_goals exact J0

theorem c_spec_OccsOk {k : Nat} {p0 : List GOcc} {r : Bool} (hh : spec_OccsOk.f k p0 = some r) : FunW P 28 [tA (qGOcc p0)] [hA] (bA r) := by
 unfold spec_OccsOk.f at hh
 refine go (ts := [(2, none)]) (rm := [.own]) (pm := [.skip]) Try.func28 ?_
 intro Fn LW len cast toNat wrap add sub mul bin lt eq At set part app fz' rep nadd nmax ssize sext sget scat seq slt Wide Flat Ones Room r' post' hC hF hr hp
 cbv
 refine bcs (fun f2 => ?_) (fun f2 => ?_)
 ·
  replace hh := ifT hh f2
  try rw [f2]
  cbv
  exact Eb
 ·
  replace hh := ifF hh f2
  try rw [f2]
  cbv
  obtain ⟨o1, hl1, hq1⟩ := bind_some hh
  refine loop_go4 hC eok mixed (spec_OccsOk.l0 k p0)
   (fun s26 => (⟨[(0, tA (qGOcc p0)), (3, iA s26)], []⟩ : St))
   (fun (_ : Unit) => (⟨[], []⟩ : St)) .ok (.exit 0)
   (i0 := _) hl1 (fun _ => rfl) ?_ ?_ ?_
  ·
   rintro t0 e
   refine cov_of [] ?_
   cbv
   all_goals exact J1
  ·
   rintro _ hx
   subst o1
   have hh := hq1
   cbv
   exact Eb
  ·
   rintro n s26 N1 D1 hh hN1 hD1 hQ1
   unfold spec_OccsOk.l0 at hh
   cbv
   refine bcs (fun f51 => ?_) (fun f51 => ?_)
   ·
    replace hh := ifT hh f51
    try rw [f51]
    cbv
    obtain ⟨h52, hh⟩ := req_some hh
    obtain ⟨⟨e53a, e53b, e53c⟩, h54, hh⟩ := bind_some hh
    try dsimp only at hh
    refine ⟨[iA e53a, iA e53b, tA (qInt e53c)], Nb h52, Gb h54, ?_⟩
    cbv
    obtain ⟨x56, h55, hh⟩ := bind_some hh
    refine go_call hF (c_spec_OccOk hQ h55) ?_
    cbv
    rcases if_or hh with ⟨b58, hh⟩ | ⟨b58, hh⟩
    ·
     have f59 : x56 = true := Tb b58
     have g := f59; cbv at g; try rw [f59]
     try rw [g]
     cbv
     refine bcs (fun f61 => ?_) (fun f61 => ?_)
     ·
      replace hh := ifT hh f61
      try rw [f61]
      cbv
      obtain ⟨h62, hh⟩ := req_some hh
      obtain ⟨⟨e63a, e63b, e63c⟩, h64, hh⟩ := bind_some hh
      try dsimp only at hh
      refine ⟨[iA e63a, iA e63b, tA (qInt e63c)], Nb h62, Gb h64, ?_⟩
      cbv
      obtain ⟨h65, hh⟩ := req_some hh
      obtain ⟨⟨e66a, e66b, e66c⟩, h67, hh⟩ := bind_some hh
      try dsimp only at hh
      refine ⟨[iA e66a, iA e66b, tA (qInt e66c)], Nb h65, Gb h67, ?_⟩
      cbv
      obtain ⟨x69, h68, hh⟩ := bind_some hh
      refine go_call hF (c_spec_OccLess hQ h68) ?_
      cbv
      rcases if_or hh with ⟨b71, hh⟩ | ⟨b71, hh⟩
      ·
       have f72 : x69 = true := Tb b71
       have g := f72; cbv at g; try rw [f72]
       try rw [g]
       cbv
       refine hN1 _ _ hh fun t0 e => ?_
       refine cov_of [] ?_
       cbv
       all_goals exact J1
      ·
       have f72 : x69 = false := Fb b71
       have g := f72; cbv at g; try rw [f72]
       try rw [g]
       cbv
       cases hh
       have hh : some _ = some _ := hq1
       refine hQ1 _ _ ?_
       cbv
       exact Eb
     ·
      replace hh := ifF hh f61
      try rw [f61]
      cbv
      refine hN1 _ _ hh fun t0 e => ?_
      refine cov_of [] ?_
      cbv
      all_goals exact J1
    ·
     have f59 : x56 = false := Fb b58
     have g := f59; cbv at g; try rw [f59]
     try rw [g]
     cbv
     cases hh
     have hh : some _ = some _ := hq1
     refine hQ1 _ _ ?_
     cbv
     exact Eb
   ·
    replace hh := ifF hh f51
    try rw [f51]
    cbv
    refine hD1 () _ hh fun _ e => ?_
    refine cov_of [] ?_
    cbv
    all_goals exact J0

theorem c_spec_TurnOccs {k : Nat} {p0 : List GOcc} {p1 : Int} {r : List GOcc} (hh : spec_TurnOccs.f k p0 p1 = some r) : FunW P 11 [tA (qGOcc p0), iA p1] [hA, hA] (oA 3 (qGOccO r)) := by
 unfold spec_TurnOccs.f at hh
 refine go (ts := [(4, none)]) (rm := [.own]) (pm := [.skip, .skip]) Try.func11 ?_
 intro Fn LW len cast toNat wrap add sub mul bin lt eq At set part app fz' rep nadd nmax ssize sext sget scat seq slt Wide Flat Ones Room r' post' hC hF hr hp
 cbv
 obtain ⟨x2, h1, hh⟩ := bind_some hh
 refine go_call hF (c_spec_OccsOk hQ h1) ?_
 cbv
 rcases if_or hh with ⟨b4, hh⟩ | ⟨b4, hh⟩
 ·
  have f5 : x2 = true := Tb b4
  have g := f5; cbv at g; try rw [f5]
  try rw [g]
  cbv
  refine bcs (fun f7 => ?_) (fun f7 => ?_)
  ·
   replace hh := ifT hh f7
   try rw [f7]
   cbv
   exact Eb
  ·
   replace hh := ifF hh f7
   try rw [f7]
   cbv
   refine bcs (fun f9 => ?_) (fun f9 => ?_)
   ·
    replace hh := ifT hh f9
    try rw [f9]
    cbv
    exact Eb
   ·
    replace hh := ifF hh f9
    try rw [f9]
    cbv
    obtain ⟨o1, hl1, hq1⟩ := bind_some hh
    refine loop_go4 hC eok mixed (fun n (i : (List GOcc) × Int) => spec_TurnOccs.l0 k p0 p1 n i.1 i.2)
     (fun ⟨s19, s20⟩ => (⟨[(0, tA (qGOcc p0)), (1, iA p1), (5, .ref (8, 0) 1 0 (len (qGOccO s19))), (6, iA s20)], [((8, 0), .arr 1 3 (qGOccO s19))]⟩ : St))
     (fun (x30 : List GOcc) => (⟨[(5, .ref (8, 0) 1 0 (len (qGOccO x30)))], [((8, 0), .arr 1 3 (qGOccO x30))]⟩ : St)) (fun x => x) (.exit 0)
     (i0 := (_, _)) hl1 (fun _ => rfl) ?_ ?_ ?_
    ·
     rintro ⟨t0, t1⟩ e
     refine cov_of [((8, 0), (8, 0))] ?_
     cbv
     all_goals exact J2
    ·
     rintro x30 hx
     subst o1
     have hh := hq1
     cbv
     exact Eb
    ·
     rintro n ⟨s19, s20⟩ N1 D1 hh hN1 hD1 hQ1
     dsimp only at hh
     unfold spec_TurnOccs.l0 at hh
     cbv
     refine bcs (fun f32 => ?_) (fun f32 => ?_)
     ·
      replace hh := ifT hh f32
      try rw [f32]
      cbv
      obtain ⟨h33, hh⟩ := req_some hh
      obtain ⟨⟨e34a, e34b, e34c⟩, h35, hh⟩ := bind_some hh
      try dsimp only at hh
      refine ⟨[iA e34a, iA e34b, tA (qInt e34c)], Nb h33, Gb h35, ?_⟩
      cbv
      obtain ⟨⟨x37a, x37b, x37c⟩, h36, hh⟩ := bind_some hh
      try dsimp only at hh
      have fc := c_spec_l3Copy hQ h36
      try dsimp only at fc
      refine go_call hF fc ?_
      cbv
      obtain ⟨h39, hh⟩ := req_some hh
      refine ⟨⟨Ob, Ab⟩, ?_⟩
      refine ⟨⟨Ob, Wb h39⟩, ?_⟩
      refine hN1 (_, _) _ hh fun ⟨t0, t1⟩ e => ?_
      refine cov_of [((8, 0), (45, 0))] ?_
      cbv
      all_goals exact J2
     ·
      replace hh := ifF hh f32
      try rw [f32]
      cbv
      refine hD1 _ _ hh fun t0 e => ?_
      refine cov_of [((8, 0), (8, 0))] ?_
      cbv
      all_goals exact J1
 ·
  have f5 : x2 = false := Fb b4
  have g := f5; cbv at g; try rw [f5]
  try rw [g]
  cbv
  exact Eb
theorem c_spec_TurnOccs_L0S {k : Nat} {p0 : List GOcc} {p1 : Int} {r : List GOcc} (hh : spec_TurnOccs.f k p0 p1 = some r) : FunW P 11 [oA 3 (qGOcc p0), iA p1] [oA 3 (qGOcc p0), hA] (oA 3 (qGOccO r)) := by
  cases hQ; exact (c_spec_TurnOccs .mk hh).lend (r_GOccO_ownd _) (.lend (congrArg A.tree (r_GOcc_fz _).symm) (.same rfl .nil))

theorem c_impl_OccsSame_1 {k : Nat} {p0 : GOcc} {p1 : GOcc} {r : Bool} (hh : impl_OccsSame_1.f k p0 p1 = some r) : FunW P 26 [.agg [iA p0.From, iA p0.To, tA (qInt p0.Ids)], .agg [iA p1.From, iA p1.To, tA (qInt p1.Ids)]] [hA, hA] (bA r) := by
 obtain ⟨p0a, p0b, p0c⟩ := p0
 obtain ⟨p1a, p1b, p1c⟩ := p1
 unfold impl_OccsSame_1.f at hh
 refine go (ts := [(4, none)]) (rm := [.own]) (pm := [.skip, .skip]) Try.func26 ?_
 intro Fn LW len cast toNat wrap add sub mul bin lt eq At set part app fz' rep nadd nmax ssize sext sget scat seq slt Wide Flat Ones Room r' post' hC hF hr hp
 cbv
 obtain ⟨x2, h1, hh⟩ := bind_some hh
 refine go_call hF (c_impl_compare hQ h1) ?_
 cbv
 exact Eb

theorem c_slices_EqualFunc_impl_OccsSame_1 {k : Nat} {g2 : GOcc → GOcc → Option Bool} (hg2 : ∀ {y0 : GOcc} {y1 : GOcc} {r : Bool}, g2 y0 y1 = some r → FunW P 26 [.agg [iA y0.From, iA y0.To, tA (qInt y0.Ids)], .agg [iA y1.From, iA y1.To, tA (qInt y1.Ids)]] [hA, hA] (bA r)) {p0 : List GOcc} {p1 : List GOcc} {r : Bool} (hh : slices_EqualFunc.f g2 k p0 p1 = some r) : FunW P 25 [tA (qGOcc p0), tA (qGOcc p1), .clo 26 []] [hA, hA, hA] (bA r) := by
 unfold slices_EqualFunc.f at hh
 refine go (ts := [(6, none)]) (rm := [.own]) (pm := [.skip, .skip, .skip]) Try.func25 ?_
 intro Fn LW len cast toNat wrap add sub mul bin lt eq At set part app fz' rep nadd nmax ssize sext sget scat seq slt Wide Flat Ones Room r' post' hC hF hr hp
 cbv
 rcases if_or hh with ⟨b1, hh⟩ | ⟨b1, hh⟩
 ·
  have f2 : (eq (cast (len (qGOcc p0))) (cast (len (qGOcc p1)))) = true := Tb b1
  have g := f2; cbv at g; try rw [f2]
  try rw [g]
  cbv
  obtain ⟨o1, hl1, hq1⟩ := bind_some hh
  refine loop_go4 hC eok mixed (slices_EqualFunc.l0 k g2 p0 p1)
   (fun s16 => (⟨[(1, tA (qGOcc p1)), (2, .clo 26 []), (15, tA (qGOcc p0)), (16, iA (cast (len (qGOcc p0)))), (17, iA s16)], []⟩ : St))
   (fun (_ : Unit) => (⟨[], []⟩ : St)) .ok (.exit 0)
   (i0 := _) hl1 (fun _ => rfl) ?_ ?_ ?_
  ·
   rintro t0 e
   refine cov_of [] ?_
   cbv
   all_goals exact J1
  ·
   rintro _ hx
   subst o1
   have hh := hq1
   cbv
   exact Eb
  ·
   rintro n s16 N1 D1 hh hN1 hD1 hQ1
   unfold slices_EqualFunc.l0 at hh
   cbv
   refine bcs (fun f31 => ?_) (fun f31 => ?_)
   ·
    replace hh := ifT hh f31
    try rw [f31]
    cbv
    obtain ⟨h32, hh⟩ := req_some hh
    obtain ⟨⟨e33a, e33b, e33c⟩, h34, hh⟩ := bind_some hh
    try dsimp only at hh
    refine ⟨[iA e33a, iA e33b, tA (qInt e33c)], Nb h32, Gb h34, ?_⟩
    cbv
    obtain ⟨h35, hh⟩ := req_some hh
    obtain ⟨⟨e36a, e36b, e36c⟩, h37, hh⟩ := bind_some hh
    try dsimp only at hh
    refine ⟨[iA e36a, iA e36b, tA (qInt e36c)], Nb h35, Gb h37, ?_⟩
    cbv
    obtain ⟨x39, h38, hh⟩ := bind_some hh
    refine go_call hF (hg2 h38) ?_
    cbv
    rcases if_or hh with ⟨b41, hh⟩ | ⟨b41, hh⟩
    ·
     have f42 : x39 = true := Tb b41
     have g := f42; cbv at g; try rw [f42]
     try rw [g]
     cbv
     refine hN1 _ _ hh fun t0 e => ?_
     refine cov_of [] ?_
     cbv
     all_goals exact J1
    ·
     have f42 : x39 = false := Fb b41
     have g := f42; cbv at g; try rw [f42]
     try rw [g]
     cbv
     cases hh
     have hh : some _ = some _ := hq1
     refine hQ1 _ _ ?_
     cbv
     exact Eb
   ·
    replace hh := ifF hh f31
    try rw [f31]
    cbv
    refine hD1 () _ hh fun _ e => ?_
    refine cov_of [] ?_
    cbv
    all_goals exact J0
 ·
  have f2 : (eq (cast (len (qGOcc p0))) (cast (len (qGOcc p1)))) = false := Fb b1
  have g := f2; cbv at g; try rw [f2]
  try rw [g]
  cbv
  exact Eb

theorem c_impl_OccsSame {k : Nat} {p0 : List GOcc} {p1 : List GOcc} {r : Bool} (hh : impl_OccsSame.f k p0 p1 = some r) : FunW P 10 [tA (qGOcc p0), tA (qGOcc p1)] [hA, hA] (bA r) := by
 unfold impl_OccsSame.f at hh
 refine go (ts := [(4, none)]) (rm := [.own]) (pm := [.skip, .skip]) Try.func10 ?_
 intro Fn LW len cast toNat wrap add sub mul bin lt eq At set part app fz' rep nadd nmax ssize sext sget scat seq slt Wide Flat Ones Room r' post' hC hF hr hp
 cbv
 obtain ⟨x2, h1, hh⟩ := bind_some hh
 refine go_call hF (c_slices_EqualFunc_impl_OccsSame_1 hQ (g2 := fun y0 y1 => impl_OccsSame_1.f k y0 y1) (fun h => c_impl_OccsSame_1 hQ h) h1) ?_
 cbv
 exact Eb
theorem c_impl_OccsSame_L0_1 {k : Nat} {p0 : List GOcc} {p1 : List GOcc} {r : Bool} (hh : impl_OccsSame.f k p0 p1 = some r) : FunW P 10 [oA 3 (qGOccO p0), oA 3 (qGOccO p1)] [oA 3 (qGOccO p0), oA 3 (qGOccO p1)] (bA r) := by
  cases hQ; exact (c_impl_OccsSame .mk hh).lend (rfl) (.lend (congrArg A.tree (r_GOccO_fz _).symm) (.lend (congrArg A.tree (r_GOccO_fz _).symm) .nil))

theorem c_laws_FnTurnLate {k : Nat} {p0 : List Int} {r : Bool} (hh : laws_FnTurnLate.f k p0 = some r) : FunW P 3 [tA (qIu8 p0)] [hA] (bA r) := by
 unfold laws_FnTurnLate.f at hh
 refine go (ts := [(2, none)]) (rm := [.own]) (pm := [.skip]) Try.func3 ?_
 intro Fn LW len cast toNat wrap add sub mul bin lt eq At set part app fz' rep nadd nmax ssize sext sget scat seq slt Wide Flat Ones Room r' post' hC hF hr hp
 cbv
 refine bcs (fun f2 => ?_) (fun f2 => ?_)
 ·
  replace hh := ifT hh f2
  try rw [f2]
  cbv
  exact Eb
 ·
  replace hh := ifF hh f2
  try rw [f2]
  cbv
  obtain ⟨⟨x4_0, x4_1⟩, h3, hh⟩ := bind_some hh
  try dsimp only at hh
  have fc := c_spec_DrawTurnLate hQ h3
  try dsimp only at fc
  refine go_call hF fc ?_
  cbv
  obtain ⟨x7, h6, hh⟩ := bind_some hh
  refine go_call hF (c_impl_TurnLate_L0 hQ h6) ?_
  cbv
  obtain ⟨⟨x10_0, x10_1⟩, h9, hh⟩ := bind_some hh
  try dsimp only at hh
  have fc := c_spec_DrawTurnOccs hQ h9
  try dsimp only at fc
  refine go_call hF fc ?_
  cbv
  obtain ⟨x13, h12, hh⟩ := bind_some hh
  refine go_call hF (c_impl_TurnOccs_L0S hQ h12) ?_
  cbv
  obtain ⟨x16, h15, hh⟩ := bind_some hh
  refine go_call hF (c_spec_TurnLate_L0 hQ h15) ?_
  cbv
  obtain ⟨x19, h18, hh⟩ := bind_some hh
  refine go_call hF (c_impl_EvsSame_L0_1 hQ h18) ?_
  cbv
  rcases if_or hh with ⟨b21, hh⟩ | ⟨b21, hh⟩
  ·
   have f22 : x19 = true := Tb b21
   have g := f22; cbv at g; try rw [f22]
   try rw [g]
   cbv
   obtain ⟨x24, h23, hh⟩ := bind_some hh
   refine go_call hF (c_spec_TurnOccs_L0S hQ h23) ?_
   cbv
   obtain ⟨x27, h26, hh⟩ := bind_some hh
   refine go_call hF (c_impl_OccsSame_L0_1 hQ h26) ?_
   cbv
   rcases if_or hh with ⟨b29, hh⟩ | ⟨b29, hh⟩
   ·
    have f30 : x27 = true := Tb b29
    have g := f30; cbv at g; try rw [f30]
    try rw [g]
    cbv
    obtain ⟨o1, hl1, hq1⟩ := bind_some hh
    refine loop_go4 hC eok mixed (laws_FnTurnLate.l0 k (⟨x4_0, x4_1⟩ : (List GEv) × Int) x7)
     (fun s55 => (⟨[(3, .ref (17, 0) 1 0 (len (qGEv x4_0))), (4, iA x4_1), (5, .ref (22, 0) 1 0 (len (qGEv x7))), (6, .ref (25, 0) 1 0 (len (qGOcc x10_0))), (7, iA x10_1), (8, .ref (30, 0) 1 0 (len (qGOccO x13))), (9, iA s55)], [((17, 0), .arr 1 3 (qGEv x4_0)), ((22, 0), .arr 1 3 (qGEv x7)), ((25, 0), .arr 1 3 (qGOcc x10_0)), ((30, 0), .arr 1 3 (qGOccO x13))]⟩ : St))
     (fun (_ : Unit) => (⟨[(3, .ref (17, 0) 1 0 (len (qGEv x4_0))), (4, iA x4_1), (5, .ref (22, 0) 1 0 (len (qGEv x7))), (6, .ref (25, 0) 1 0 (len (qGOcc x10_0))), (7, iA x10_1), (8, .ref (30, 0) 1 0 (len (qGOccO x13)))], [((17, 0), .arr 1 3 (qGEv x4_0)), ((22, 0), .arr 1 3 (qGEv x7)), ((25, 0), .arr 1 3 (qGOcc x10_0)), ((30, 0), .arr 1 3 (qGOccO x13))]⟩ : St)) .ok (.exit 0)
     (i0 := _) hl1 (fun _ => rfl) ?_ ?_ ?_
    ·
     rintro t0 e
     refine cov_of [((17, 0), (17, 0)), ((22, 0), (22, 0)), ((25, 0), (25, 0)), ((30, 0), (30, 0))] ?_
     cbv
     all_goals exact J1
    ·
     rintro _ hx
     subst o1
     have hh := hq1
     cbv
     obtain ⟨o1, hl1, hq1⟩ := bind_some hh
     refine loop_go4 hC eok mixed (laws_FnTurnLate.l1 k (⟨x10_0, x10_1⟩ : (List GOcc) × Int) x13)
      (fun s122 => (⟨[(3, .ref (17, 0) 1 0 (len (qGEv x4_0))), (4, iA x4_1), (5, .ref (22, 0) 1 0 (len (qGEv x7))), (6, .ref (25, 0) 1 0 (len (qGOcc x10_0))), (7, iA x10_1), (8, .ref (30, 0) 1 0 (len (qGOccO x13))), (10, iA s122)], [((17, 0), .arr 1 3 (qGEv x4_0)), ((22, 0), .arr 1 3 (qGEv x7)), ((25, 0), .arr 1 3 (qGOcc x10_0)), ((30, 0), .arr 1 3 (qGOccO x13))]⟩ : St))
      (fun (_ : Unit) => (⟨[(3, .ref (17, 0) 1 0 (len (qGEv x4_0))), (4, iA x4_1), (5, .ref (22, 0) 1 0 (len (qGEv x7)))], [((17, 0), .arr 1 3 (qGEv x4_0)), ((22, 0), .arr 1 3 (qGEv x7))]⟩ : St)) .ok (.exit 2)
      (i0 := _) hl1 (fun _ => rfl) ?_ ?_ ?_
     ·
      rintro t0 e
      refine cov_of [((17, 0), (17, 0)), ((22, 0), (22, 0)), ((25, 0), (25, 0)), ((30, 0), (30, 0))] ?_
      cbv
      all_goals exact J1
     ·
      rintro _ hx
      subst o1
      have hh := hq1
      cbv
      obtain ⟨x160, h159, hh⟩ := bind_some hh
      refine go_call hF (c_impl_TurnLate_L0 hQ h159) ?_
      cbv
      refine bcs (fun f163 => ?_) (fun f163 => ?_)
      ·
       replace hh := ifT hh f163
       try rw [f163]
       cbv
       exact Eb
      ·
       replace hh := ifF hh f163
       try rw [f163]
       cbv
       obtain ⟨x165, h164, hh⟩ := bind_some hh
       refine go_call hF (c_impl_TurnLate_L0 hQ h164) ?_
       cbv
       obtain ⟨x168, h167, hh⟩ := bind_some hh
       refine go_call hF (c_impl_EvsSame_L0_1 hQ h167) ?_
       cbv
       exact Eb
     ·
      rintro n s122 N1 D1 hh hN1 hD1 hQ1
      unfold laws_FnTurnLate.l1 at hh
      cbv
      refine bcs (fun f142 => ?_) (fun f142 => ?_)
      ·
       replace hh := ifT hh f142
       try rw [f142]
       cbv
       obtain ⟨h143, hh⟩ := req_some hh
       obtain ⟨h144, hh⟩ := req_some hh
       refine ⟨Nb h143, Mb h144, ?_⟩
       obtain ⟨⟨e145a, e145b, e145c⟩, h146, hh⟩ := bind_some hh
       try dsimp only at hh
       refine ⟨[iA e145a, iA e145b, oA 1 (qInt e145c)], Gb h146, ?_⟩
       cbv
       obtain ⟨h147, hh⟩ := req_some hh
       obtain ⟨h148, hh⟩ := req_some hh
       try dsimp only at h148
       refine ⟨Nb h147, Mb h148, ?_⟩
       obtain ⟨⟨e149a, e149b, e149c⟩, h150, hh⟩ := bind_some hh
       try dsimp only at hh
       refine ⟨[iA e149a, iA e149b, tA (qInt e149c)], Gb h150, ?_⟩
       cbv
       rcases if_or hh with ⟨b151, hh⟩ | ⟨b151, hh⟩
       ·
        have f152 : (eq e145a (wrap .i64 (add e149a x10_1))) = true := Tb b151
        have g := f152; cbv at g; try rw [f152]
        try rw [g]
        cbv
        obtain ⟨h153, hh⟩ := req_some hh
        obtain ⟨h154, hh⟩ := req_some hh
        refine ⟨Nb h153, Mb h154, ?_⟩
        refine ⟨[iA e145a, iA e145b, oA 1 (qInt e145c)], Gb h146, ?_⟩
        cbv
        obtain ⟨h155, hh⟩ := req_some hh
        obtain ⟨h156, hh⟩ := req_some hh
        try dsimp only at h156
        refine ⟨Nb h155, Mb h156, ?_⟩
        refine ⟨[iA e149a, iA e149b, tA (qInt e149c)], Gb h150, ?_⟩
        cbv
        rcases if_or hh with ⟨b157, hh⟩ | ⟨b157, hh⟩
        ·
         have f158 : (eq e145b (wrap .i64 (add e149b x10_1))) = true := Tb b157
         have g := f158; cbv at g; try rw [f158]
         try rw [g]
         cbv
         refine hN1 _ _ hh fun t0 e => ?_
         refine cov_of [((17, 0), (17, 0)), ((22, 0), (22, 0)), ((25, 0), (25, 0)), ((30, 0), (30, 0))] ?_
         cbv
         all_goals exact J1
        ·
         have f158 : (eq e145b (wrap .i64 (add e149b x10_1))) = false := Fb b157
         have g := f158; cbv at g; try rw [f158]
         try rw [g]
         cbv
         cases hh
         have hh : some _ = some _ := hq1
         refine hQ1 _ _ ?_
         cbv
         exact Eb
       ·
        have f152 : (eq e145a (wrap .i64 (add e149a x10_1))) = false := Fb b151
        have g := f152; cbv at g; try rw [f152]
        try rw [g]
        cbv
        cases hh
        have hh : some _ = some _ := hq1
        refine hQ1 _ _ ?_
        cbv
        exact Eb
      ·
       replace hh := ifF hh f142
       try rw [f142]
       cbv
       refine hD1 () _ hh fun _ e => ?_
       refine cov_of [((17, 0), (17, 0)), ((22, 0), (22, 0))] ?_
       cbv
       all_goals exact J0
    ·
     rintro n s55 N1 D1 hh hN1 hD1 hQ1
     unfold laws_FnTurnLate.l0 at hh
     cbv
     refine bcs (fun f81 => ?_) (fun f81 => ?_)
     ·
      replace hh := ifT hh f81
      try rw [f81]
      cbv
      obtain ⟨h82, hh⟩ := req_some hh
      obtain ⟨h83, hh⟩ := req_some hh
      refine ⟨Nb h82, Mb h83, ?_⟩
      obtain ⟨⟨e84a, e84b, e84c⟩, h85, hh⟩ := bind_some hh
      try dsimp only at hh
      refine ⟨[iA e84a, iA e84b, iA e84c], Gb h85, ?_⟩
      cbv
      obtain ⟨h86, hh⟩ := req_some hh
      obtain ⟨h87, hh⟩ := req_some hh
      try dsimp only at h87
      refine ⟨Nb h86, Mb h87, ?_⟩
      obtain ⟨⟨e88a, e88b, e88c⟩, h89, hh⟩ := bind_some hh
      try dsimp only at hh
      refine ⟨[iA e88a, iA e88b, iA e88c], Gb h89, ?_⟩
      cbv
      rcases if_or hh with ⟨b90, hh⟩ | ⟨b90, hh⟩
      ·
       have f91 : (eq e84b (wrap .i64 (add e88b x4_1))) = true := Tb b90
       have g := f91; cbv at g; try rw [f91]
       try rw [g]
       cbv
       obtain ⟨h92, hh⟩ := req_some hh
       obtain ⟨h93, hh⟩ := req_some hh
       refine ⟨Nb h92, Mb h93, ?_⟩
       refine ⟨[iA e84a, iA e84b, iA e84c], Gb h85, ?_⟩
       cbv
       obtain ⟨h94, hh⟩ := req_some hh
       obtain ⟨h95, hh⟩ := req_some hh
       try dsimp only at h95
       refine ⟨Nb h94, Mb h95, ?_⟩
       refine ⟨[iA e88a, iA e88b, iA e88c], Gb h89, ?_⟩
       cbv
       rcases if_or hh with ⟨b96, hh⟩ | ⟨b96, hh⟩
       ·
        have f97 : (eq e84a e88a) = true := Tb b96
        have g := f97; cbv at g; try rw [f97]
        try rw [g]
        cbv
        obtain ⟨h98, hh⟩ := req_some hh
        obtain ⟨h99, hh⟩ := req_some hh
        refine ⟨Nb h98, Mb h99, ?_⟩
        refine ⟨[iA e84a, iA e84b, iA e84c], Gb h85, ?_⟩
        cbv
        obtain ⟨h100, hh⟩ := req_some hh
        obtain ⟨h101, hh⟩ := req_some hh
        try dsimp only at h101
        refine ⟨Nb h100, Mb h101, ?_⟩
        refine ⟨[iA e88a, iA e88b, iA e88c], Gb h89, ?_⟩
        cbv
        rcases if_or hh with ⟨b102, hh⟩ | ⟨b102, hh⟩
        ·
         have f103 : (eq e84c e88c) = true := Tb b102
         have g := f103; cbv at g; try rw [f103]
         try rw [g]
         cbv
         refine hN1 _ _ hh fun t0 e => ?_
         refine cov_of [((17, 0), (17, 0)), ((22, 0), (22, 0)), ((25, 0), (25, 0)), ((30, 0), (30, 0))] ?_
         cbv
         all_goals exact J1
        ·
         have f103 : (eq e84c e88c) = false := Fb b102
         have g := f103; cbv at g; try rw [f103]
         try rw [g]
         cbv
         cases hh
         have hh : some _ = some _ := hq1
         refine hQ1 _ _ ?_
         cbv
         exact Eb
       ·
        have f97 : (eq e84a e88a) = false := Fb b96
        have g := f97; cbv at g; try rw [f97]
        try rw [g]
        cbv
        cases hh
        have hh : some _ = some _ := hq1
        refine hQ1 _ _ ?_
        cbv
        exact Eb
      ·
       have f91 : (eq e84b (wrap .i64 (add e88b x4_1))) = false := Fb b90
       have g := f91; cbv at g; try rw [f91]
       try rw [g]
       cbv
       cases hh
       have hh : some _ = some _ := hq1
       refine hQ1 _ _ ?_
       cbv
       exact Eb
     ·
      replace hh := ifF hh f81
      try rw [f81]
      cbv
      refine hD1 () _ hh fun _ e => ?_
      refine cov_of [((17, 0), (17, 0)), ((22, 0), (22, 0)), ((25, 0), (25, 0)), ((30, 0), (30, 0))] ?_
      cbv
      all_goals exact J0
   ·
    have f30 : x27 = false := Fb b29
    have g := f30; cbv at g; try rw [f30]
    try rw [g]
    cbv
    exact Eb
  ·
   have f22 : x19 = false := Fb b21
   have g := f22; cbv at g; try rw [f22]
   try rw [g]
   cbv
   exact Eb

end Go.Proofs.Ytggoffcbifibnaa
