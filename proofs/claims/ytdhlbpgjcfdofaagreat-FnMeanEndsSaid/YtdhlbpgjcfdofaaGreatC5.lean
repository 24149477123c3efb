/- The functions of this program do what the plain ones do. -/
import Derived.Test.YtdhlbpgjcfdofaaGreatC4
namespace Go.Proofs.YtdhlbpgjcfdofaaGreat
open Go Go.Vm
set_option linter.unusedVariables false
set_option maxHeartbeats 4000000
variable {qIu8 : List Int → Vm.Rows} {qInt : List Int → Vm.Rows} {qGExO : List GEx → Vm.Rows} {qGEx : List GEx → Vm.Rows} {qGEv : List GEv → Vm.Rows} {qGOccO : List GOcc → Vm.Rows} {qGOcc : List GOcc → Vm.Rows} {qLGOccO : List (List GOcc) → Vm.Rows} {qLGOcc : List (List GOcc) → Vm.Rows} {qLInt : List (List Int) → Vm.Rows} {qBool : List Bool → Vm.Rows} (hQ : EQ qIu8 qInt qGExO qGEx qGEv qGOccO qGOcc qLGOccO qLGOcc qLInt qBool)
include hQ
theorem c_laws_FnMeanEnds {k : Nat} {p0 : List Int} {r : Bool} (hh : laws_FnMeanEnds.f k p0 = some r) : FunW P 5 [tA (qIu8 p0)] [hA] (bA r) := by
 unfold laws_FnMeanEnds.f at hh
 refine go (ts := [(2, none)]) (rm := [.own]) (pm := [.skip]) Tryz.func5 ?_
 intro Fn LW len cast toNat wrap add sub mul bin lt eq At set part app fz' rep nadd nmax ssize sext sget scat seq slt Wide Flat Ones Room r' post' hC hF hr hp
 cbv
 refine bcs (fun f2 => ?_) (fun f2 => ?_)
 ·
  replace hh := ifT hh f2
  try rw [f2]
  cbv
  exact Eb
 ·
  replace hh := ifF hh f2
  try rw [f2]
  cbv
  replace hh := bind_some hh
  obtain ⟨⟨⟨x4_0a, x4_0b, x4_0c, x4_0d⟩, x4_1, x4_2⟩, h3, hh⟩ := hh
  try dsimp only at hh
  have fc := c_spec_DrawMeanOf hQ h3
  try dsimp only at fc
  refine go_call hF fc ?_
  cbv
  replace hh := bind_some hh
  obtain ⟨⟨x7_0, x7_1⟩, h6, hh⟩ := hh
  try dsimp only at hh
  refine ⟨Ob, ?_⟩
  have fc := c_impl_MeanOf_L0S_2 hQ h6
  try dsimp only at fc
  refine go_call hF fc ?_
  cbv
  replace hh := bind_some hh
  obtain ⟨⟨x10_0, x10_1⟩, h9, hh⟩ := hh
  try dsimp only at hh
  refine ⟨Ob, ?_⟩
  have fc := c_spec_MeanOf_L0S_2 hQ h9
  try dsimp only at fc
  refine go_call hF fc ?_
  cbv
  replace hh := if_or hh
  rcases hh with ⟨b12, hh⟩ | ⟨b12, hh⟩
  ·
   have f13 : x7_1 = true := Tb b12
   have g := f13; cbv at g; try rw [f13]
   try rw [g]
   cbv
   replace hh := if_or hh
   rcases hh with ⟨b14, hh⟩ | ⟨b14, hh⟩
   ·
    have f15 : x10_1 = true := Tb b14
    have g := f15; cbv at g; try rw [f15]
    try rw [g]
    cbv
    replace hh := bind_some hh
    obtain ⟨x17, h16, hh⟩ := hh
    refine go_call hF (c_impl_OccsSame_L0_1 hQ h16) ?_
    cbv
    replace hh := if_or hh
    rcases hh with ⟨b19, hh⟩ | ⟨b19, hh⟩
    ·
     have f20 : x17 = true := Tb b19
     have g := f20; cbv at g; try rw [f20]
     try rw [g]
     cbv
     replace hh := bind_some hh
     obtain ⟨x22, h21, hh⟩ := hh
     refine go_call hF (c_spec_EvsOk_L0 hQ h21) ?_
     cbv
     replace hh := if_or hh
     rcases hh with ⟨b24, hh⟩ | ⟨b24, hh⟩
     ·
      have f25 : x22 = true := Tb b24
      have g := f25; cbv at g; try rw [f25]
      try rw [g]
      cbv
      replace hh := bind_some hh
      obtain ⟨o1, hl1, hq1⟩ := hh
      refine loop_go4 hC eok mixed (fun n (i : Int × Int) => laws_FnMeanEnds.l2 k (⟨⟨x4_0a, x4_0b, x4_0c, x4_0d⟩, x4_1, x4_2⟩ : GEx × Int × (List GEv)) n i.1 i.2)
       (fun ⟨s71, s72⟩ => (⟨[(5, .ref (24, 4) 1 0 (len (qGEv x4_2))), (6, .mptr (6, 0) 1 0 0), (7, .ref (35, 0) 1 0 (len (qGOccO x7_0))), (8, bA true), (11, iA s71), (12, iA s72)], [((6, 0), .box 1 [iA 4, iA 0, iA 0, .ref (30, 0) 1 0 (len (qGEx [((⟨1, 0, 0, []⟩ : GEx)), ((⟨1, 1, 0, []⟩ : GEx))]))]), ((24, 4), .arr 1 3 (qGEv x4_2)), ((30, 0), .arr 1 4 (qGEx [((⟨1, 0, 0, []⟩ : GEx)), ((⟨1, 1, 0, []⟩ : GEx))])), ((35, 0), .arr 1 3 (qGOccO x7_0))]⟩ : St))
       (fun (x120 : Int) => (⟨[(5, .ref (24, 4) 1 0 (len (qGEv x4_2))), (6, .mptr (6, 0) 1 0 0), (7, .ref (35, 0) 1 0 (len (qGOccO x7_0))), (8, bA true), (11, iA x120)], [((6, 0), .box 1 [iA 4, iA 0, iA 0, .ref (30, 0) 1 0 (len (qGEx [((⟨1, 0, 0, []⟩ : GEx)), ((⟨1, 1, 0, []⟩ : GEx))]))]), ((24, 4), .arr 1 3 (qGEv x4_2)), ((30, 0), .arr 1 4 (qGEx [((⟨1, 0, 0, []⟩ : GEx)), ((⟨1, 1, 0, []⟩ : GEx))])), ((35, 0), .arr 1 3 (qGOccO x7_0))]⟩ : St)) (fun x => x) (.exit 0)
       (i0 := (_, _)) hl1 (fun _ => rfl) ?_ ?_ ?_
      ·
       rintro ⟨t0, t1⟩ e
       refine cov_of [((6, 0), (6, 0)), ((24, 4), (24, 4)), ((30, 0), (30, 0)), ((35, 0), (35, 0))] ?_
       cbv
       all_goals exact J2
      ·
       rintro x120 hx
       subst o1
       have hh := hq1
       cbv
       replace hh := bind_some hh
       obtain ⟨⟨x169_0, x169_1⟩, h168, hh⟩ := hh
       try dsimp only at hh
       have fc := c_impl_MeanOf_L0S_2 hQ h168
       try dsimp only at fc
       refine go_call hF fc ?_
       cbv
       replace hh := bind_some hh
       obtain ⟨o1, hl1, hq1⟩ := hh
       refine loop_go4 hC eok mixed (fun n (i : Int × Bool × Int) => laws_FnMeanEnds.l4 k (⟨⟨x4_0a, x4_0b, x4_0c, x4_0d⟩, x4_1, x4_2⟩ : GEx × Int × (List GEv)) n i.1 i.2.1 i.2.2)
        (fun ⟨s183, s184, s185⟩ => (⟨[(5, .ref (24, 4) 1 0 (len (qGEv x4_2))), (7, .ref (35, 0) 1 0 (len (qGOccO x7_0))), (8, bA true), (11, iA x120), (14, .ref (96, 0) 1 0 (len (qGOccO x169_0))), (15, bA x169_1), (16, iA s183), (17, bA s184), (18, iA s185)], [((24, 4), .arr 1 3 (qGEv x4_2)), ((35, 0), .arr 1 3 (qGOccO x7_0)), ((96, 0), .arr 1 3 (qGOccO x169_0))]⟩ : St))
        (fun (x206 : Int) => (⟨[(7, .ref (35, 0) 1 0 (len (qGOccO x7_0))), (8, bA true), (11, iA x120), (14, .ref (96, 0) 1 0 (len (qGOccO x169_0))), (15, bA x169_1), (16, iA x206)], [((35, 0), .arr 1 3 (qGOccO x7_0)), ((96, 0), .arr 1 3 (qGOccO x169_0))]⟩ : St)) (fun x => x) (.exit 4)
        (i0 := (_, _, _)) hl1 (fun _ => rfl) ?_ ?_ ?_
       ·
        rintro ⟨t0, t1, t2⟩ e
        refine cov_of [((24, 4), (24, 4)), ((35, 0), (35, 0)), ((96, 0), (96, 0))] ?_
        cbv
        all_goals exact J3
       ·
        rintro x206 hx
        subst o1
        have hh := hq1
        cbv
        refine bcs (fun f228 => ?_) (fun f228 => ?_)
        ·
         replace hh := ifT hh f228
         try rw [f228]
         cbv
         refine bcs (fun f230 => ?_) (fun f230 => ?_)
         ·
          replace hh := ifT hh f230
          try rw [f230]
          cbv
          exact Eb
         ·
          replace hh := ifF hh f230
          try rw [f230]
          cbv
          exact Eb
        ·
         replace hh := ifF hh f228
         try rw [f228]
         cbv
         refine bcs (fun f232 => ?_) (fun f232 => ?_)
         ·
          replace hh := ifT hh f232
          try rw [f232]
          cbv
          exact Eb
         ·
          replace hh := ifF hh f232
          try rw [f232]
          cbv
          exact Eb
       ·
        rintro n ⟨s183, s184, s185⟩ N1 D1 hh hN1 hD1 hQ1
        dsimp only at hh
        unfold laws_FnMeanEnds.l4 at hh
        cbv
        refine bcs (fun f208 => ?_) (fun f208 => ?_)
        ·
         replace hh := ifT hh f208
         try rw [f208]
         cbv
         refine bcs (fun f210 => ?_) (fun f210 => ?_)
         ·
          replace hh := ifT hh f210
          try rw [f210]
          cbv
          replace hh := req_some hh
          obtain ⟨h211, hh⟩ := hh
          replace hh := req_some hh
          obtain ⟨h212, hh⟩ := hh
          try dsimp only at h212
          refine ⟨Nb h211, Mb h212, ?_⟩
          replace hh := bind_some hh
          obtain ⟨⟨e213a, e213b, e213c⟩, h214, hh⟩ := hh
          try dsimp only at hh
          refine ⟨[iA e213a, iA e213b, iA e213c], Gb h214, ?_⟩
          cbv
          refine bcs (fun f216 => ?_) (fun f216 => ?_)
          ·
           replace hh := ifT hh f216
           try rw [f216]
           cbv
           refine hN1 (_, _, _) _ hh fun ⟨t0, t1, t2⟩ e => ?_
           refine cov_of [((24, 4), (24, 4)), ((35, 0), (35, 0)), ((96, 0), (96, 0))] ?_
           cbv
           all_goals exact J3
          ·
           replace hh := ifF hh f216
           try rw [f216]
           cbv
           refine hN1 (_, _, _) _ hh fun ⟨t0, t1, t2⟩ e => ?_
           refine cov_of [((24, 4), (24, 4)), ((35, 0), (35, 0)), ((96, 0), (96, 0))] ?_
           cbv
           all_goals exact J3
         ·
          replace hh := ifF hh f210
          try rw [f210]
          cbv
          replace hh := req_some hh
          obtain ⟨h217, hh⟩ := hh
          replace hh := req_some hh
          obtain ⟨h218, hh⟩ := hh
          try dsimp only at h218
          refine ⟨Nb h217, Mb h218, ?_⟩
          replace hh := bind_some hh
          obtain ⟨⟨e219a, e219b, e219c⟩, h220, hh⟩ := hh
          try dsimp only at hh
          refine ⟨[iA e219a, iA e219b, iA e219c], Gb h220, ?_⟩
          cbv
          replace hh := req_some hh
          obtain ⟨h221, hh⟩ := hh
          replace hh := req_some hh
          obtain ⟨h222, hh⟩ := hh
          try dsimp only at h222
          refine ⟨Nb h221, Mb h222, ?_⟩
          refine ⟨[iA e219a, iA e219b, iA e219c], Gb h220, ?_⟩
          cbv
          refine bcs (fun f224 => ?_) (fun f224 => ?_)
          ·
           replace hh := ifT hh f224
           try rw [f224]
           cbv
           refine bcs (fun f226 => ?_) (fun f226 => ?_)
           ·
            replace hh := ifT hh f226
            try rw [f226]
            cbv
            refine hN1 (_, _, _) _ hh fun ⟨t0, t1, t2⟩ e => ?_
            refine cov_of [((24, 4), (24, 4)), ((35, 0), (35, 0)), ((96, 0), (96, 0))] ?_
            cbv
            all_goals exact J3
           ·
            replace hh := ifF hh f226
            try rw [f226]
            cbv
            refine hN1 (_, _, _) _ hh fun ⟨t0, t1, t2⟩ e => ?_
            refine cov_of [((24, 4), (24, 4)), ((35, 0), (35, 0)), ((96, 0), (96, 0))] ?_
            cbv
            all_goals exact J3
          ·
           replace hh := ifF hh f224
           try rw [f224]
           cbv
           refine hN1 (_, _, _) _ hh fun ⟨t0, t1, t2⟩ e => ?_
           refine cov_of [((24, 4), (24, 4)), ((35, 0), (35, 0)), ((96, 0), (96, 0))] ?_
           cbv
           all_goals exact J3
        ·
         replace hh := ifF hh f208
         try rw [f208]
         cbv
         refine hD1 _ _ hh fun t0 e => ?_
         refine cov_of [((35, 0), (35, 0)), ((96, 0), (96, 0))] ?_
         cbv
         all_goals exact J1
      ·
       rintro n ⟨s71, s72⟩ N1 D1 hh hN1 hD1 hQ1
       dsimp only at hh
       unfold laws_FnMeanEnds.l2 at hh
       cbv
       refine bcs (fun f122 => ?_) (fun f122 => ?_)
       ·
        replace hh := ifT hh f122
        try rw [f122]
        cbv
        replace hh := bind_some hh
        obtain ⟨o2, hl2, hq2⟩ := hh
        refine loop_go4 hC eok mixed (fun n (i : Int × Int) => laws_FnMeanEnds.l3 k s72 (⟨⟨x4_0a, x4_0b, x4_0c, x4_0d⟩, x4_1, x4_2⟩ : GEx × Int × (List GEv)) n i.1 i.2)
         (fun ⟨s137, s138⟩ => (⟨[(5, .ref (24, 4) 1 0 (len (qGEv x4_2))), (6, .mptr (6, 0) 1 0 0), (7, .ref (35, 0) 1 0 (len (qGOccO x7_0))), (8, bA true), (11, iA s137), (12, iA s72), (13, iA s138)], [((6, 0), .box 1 [iA 4, iA 0, iA 0, .ref (30, 0) 1 0 (len (qGEx [((⟨1, 0, 0, []⟩ : GEx)), ((⟨1, 1, 0, []⟩ : GEx))]))]), ((24, 4), .arr 1 3 (qGEv x4_2)), ((30, 0), .arr 1 4 (qGEx [((⟨1, 0, 0, []⟩ : GEx)), ((⟨1, 1, 0, []⟩ : GEx))])), ((35, 0), .arr 1 3 (qGOccO x7_0))]⟩ : St))
         (fun (x153 : Int) => (⟨[(5, .ref (24, 4) 1 0 (len (qGEv x4_2))), (6, .mptr (6, 0) 1 0 0), (7, .ref (35, 0) 1 0 (len (qGOccO x7_0))), (8, bA true), (11, iA x153), (12, iA s72)], [((6, 0), .box 1 [iA 4, iA 0, iA 0, .ref (30, 0) 1 0 (len (qGEx [((⟨1, 0, 0, []⟩ : GEx)), ((⟨1, 1, 0, []⟩ : GEx))]))]), ((24, 4), .arr 1 3 (qGEv x4_2)), ((30, 0), .arr 1 4 (qGEx [((⟨1, 0, 0, []⟩ : GEx)), ((⟨1, 1, 0, []⟩ : GEx))])), ((35, 0), .arr 1 3 (qGOccO x7_0))]⟩ : St)) (fun x => x) (.exit 2)
         (i0 := (_, _)) hl2 (fun _ => rfl) ?_ ?_ ?_
        ·
         rintro ⟨t0, t1⟩ e
         refine cov_of [((6, 0), (6, 0)), ((24, 4), (24, 4)), ((30, 0), (30, 0)), ((35, 0), (35, 0))] ?_
         cbv
         all_goals exact J2
        ·
         rintro x153 hx
         subst o2
         have hh := hq2
         cbv
         refine hN1 (_, _) _ hh fun ⟨t0, t1⟩ e => ?_
         refine cov_of [((6, 0), (6, 0)), ((24, 4), (24, 4)), ((30, 0), (30, 0)), ((35, 0), (35, 0))] ?_
         cbv
         all_goals exact J2
        ·
         rintro n ⟨s137, s138⟩ N2 D2 hh hN2 hD2 hQ2
         dsimp only at hh
         unfold laws_FnMeanEnds.l3 at hh
         cbv
         refine bcs (fun f155 => ?_) (fun f155 => ?_)
         ·
          replace hh := ifT hh f155
          try rw [f155]
          cbv
          replace hh := req_some hh
          obtain ⟨h156, hh⟩ := hh
          replace hh := req_some hh
          obtain ⟨h157, hh⟩ := hh
          try dsimp only at h157
          refine ⟨Nb h156, Mb h157, ?_⟩
          replace hh := bind_some hh
          obtain ⟨⟨e158a, e158b, e158c⟩, h159, hh⟩ := hh
          try dsimp only at hh
          refine ⟨[iA e158a, iA e158b, iA e158c], Gb h159, ?_⟩
          cbv
          refine bcs (fun f161 => ?_) (fun f161 => ?_)
          ·
           replace hh := ifT hh f161
           try rw [f161]
           cbv
           replace hh := req_some hh
           obtain ⟨h162, hh⟩ := hh
           replace hh := req_some hh
           obtain ⟨h163, hh⟩ := hh
           try dsimp only at h163
           refine ⟨Nb h162, Mb h163, ?_⟩
           replace hh := bind_some hh
           obtain ⟨⟨e164a, e164b, e164c⟩, h165, hh⟩ := hh
           try dsimp only at hh
           refine ⟨[iA e164a, iA e164b, iA e164c], Gb h165, ?_⟩
           cbv
           refine bcs (fun f167 => ?_) (fun f167 => ?_)
           ·
            replace hh := ifT hh f167
            try rw [f167]
            cbv
            refine hN2 (_, _) _ hh fun ⟨t0, t1⟩ e => ?_
            refine cov_of [((6, 0), (6, 0)), ((24, 4), (24, 4)), ((30, 0), (30, 0)), ((35, 0), (35, 0))] ?_
            cbv
            all_goals exact J2
           ·
            replace hh := ifF hh f167
            try rw [f167]
            cbv
            refine hN2 (_, _) _ hh fun ⟨t0, t1⟩ e => ?_
            refine cov_of [((6, 0), (6, 0)), ((24, 4), (24, 4)), ((30, 0), (30, 0)), ((35, 0), (35, 0))] ?_
            cbv
            all_goals exact J2
          ·
           replace hh := ifF hh f161
           try rw [f161]
           cbv
           refine hN2 (_, _) _ hh fun ⟨t0, t1⟩ e => ?_
           refine cov_of [((6, 0), (6, 0)), ((24, 4), (24, 4)), ((30, 0), (30, 0)), ((35, 0), (35, 0))] ?_
           cbv
           all_goals exact J2
         ·
          replace hh := ifF hh f155
          try rw [f155]
          cbv
          refine hD2 _ _ hh fun t0 e => ?_
          refine cov_of [((6, 0), (6, 0)), ((24, 4), (24, 4)), ((30, 0), (30, 0)), ((35, 0), (35, 0))] ?_
          cbv
          all_goals exact J1
       ·
        replace hh := ifF hh f122
        try rw [f122]
        cbv
        refine hD1 _ _ hh fun t0 e => ?_
        refine cov_of [((6, 0), (6, 0)), ((24, 4), (24, 4)), ((30, 0), (30, 0)), ((35, 0), (35, 0))] ?_
        cbv
        all_goals exact J1
     ·
      have f25 : x22 = false := Fb b24
      have g := f25; cbv at g; try rw [f25]
      try rw [g]
      cbv
      replace hh := bind_some hh
      obtain ⟨x234, h233, hh⟩ := hh
      refine go_call hF (c_impl_OccsSame_L0_1 hQ h233) ?_
      cbv
      exact Eb
    ·
     have f20 : x17 = false := Fb b19
     have g := f20; cbv at g; try rw [f20]
     try rw [g]
     cbv
     replace hh := bind_some hh
     obtain ⟨x237, h236, hh⟩ := hh
     refine go_call hF (c_impl_OccsSame_L0_1 hQ h236) ?_
     cbv
     exact Eb
   ·
    have f15 : x10_1 = false := Fb b14
    have g := f15; cbv at g; try rw [f15]
    try rw [g]
    cbv
    exact Eb
  ·
   have f13 : x7_1 = false := Fb b12
   have g := f13; cbv at g; try rw [f13]
   try rw [g]
   cbv
   replace hh := if_or hh
   rcases hh with ⟨b239, hh⟩ | ⟨b239, hh⟩
   ·
    have f240 : x10_1 = true := Tb b239
    have g := f240; cbv at g; try rw [f240]
    try rw [g]
    cbv
    exact Eb
   ·
    have f240 : x10_1 = false := Fb b239
    have g := f240; cbv at g; try rw [f240]
    try rw [g]
    cbv
    replace hh := bind_some hh
    obtain ⟨x242, h241, hh⟩ := hh
    refine go_call hF (c_impl_OccsSame_L0_1 hQ h241) ?_
    cbv
    replace hh := if_or hh
    rcases hh with ⟨b244, hh⟩ | ⟨b244, hh⟩
    ·
     have f245 : x242 = true := Tb b244
     have g := f245; cbv at g; try rw [f245]
     try rw [g]
     cbv
     replace hh := bind_some hh
     obtain ⟨x247, h246, hh⟩ := hh
     refine go_call hF (c_spec_EvsOk_L0 hQ h246) ?_
     cbv
     replace hh := if_or hh
     rcases hh with ⟨b249, hh⟩ | ⟨b249, hh⟩
     ·
      have f250 : x247 = true := Tb b249
      have g := f250; cbv at g; try rw [f250]
      try rw [g]
      cbv
      replace hh := bind_some hh
      obtain ⟨o1, hl1, hq1⟩ := hh
      refine loop_go4 hC eok mixed (fun n (i : Int × Int) => laws_FnMeanEnds.l7 k (⟨⟨x4_0a, x4_0b, x4_0c, x4_0d⟩, x4_1, x4_2⟩ : GEx × Int × (List GEv)) n i.1 i.2)
       (fun ⟨s296, s297⟩ => (⟨[(5, .ref (24, 4) 1 0 (len (qGEv x4_2))), (6, .mptr (6, 0) 1 0 0), (7, .ref (35, 0) 1 0 (len (qGOccO x7_0))), (8, bA false), (11, iA s296), (12, iA s297)], [((6, 0), .box 1 [iA 4, iA 0, iA 0, .ref (30, 0) 1 0 (len (qGEx [((⟨1, 0, 0, []⟩ : GEx)), ((⟨1, 1, 0, []⟩ : GEx))]))]), ((24, 4), .arr 1 3 (qGEv x4_2)), ((30, 0), .arr 1 4 (qGEx [((⟨1, 0, 0, []⟩ : GEx)), ((⟨1, 1, 0, []⟩ : GEx))])), ((35, 0), .arr 1 3 (qGOccO x7_0))]⟩ : St))
       (fun (x345 : Int) => (⟨[(5, .ref (24, 4) 1 0 (len (qGEv x4_2))), (6, .mptr (6, 0) 1 0 0), (7, .ref (35, 0) 1 0 (len (qGOccO x7_0))), (8, bA false), (11, iA x345)], [((6, 0), .box 1 [iA 4, iA 0, iA 0, .ref (30, 0) 1 0 (len (qGEx [((⟨1, 0, 0, []⟩ : GEx)), ((⟨1, 1, 0, []⟩ : GEx))]))]), ((24, 4), .arr 1 3 (qGEv x4_2)), ((30, 0), .arr 1 4 (qGEx [((⟨1, 0, 0, []⟩ : GEx)), ((⟨1, 1, 0, []⟩ : GEx))])), ((35, 0), .arr 1 3 (qGOccO x7_0))]⟩ : St)) (fun x => x) (.exit 0)
       (i0 := (_, _)) hl1 (fun _ => rfl) ?_ ?_ ?_
      ·
       rintro ⟨t0, t1⟩ e
       refine cov_of [((6, 0), (6, 0)), ((24, 4), (24, 4)), ((30, 0), (30, 0)), ((35, 0), (35, 0))] ?_
       cbv
       all_goals exact J2
      ·
       rintro x345 hx
       subst o1
       have hh := hq1
       cbv
       replace hh := bind_some hh
       obtain ⟨⟨x394_0, x394_1⟩, h393, hh⟩ := hh
       try dsimp only at hh
       have fc := c_impl_MeanOf_L0S_2 hQ h393
       try dsimp only at fc
       refine go_call hF fc ?_
       cbv
       replace hh := bind_some hh
       obtain ⟨o1, hl1, hq1⟩ := hh
       refine loop_go4 hC eok mixed (fun n (i : Int × Bool × Int) => laws_FnMeanEnds.l9 k (⟨⟨x4_0a, x4_0b, x4_0c, x4_0d⟩, x4_1, x4_2⟩ : GEx × Int × (List GEv)) n i.1 i.2.1 i.2.2)
        (fun ⟨s408, s409, s410⟩ => (⟨[(5, .ref (24, 4) 1 0 (len (qGEv x4_2))), (7, .ref (35, 0) 1 0 (len (qGOccO x7_0))), (8, bA false), (11, iA x345), (14, .ref (96, 0) 1 0 (len (qGOccO x394_0))), (15, bA x394_1), (16, iA s408), (17, bA s409), (18, iA s410)], [((24, 4), .arr 1 3 (qGEv x4_2)), ((35, 0), .arr 1 3 (qGOccO x7_0)), ((96, 0), .arr 1 3 (qGOccO x394_0))]⟩ : St))
        (fun (x431 : Int) => (⟨[(7, .ref (35, 0) 1 0 (len (qGOccO x7_0))), (8, bA false), (11, iA x345), (14, .ref (96, 0) 1 0 (len (qGOccO x394_0))), (15, bA x394_1), (16, iA x431)], [((35, 0), .arr 1 3 (qGOccO x7_0)), ((96, 0), .arr 1 3 (qGOccO x394_0))]⟩ : St)) (fun x => x) (.exit 4)
        (i0 := (_, _, _)) hl1 (fun _ => rfl) ?_ ?_ ?_
       ·
        rintro ⟨t0, t1, t2⟩ e
        refine cov_of [((24, 4), (24, 4)), ((35, 0), (35, 0)), ((96, 0), (96, 0))] ?_
        cbv
        all_goals exact J3
       ·
        rintro x431 hx
        subst o1
        have hh := hq1
        cbv
        refine bcs (fun f453 => ?_) (fun f453 => ?_)
        ·
         replace hh := ifT hh f453
         try rw [f453]
         cbv
         refine bcs (fun f455 => ?_) (fun f455 => ?_)
         ·
          replace hh := ifT hh f455
          try rw [f455]
          cbv
          refine bcs (fun f457 => ?_) (fun f457 => ?_)
          ·
           replace hh := ifT hh f457
           try rw [f457]
           cbv
           exact Eb
          ·
           replace hh := ifF hh f457
           try rw [f457]
           cbv
           exact Eb
         ·
          replace hh := ifF hh f455
          try rw [f455]
          cbv
          exact Eb
        ·
         replace hh := ifF hh f453
         try rw [f453]
         cbv
         refine bcs (fun f459 => ?_) (fun f459 => ?_)
         ·
          replace hh := ifT hh f459
          try rw [f459]
          cbv
          refine bcs (fun f461 => ?_) (fun f461 => ?_)
          ·
           replace hh := ifT hh f461
           try rw [f461]
           cbv
           exact Eb
          ·
           replace hh := ifF hh f461
           try rw [f461]
           cbv
           exact Eb
         ·
          replace hh := ifF hh f459
          try rw [f459]
          cbv
          exact Eb
       ·
        rintro n ⟨s408, s409, s410⟩ N1 D1 hh hN1 hD1 hQ1
        dsimp only at hh
        unfold laws_FnMeanEnds.l9 at hh
        cbv
        refine bcs (fun f433 => ?_) (fun f433 => ?_)
        ·
         replace hh := ifT hh f433
         try rw [f433]
         cbv
         refine bcs (fun f435 => ?_) (fun f435 => ?_)
         ·
          replace hh := ifT hh f435
          try rw [f435]
          cbv
          replace hh := req_some hh
          obtain ⟨h436, hh⟩ := hh
          replace hh := req_some hh
          obtain ⟨h437, hh⟩ := hh
          try dsimp only at h437
          refine ⟨Nb h436, Mb h437, ?_⟩
          replace hh := bind_some hh
          obtain ⟨⟨e438a, e438b, e438c⟩, h439, hh⟩ := hh
          try dsimp only at hh
          refine ⟨[iA e438a, iA e438b, iA e438c], Gb h439, ?_⟩
          cbv
          refine bcs (fun f441 => ?_) (fun f441 => ?_)
          ·
           replace hh := ifT hh f441
           try rw [f441]
           cbv
           refine hN1 (_, _, _) _ hh fun ⟨t0, t1, t2⟩ e => ?_
           refine cov_of [((24, 4), (24, 4)), ((35, 0), (35, 0)), ((96, 0), (96, 0))] ?_
           cbv
           all_goals exact J3
          ·
           replace hh := ifF hh f441
           try rw [f441]
           cbv
           refine hN1 (_, _, _) _ hh fun ⟨t0, t1, t2⟩ e => ?_
           refine cov_of [((24, 4), (24, 4)), ((35, 0), (35, 0)), ((96, 0), (96, 0))] ?_
           cbv
           all_goals exact J3
         ·
          replace hh := ifF hh f435
          try rw [f435]
          cbv
          replace hh := req_some hh
          obtain ⟨h442, hh⟩ := hh
          replace hh := req_some hh
          obtain ⟨h443, hh⟩ := hh
          try dsimp only at h443
          refine ⟨Nb h442, Mb h443, ?_⟩
          replace hh := bind_some hh
          obtain ⟨⟨e444a, e444b, e444c⟩, h445, hh⟩ := hh
          try dsimp only at hh
          refine ⟨[iA e444a, iA e444b, iA e444c], Gb h445, ?_⟩
          cbv
          replace hh := req_some hh
          obtain ⟨h446, hh⟩ := hh
          replace hh := req_some hh
          obtain ⟨h447, hh⟩ := hh
          try dsimp only at h447
          refine ⟨Nb h446, Mb h447, ?_⟩
          refine ⟨[iA e444a, iA e444b, iA e444c], Gb h445, ?_⟩
          cbv
          refine bcs (fun f449 => ?_) (fun f449 => ?_)
          ·
           replace hh := ifT hh f449
           try rw [f449]
           cbv
           refine bcs (fun f451 => ?_) (fun f451 => ?_)
           ·
            replace hh := ifT hh f451
            try rw [f451]
            cbv
            refine hN1 (_, _, _) _ hh fun ⟨t0, t1, t2⟩ e => ?_
            refine cov_of [((24, 4), (24, 4)), ((35, 0), (35, 0)), ((96, 0), (96, 0))] ?_
            cbv
            all_goals exact J3
           ·
            replace hh := ifF hh f451
            try rw [f451]
            cbv
            refine hN1 (_, _, _) _ hh fun ⟨t0, t1, t2⟩ e => ?_
            refine cov_of [((24, 4), (24, 4)), ((35, 0), (35, 0)), ((96, 0), (96, 0))] ?_
            cbv
            all_goals exact J3
          ·
           replace hh := ifF hh f449
           try rw [f449]
           cbv
           refine hN1 (_, _, _) _ hh fun ⟨t0, t1, t2⟩ e => ?_
           refine cov_of [((24, 4), (24, 4)), ((35, 0), (35, 0)), ((96, 0), (96, 0))] ?_
           cbv
           all_goals exact J3
        ·
         replace hh := ifF hh f433
         try rw [f433]
         cbv
         refine hD1 _ _ hh fun t0 e => ?_
         refine cov_of [((35, 0), (35, 0)), ((96, 0), (96, 0))] ?_
         cbv
         all_goals exact J1
      ·
       rintro n ⟨s296, s297⟩ N1 D1 hh hN1 hD1 hQ1
       dsimp only at hh
       unfold laws_FnMeanEnds.l7 at hh
       cbv
       refine bcs (fun f347 => ?_) (fun f347 => ?_)
       ·
        replace hh := ifT hh f347
        try rw [f347]
        cbv
        replace hh := bind_some hh
        obtain ⟨o2, hl2, hq2⟩ := hh
        refine loop_go4 hC eok mixed (fun n (i : Int × Int) => laws_FnMeanEnds.l8 k s297 (⟨⟨x4_0a, x4_0b, x4_0c, x4_0d⟩, x4_1, x4_2⟩ : GEx × Int × (List GEv)) n i.1 i.2)
         (fun ⟨s362, s363⟩ => (⟨[(5, .ref (24, 4) 1 0 (len (qGEv x4_2))), (6, .mptr (6, 0) 1 0 0), (7, .ref (35, 0) 1 0 (len (qGOccO x7_0))), (8, bA false), (11, iA s362), (12, iA s297), (13, iA s363)], [((6, 0), .box 1 [iA 4, iA 0, iA 0, .ref (30, 0) 1 0 (len (qGEx [((⟨1, 0, 0, []⟩ : GEx)), ((⟨1, 1, 0, []⟩ : GEx))]))]), ((24, 4), .arr 1 3 (qGEv x4_2)), ((30, 0), .arr 1 4 (qGEx [((⟨1, 0, 0, []⟩ : GEx)), ((⟨1, 1, 0, []⟩ : GEx))])), ((35, 0), .arr 1 3 (qGOccO x7_0))]⟩ : St))
         (fun (x378 : Int) => (⟨[(5, .ref (24, 4) 1 0 (len (qGEv x4_2))), (6, .mptr (6, 0) 1 0 0), (7, .ref (35, 0) 1 0 (len (qGOccO x7_0))), (8, bA false), (11, iA x378), (12, iA s297)], [((6, 0), .box 1 [iA 4, iA 0, iA 0, .ref (30, 0) 1 0 (len (qGEx [((⟨1, 0, 0, []⟩ : GEx)), ((⟨1, 1, 0, []⟩ : GEx))]))]), ((24, 4), .arr 1 3 (qGEv x4_2)), ((30, 0), .arr 1 4 (qGEx [((⟨1, 0, 0, []⟩ : GEx)), ((⟨1, 1, 0, []⟩ : GEx))])), ((35, 0), .arr 1 3 (qGOccO x7_0))]⟩ : St)) (fun x => x) (.exit 2)
         (i0 := (_, _)) hl2 (fun _ => rfl) ?_ ?_ ?_
        ·
         rintro ⟨t0, t1⟩ e
         refine cov_of [((6, 0), (6, 0)), ((24, 4), (24, 4)), ((30, 0), (30, 0)), ((35, 0), (35, 0))] ?_
         cbv
         all_goals exact J2
        ·
         rintro x378 hx
         subst o2
         have hh := hq2
         cbv
         refine hN1 (_, _) _ hh fun ⟨t0, t1⟩ e => ?_
         refine cov_of [((6, 0), (6, 0)), ((24, 4), (24, 4)), ((30, 0), (30, 0)), ((35, 0), (35, 0))] ?_
         cbv
         all_goals exact J2
        ·
         rintro n ⟨s362, s363⟩ N2 D2 hh hN2 hD2 hQ2
         dsimp only at hh
         unfold laws_FnMeanEnds.l8 at hh
         cbv
         refine bcs (fun f380 => ?_) (fun f380 => ?_)
         ·
          replace hh := ifT hh f380
          try rw [f380]
          cbv
          replace hh := req_some hh
          obtain ⟨h381, hh⟩ := hh
          replace hh := req_some hh
          obtain ⟨h382, hh⟩ := hh
          try dsimp only at h382
          refine ⟨Nb h381, Mb h382, ?_⟩
          replace hh := bind_some hh
          obtain ⟨⟨e383a, e383b, e383c⟩, h384, hh⟩ := hh
          try dsimp only at hh
          refine ⟨[iA e383a, iA e383b, iA e383c], Gb h384, ?_⟩
          cbv
          refine bcs (fun f386 => ?_) (fun f386 => ?_)
          ·
           replace hh := ifT hh f386
           try rw [f386]
           cbv
           replace hh := req_some hh
           obtain ⟨h387, hh⟩ := hh
           replace hh := req_some hh
           obtain ⟨h388, hh⟩ := hh
           try dsimp only at h388
           refine ⟨Nb h387, Mb h388, ?_⟩
           replace hh := bind_some hh
           obtain ⟨⟨e389a, e389b, e389c⟩, h390, hh⟩ := hh
           try dsimp only at hh
           refine ⟨[iA e389a, iA e389b, iA e389c], Gb h390, ?_⟩
           cbv
           refine bcs (fun f392 => ?_) (fun f392 => ?_)
           ·
            replace hh := ifT hh f392
            try rw [f392]
            cbv
            refine hN2 (_, _) _ hh fun ⟨t0, t1⟩ e => ?_
            refine cov_of [((6, 0), (6, 0)), ((24, 4), (24, 4)), ((30, 0), (30, 0)), ((35, 0), (35, 0))] ?_
            cbv
            all_goals exact J2
           ·
            replace hh := ifF hh f392
            try rw [f392]
            cbv
            refine hN2 (_, _) _ hh fun ⟨t0, t1⟩ e => ?_
            refine cov_of [((6, 0), (6, 0)), ((24, 4), (24, 4)), ((30, 0), (30, 0)), ((35, 0), (35, 0))] ?_
            cbv
            all_goals exact J2
          ·
           replace hh := ifF hh f386
           try rw [f386]
           cbv
           refine hN2 (_, _) _ hh fun ⟨t0, t1⟩ e => ?_
           refine cov_of [((6, 0), (6, 0)), ((24, 4), (24, 4)), ((30, 0), (30, 0)), ((35, 0), (35, 0))] ?_
           cbv
           all_goals exact J2
         ·
          replace hh := ifF hh f380
          try rw [f380]
          cbv
          refine hD2 _ _ hh fun t0 e => ?_
          refine cov_of [((6, 0), (6, 0)), ((24, 4), (24, 4)), ((30, 0), (30, 0)), ((35, 0), (35, 0))] ?_
          cbv
          all_goals exact J1
       ·
        replace hh := ifF hh f347
        try rw [f347]
        cbv
        refine hD1 _ _ hh fun t0 e => ?_
        refine cov_of [((6, 0), (6, 0)), ((24, 4), (24, 4)), ((30, 0), (30, 0)), ((35, 0), (35, 0))] ?_
        cbv
        all_goals exact J1
     ·
      have f250 : x247 = false := Fb b249
      have g := f250; cbv at g; try rw [f250]
      try rw [g]
      cbv
      replace hh := bind_some hh
      obtain ⟨x463, h462, hh⟩ := hh
      refine go_call hF (c_impl_OccsSame_L0_1 hQ h462) ?_
      cbv
      exact Eb
    ·
     have f245 : x242 = false := Fb b244
     have g := f245; cbv at g; try rw [f245]
     try rw [g]
     cbv
     replace hh := bind_some hh
     obtain ⟨x466, h465, hh⟩ := hh
     refine go_call hF (c_impl_OccsSame_L0_1 hQ h465) ?_
     cbv
     exact Eb

end Go.Proofs.YtdhlbpgjcfdofaaGreat
