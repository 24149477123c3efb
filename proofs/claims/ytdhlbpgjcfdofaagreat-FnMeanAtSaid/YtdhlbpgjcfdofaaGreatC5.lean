/- The functions of this program do what the plain ones do. -/
import Derived.Test.YtdhlbpgjcfdofaaGreatC4
namespace Go.Proofs.YtdhlbpgjcfdofaaGreat
open Go Go.Vm
set_option linter.unusedVariables false
set_option maxHeartbeats 4000000
variable {qIu8 : List Int → Vm.Rows} {qInt : List Int → Vm.Rows} {qGExO : List GEx → Vm.Rows} {qGEx : List GEx → Vm.Rows} {qGEv : List GEv → Vm.Rows} {qGOccO : List GOcc → Vm.Rows} {qGOcc : List GOcc → Vm.Rows} {qLGOccO : List (List GOcc) → Vm.Rows} {qLGOcc : List (List GOcc) → Vm.Rows} {qLInt : List (List Int) → Vm.Rows} {qBool : List Bool → Vm.Rows} (hQ : EQ qIu8 qInt qGExO qGEx qGEv qGOccO qGOcc qLGOccO qLGOcc qLInt qBool)
include hQ
theorem c_laws_FnMeanAt {k : Nat} {p0 : List Int} {r : Bool} (hh : laws_FnMeanAt.f k p0 = some r) : FunW P 12 [tA (qIu8 p0)] [hA] (bA r) := by
 unfold laws_FnMeanAt.f at hh
 refine go (ts := [(2, none)]) (rm := [.own]) (pm := [.skip]) Tryz.func12 ?_
 intro Fn LW len cast toNat wrap add sub mul bin lt eq At set part app fz' rep nadd nmax ssize sext sget scat seq slt Wide Flat Ones Room r' post' hC hF hr hp
 cbv
 refine bcs (fun f2 => ?_) (fun f2 => ?_)
 ·
  replace hh := ifT hh f2
  try rw [f2]
  cbv
  exact Eb
 ·
  replace hh := ifF hh f2
  try rw [f2]
  cbv
  replace hh := bind_some hh
  obtain ⟨⟨⟨x4_0a, x4_0b, x4_0c, x4_0d⟩, x4_1, x4_2, x4_3⟩, h3, hh⟩ := hh
  try dsimp only at hh
  have fc := c_spec_DrawMeanAt hQ h3
  try dsimp only at fc
  refine go_call hF fc ?_
  cbv
  replace hh := bind_some hh
  obtain ⟨⟨x7_0, x7_1⟩, h6, hh⟩ := hh
  try dsimp only at hh
  have fc := c_impl_MeanOf_L0_2 hQ h6
  try dsimp only at fc
  refine go_call hF fc ?_
  cbv
  replace hh := bind_some hh
  obtain ⟨x10, h9, hh⟩ := hh
  refine ⟨Ob, ?_⟩
  refine ⟨Ob, ?_⟩
  refine go_call hF (c_impl_MeanAt hQ h9) ?_
  cbv
  replace hh := bind_some hh
  obtain ⟨x13, h12, hh⟩ := hh
  refine ⟨Ob, ?_⟩
  refine ⟨Ob, ?_⟩
  refine go_call hF (c_spec_MeanAt hQ h12) ?_
  cbv
  replace hh := bind_some hh
  obtain ⟨x16, h15, hh⟩ := hh
  refine go_call hF (c_impl_OccsSame_L0S_1 hQ h15) ?_
  cbv
  replace hh := if_or hh
  rcases hh with ⟨b18, hh⟩ | ⟨b18, hh⟩
  ·
   have f19 : x16 = true := Tb b18
   have g := f19; cbv at g; try rw [f19]
   try rw [g]
   cbv
   replace hh := bind_some hh
   obtain ⟨x21, h20, hh⟩ := hh
   refine ⟨Ob, ?_⟩
   refine ⟨Ob, ?_⟩
   refine go_call hF (c_impl_MeanFirst hQ h20) ?_
   cbv
   replace hh := bind_some hh
   obtain ⟨x24, h23, hh⟩ := hh
   refine ⟨Ob, ?_⟩
   refine ⟨Ob, ?_⟩
   refine go_call hF (c_impl_MeanUsed hQ h23) ?_
   cbv
   replace hh := bind_some hh
   obtain ⟨x27, h26, hh⟩ := hh
   refine ⟨Ob, ?_⟩
   refine ⟨Ob, ?_⟩
   refine go_call hF (c_spec_MeanFirst hQ h26) ?_
   cbv
   replace hh := if_or hh
   rcases hh with ⟨b29, hh⟩ | ⟨b29, hh⟩
   ·
    have f30 : (eq x21 x27) = true := Tb b29
    have g := f30; cbv at g; try rw [f30]
    try rw [g]
    cbv
    replace hh := bind_some hh
    obtain ⟨x32, h31, hh⟩ := hh
    refine ⟨Ob, ?_⟩
    refine ⟨Ob, ?_⟩
    refine go_call hF (c_spec_MeanUsed hQ h31) ?_
    cbv
    replace hh := if_or hh
    rcases hh with ⟨b34, hh⟩ | ⟨b34, hh⟩
    ·
     have f35 : (eq (cast (len (qInt x24))) (cast (len (qInt x32)))) = true := Tb b34
     have g := f35; cbv at g; try rw [f35]
     try rw [g]
     cbv
     replace hh := bind_some hh
     obtain ⟨o1, hl1, hq1⟩ := hh
     refine loop_go4 hC eok mixed (fun n (i : (List GOcc) × Int × Int) => laws_FnMeanAt.l16 k (⟨⟨x4_0a, x4_0b, x4_0c, x4_0d⟩, x4_1, x4_2, x4_3⟩ : GEx × Int × (List GEv) × Int) x24 n i.1 i.2.1 i.2.2)
      (fun ⟨s404, s405, s406⟩ => (⟨[(6, iA x4_3), (7, .ref (31, 0) 1 0 (len (qGOccO s404))), (9, .ref (38, 0) 1 0 (len (qGOcc x10))), (10, iA x21), (11, .ref (54, 0) 1 0 (len (qInt x24))), (12, iA s405), (13, iA s406)], [((31, 0), .arr 1 3 (qGOccO s404)), ((38, 0), .arr 1 3 (qGOcc x10)), ((54, 0), .arr 1 1 (qInt x24))]⟩ : St))
      (fun (⟨x775, x776⟩ : (List GOcc) × Int) => (⟨[(7, .ref (31, 0) 1 0 (len (qGOccO x775))), (9, .ref (38, 0) 1 0 (len (qGOcc x10))), (10, iA x21), (11, .ref (54, 0) 1 0 (len (qInt x24))), (12, iA x776)], [((31, 0), .arr 1 3 (qGOccO x775)), ((38, 0), .arr 1 3 (qGOcc x10)), ((54, 0), .arr 1 1 (qInt x24))]⟩ : St)) .ok (.exit 0)
      (i0 := (_, _, _)) hl1 (fun _ => rfl) ?_ ?_ ?_
     ·
      rintro ⟨t0, t1, t2⟩ e
      refine cov_of [((31, 0), (31, 0)), ((38, 0), (38, 0)), ((54, 0), (54, 0))] ?_
      cbv
      all_goals exact J3
     ·
      rintro ⟨x775, x776⟩ hx
      subst o1
      have hh := hq1
      cbv
      refine bcs (fun f1146 => ?_) (fun f1146 => ?_)
      ·
       replace hh := ifT hh f1146
       try rw [f1146]
       cbv
       replace hh := if_or hh
       rcases hh with ⟨b1147, hh⟩ | ⟨b1147, hh⟩
       ·
        have f1148 : (eq x21 (-1)) = true := Tb b1147
        have g := f1148; cbv at g; try rw [f1148]
        try rw [g]
        cbv
        replace hh := if_or hh
        rcases hh with ⟨b1149, hh⟩ | ⟨b1149, hh⟩
        ·
         have f1150 : (eq (cast (len (qGOccO x775))) 0) = true := Tb b1149
         have g := f1150; cbv at g; try rw [f1150]
         try rw [g]
         cbv
         first | rw [f1150] | (have g := f1150; cbv at g; rw [g])
         cbv
         exact Eb
        ·
         have f1150 : (eq (cast (len (qGOccO x775))) 0) = false := Fb b1149
         have g := f1150; cbv at g; try rw [f1150]
         try rw [g]
         cbv
         exact Eb
       ·
        have f1148 : (eq x21 (-1)) = false := Fb b1147
        have g := f1148; cbv at g; try rw [f1148]
        try rw [g]
        cbv
        replace hh := if_or hh
        rcases hh with ⟨b1151, hh⟩ | ⟨b1151, hh⟩
        ·
         have f1152 : (eq (cast (len (qGOccO x775))) 0) = true := Tb b1151
         have g := f1152; cbv at g; try rw [f1152]
         try rw [g]
         cbv
         exact Eb
        ·
         have f1152 : (eq (cast (len (qGOccO x775))) 0) = false := Fb b1151
         have g := f1152; cbv at g; try rw [f1152]
         try rw [g]
         cbv
         first | rw [f1152] | (have g := f1152; cbv at g; rw [g])
         cbv
         replace hh := req_some hh
         obtain ⟨h1153, hh⟩ := hh
         replace hh := req_some hh
         obtain ⟨h1154, hh⟩ := hh
         refine ⟨Nb h1153, Mb h1154, ?_⟩
         replace hh := bind_some hh
         obtain ⟨⟨e1155a, e1155b, e1155c⟩, h1156, hh⟩ := hh
         try dsimp only at hh
         refine ⟨[iA e1155a, iA e1155b, oA 1 (qInt e1155c)], Gb h1156, ?_⟩
         cbv
         refine bcs (fun f1158 => ?_) (fun f1158 => ?_)
         ·
          replace hh := ifT hh f1158
          try rw [f1158]
          cbv
          exact Eb
         ·
          replace hh := ifF hh f1158
          try rw [f1158]
          cbv
          exact Eb
      ·
       replace hh := ifF hh f1146
       try rw [f1146]
       cbv
       exact Eb
     ·
      rintro n ⟨s404, s405, s406⟩ N1 D1 hh hN1 hD1 hQ1
      dsimp only at hh
      unfold laws_FnMeanAt.l16 at hh
      cbv
      refine bcs (fun f778 => ?_) (fun f778 => ?_)
      ·
       replace hh := ifT hh f778
       try rw [f778]
       cbv
       replace hh := req_some hh
       obtain ⟨h779, hh⟩ := hh
       replace hh := req_some hh
       obtain ⟨h780, hh⟩ := hh
       refine ⟨Nb h779, Mb h780, ?_⟩
       replace hh := bind_some hh
       obtain ⟨⟨e781a, e781b, e781c⟩, h782, hh⟩ := hh
       try dsimp only at hh
       refine ⟨[iA e781a, iA e781b, oA 1 (qInt e781c)], Gb h782, ?_⟩
       cbv
       refine bcs (fun f784 => ?_) (fun f784 => ?_)
       ·
        replace hh := ifT hh f784
        try rw [f784]
        cbv
        replace hh := bind_some hh
        obtain ⟨o2, hl2, hq2⟩ := hh
        refine loop_go4 hC eok mixed (fun n (i : (List GOcc) × Int) => laws_FnMeanAt.l19 k s406 x24 n i.1 i.2)
         (fun ⟨s844, s845⟩ => (⟨[(6, iA x4_3), (7, .ref (31, 0) 1 0 (len (qGOccO s844))), (9, .ref (38, 0) 1 0 (len (qGOcc x10))), (10, iA x21), (11, .ref (54, 0) 1 0 (len (qInt x24))), (12, iA (wrap .i64 (add s405 1))), (13, iA s406), (14, iA s845)], [((31, 0), .arr 1 3 (qGOccO s844)), ((38, 0), .arr 1 3 (qGOcc x10)), ((54, 0), .arr 1 1 (qInt x24))]⟩ : St))
         (fun (x905 : List GOcc) => (⟨[(6, iA x4_3), (7, .ref (31, 0) 1 0 (len (qGOccO x905))), (9, .ref (38, 0) 1 0 (len (qGOcc x10))), (10, iA x21), (11, .ref (54, 0) 1 0 (len (qInt x24))), (12, iA (wrap .i64 (add s405 1))), (13, iA s406)], [((31, 0), .arr 1 3 (qGOccO x905)), ((38, 0), .arr 1 3 (qGOcc x10)), ((54, 0), .arr 1 1 (qInt x24))]⟩ : St)) .ok (.exit 2)
         (i0 := (_, _)) hl2 (fun _ => rfl) ?_ ?_ ?_
        ·
         rintro ⟨t0, t1⟩ e
         refine cov_of [((31, 0), (31, 0)), ((38, 0), (38, 0)), ((54, 0), (54, 0))] ?_
         cbv
         all_goals exact J2
        ·
         rintro x905 hx
         subst o2
         have hh := hq2
         cbv
         refine hN1 (_, _, _) _ hh fun ⟨t0, t1, t2⟩ e => ?_
         refine cov_of [((31, 0), (31, 0)), ((38, 0), (38, 0)), ((54, 0), (54, 0))] ?_
         cbv
         all_goals exact J3
        ·
         rintro n ⟨s844, s845⟩ N2 D2 hh hN2 hD2 hQ2
         dsimp only at hh
         unfold laws_FnMeanAt.l19 at hh
         cbv
         replace hh := req_some hh
         obtain ⟨h906, hh⟩ := hh
         replace hh := req_some hh
         obtain ⟨h907, hh⟩ := hh
         refine ⟨Nb h906, Mb h907, ?_⟩
         replace hh := bind_some hh
         obtain ⟨⟨e908a, e908b, e908c⟩, h909, hh⟩ := hh
         try dsimp only at hh
         refine ⟨[iA e908a, iA e908b, oA 1 (qInt e908c)], Gb h909, ?_⟩
         cbv
         refine bcs (fun f911 => ?_) (fun f911 => ?_)
         ·
          replace hh := ifT hh f911
          try rw [f911]
          cbv
          replace hh := bind_some hh
          obtain ⟨o3, hl3, hq3⟩ := hh
          refine loop_go4 hC eok mixed (fun n (i : (List GOcc) × Bool × Int) => laws_FnMeanAt.l20 k s406 s845 x24 n i.1 i.2.1 i.2.2)
           (fun ⟨s926, s927, s928⟩ => (⟨[(6, iA x4_3), (7, .ref (31, 0) 1 0 (len (qGOccO s926))), (9, .ref (38, 0) 1 0 (len (qGOcc x10))), (10, iA x21), (11, .ref (54, 0) 1 0 (len (qInt x24))), (12, iA (wrap .i64 (add s405 1))), (13, iA s406), (14, iA s845), (15, bA s927), (16, iA s928)], [((31, 0), .arr 1 3 (qGOccO s926)), ((38, 0), .arr 1 3 (qGOcc x10)), ((54, 0), .arr 1 1 (qInt x24))]⟩ : St))
           (fun (⟨x945, x946⟩ : (List GOcc) × Bool) => (⟨[(6, iA x4_3), (7, .ref (31, 0) 1 0 (len (qGOccO x945))), (9, .ref (38, 0) 1 0 (len (qGOcc x10))), (10, iA x21), (11, .ref (54, 0) 1 0 (len (qInt x24))), (12, iA (wrap .i64 (add s405 1))), (13, iA s406), (14, iA s845), (15, bA x946)], [((31, 0), .arr 1 3 (qGOccO x945)), ((38, 0), .arr 1 3 (qGOcc x10)), ((54, 0), .arr 1 1 (qInt x24))]⟩ : St)) (fun x => x) (.exit 4)
           (i0 := (_, _, _)) hl3 (fun _ => rfl) ?_ ?_ ?_
          ·
           rintro ⟨t0, t1, t2⟩ e
           refine cov_shut hC (31, 0) ?_
           cbv
           refine cov_of [((31, 0), (31, 0)), ((38, 0), (38, 0)), ((54, 0), (54, 0))] ?_
           cbv
           all_goals exact J3
          ·
           rintro ⟨x945, x946⟩ hx
           subst o3
           have hh := hq3
           cbv
           replace hh := if_or hh
           rcases hh with ⟨b963, hh⟩ | ⟨b963, hh⟩
           ·
            have f964 : x946 = true := Tb b963
            have g := f964; cbv at g; try rw [f964]
            try rw [g]
            cbv
            refine hN2 (_, _) _ hh fun ⟨t0, t1⟩ e => ?_
            refine cov_of [((31, 0), (31, 0)), ((38, 0), (38, 0)), ((54, 0), (54, 0))] ?_
            cbv
            all_goals exact J2
           ·
            have f964 : x946 = false := Fb b963
            have g := f964; cbv at g; try rw [f964]
            try rw [g]
            cbv
            cases hh
            have hh : some _ = some _ := hq2
            cases hh
            have hh : some _ = some _ := hq1
            refine hQ2 _ _ ?_
            refine hQ1 _ _ ?_
            cbv
            exact Eb
          ·
           rintro n ⟨s926, s927, s928⟩ N3 D3 hh hN3 hD3 hQ3
           dsimp only at hh
           unfold laws_FnMeanAt.l20 at hh
           cbv
           refine bcs (fun f948 => ?_) (fun f948 => ?_)
           ·
            replace hh := ifT hh f948
            try rw [f948]
            cbv
            refine bcs (fun f950 => ?_) (fun f950 => ?_)
            ·
             replace hh := ifT hh f950
             try rw [f950]
             cbv
             refine hN3 (_, _, _) _ hh fun ⟨t0, t1, t2⟩ e => ?_
             refine cov_of [((31, 0), (31, 0)), ((38, 0), (38, 0)), ((54, 0), (54, 0))] ?_
             cbv
             all_goals exact J3
            ·
             replace hh := ifF hh f950
             try rw [f950]
             cbv
             replace hh := req_some hh
             obtain ⟨h951, hh⟩ := hh
             replace hh := req_some hh
             obtain ⟨h952, hh⟩ := hh
             refine ⟨Nb h951, Mb h952, ?_⟩
             replace hh := bind_some hh
             obtain ⟨e953, h954, hh⟩ := hh
             refine ⟨[iA e953], Gb h954, ?_⟩
             cbv
             replace hh := req_some hh
             obtain ⟨h955, hh⟩ := hh
             replace hh := req_some hh
             obtain ⟨h956, hh⟩ := hh
             refine ⟨Nb h955, Mb h956, ?_⟩
             replace hh := bind_some hh
             obtain ⟨⟨e957a, e957b, e957c⟩, h958, hh⟩ := hh
             try dsimp only at hh
             refine ⟨[iA e957a, iA e957b, oA 1 (qInt e957c)], Gb h958, ?_⟩
             cbv
             replace hh := req_some hh
             obtain ⟨h959, hh⟩ := hh
             replace hh := req_some hh
             obtain ⟨h960, hh⟩ := hh
             try dsimp only at h960
             refine ⟨Nb h959, Mb h960, ?_⟩
             replace hh := bind_some hh
             obtain ⟨e961, h962, hh⟩ := hh
             refine ⟨[iA e961], Gb h962, ?_⟩
             cbv
             refine hN3 (_, _, _) _ hh fun ⟨t0, t1, t2⟩ e => ?_
             refine cov_shut hC (31, 0) ?_
             cbv
             refine cov_of [((31, 0), (31, 0)), ((38, 0), (38, 0)), ((54, 0), (54, 0))] ?_
             cbv
             all_goals exact J3
           ·
            replace hh := ifF hh f948
            try rw [f948]
            cbv
            refine hD3 (_, _) _ hh fun ⟨t0, t1⟩ e => ?_
            refine cov_of [((31, 0), (31, 0)), ((38, 0), (38, 0)), ((54, 0), (54, 0))] ?_
            cbv
            all_goals exact J2
         ·
          replace hh := ifF hh f911
          try rw [f911]
          cbv
          refine hD2 _ _ hh fun t0 e => ?_
          refine cov_shut hC (31, 0) ?_
          cbv
          refine cov_of [((31, 0), (31, 0)), ((38, 0), (38, 0)), ((54, 0), (54, 0))] ?_
          cbv
          all_goals exact J1
       ·
        replace hh := ifF hh f784
        try rw [f784]
        cbv
        replace hh := bind_some hh
        obtain ⟨o2, hl2, hq2⟩ := hh
        refine loop_go4 hC eok mixed (fun n (i : (List GOcc) × Int) => laws_FnMeanAt.l23 k s406 x24 n i.1 i.2)
         (fun ⟨s1024, s1025⟩ => (⟨[(6, iA x4_3), (7, .ref (31, 0) 1 0 (len (qGOccO s1024))), (9, .ref (38, 0) 1 0 (len (qGOcc x10))), (10, iA x21), (11, .ref (54, 0) 1 0 (len (qInt x24))), (12, iA s405), (13, iA s406), (14, iA s1025)], [((31, 0), .arr 1 3 (qGOccO s1024)), ((38, 0), .arr 1 3 (qGOcc x10)), ((54, 0), .arr 1 1 (qInt x24))]⟩ : St))
         (fun (x1085 : List GOcc) => (⟨[(6, iA x4_3), (7, .ref (31, 0) 1 0 (len (qGOccO x1085))), (9, .ref (38, 0) 1 0 (len (qGOcc x10))), (10, iA x21), (11, .ref (54, 0) 1 0 (len (qInt x24))), (12, iA s405), (13, iA s406)], [((31, 0), .arr 1 3 (qGOccO x1085)), ((38, 0), .arr 1 3 (qGOcc x10)), ((54, 0), .arr 1 1 (qInt x24))]⟩ : St)) .ok (.exit 2)
         (i0 := (_, _)) hl2 (fun _ => rfl) ?_ ?_ ?_
        ·
         rintro ⟨t0, t1⟩ e
         refine cov_of [((31, 0), (31, 0)), ((38, 0), (38, 0)), ((54, 0), (54, 0))] ?_
         cbv
         all_goals exact J2
        ·
         rintro x1085 hx
         subst o2
         have hh := hq2
         cbv
         refine hN1 (_, _, _) _ hh fun ⟨t0, t1, t2⟩ e => ?_
         refine cov_of [((31, 0), (31, 0)), ((38, 0), (38, 0)), ((54, 0), (54, 0))] ?_
         cbv
         all_goals exact J3
        ·
         rintro n ⟨s1024, s1025⟩ N2 D2 hh hN2 hD2 hQ2
         dsimp only at hh
         unfold laws_FnMeanAt.l23 at hh
         cbv
         replace hh := req_some hh
         obtain ⟨h1086, hh⟩ := hh
         replace hh := req_some hh
         obtain ⟨h1087, hh⟩ := hh
         refine ⟨Nb h1086, Mb h1087, ?_⟩
         replace hh := bind_some hh
         obtain ⟨⟨e1088a, e1088b, e1088c⟩, h1089, hh⟩ := hh
         try dsimp only at hh
         refine ⟨[iA e1088a, iA e1088b, oA 1 (qInt e1088c)], Gb h1089, ?_⟩
         cbv
         refine bcs (fun f1091 => ?_) (fun f1091 => ?_)
         ·
          replace hh := ifT hh f1091
          try rw [f1091]
          cbv
          replace hh := bind_some hh
          obtain ⟨o3, hl3, hq3⟩ := hh
          refine loop_go4 hC eok mixed (fun n (i : (List GOcc) × Bool × Int) => laws_FnMeanAt.l24 k s406 s1025 x24 n i.1 i.2.1 i.2.2)
           (fun ⟨s1106, s1107, s1108⟩ => (⟨[(6, iA x4_3), (7, .ref (31, 0) 1 0 (len (qGOccO s1106))), (9, .ref (38, 0) 1 0 (len (qGOcc x10))), (10, iA x21), (11, .ref (54, 0) 1 0 (len (qInt x24))), (12, iA s405), (13, iA s406), (14, iA s1025), (15, bA s1107), (16, iA s1108)], [((31, 0), .arr 1 3 (qGOccO s1106)), ((38, 0), .arr 1 3 (qGOcc x10)), ((54, 0), .arr 1 1 (qInt x24))]⟩ : St))
           (fun (⟨x1125, x1126⟩ : (List GOcc) × Bool) => (⟨[(6, iA x4_3), (7, .ref (31, 0) 1 0 (len (qGOccO x1125))), (9, .ref (38, 0) 1 0 (len (qGOcc x10))), (10, iA x21), (11, .ref (54, 0) 1 0 (len (qInt x24))), (12, iA s405), (13, iA s406), (14, iA s1025), (15, bA x1126)], [((31, 0), .arr 1 3 (qGOccO x1125)), ((38, 0), .arr 1 3 (qGOcc x10)), ((54, 0), .arr 1 1 (qInt x24))]⟩ : St)) (fun x => x) (.exit 4)
           (i0 := (_, _, _)) hl3 (fun _ => rfl) ?_ ?_ ?_
          ·
           rintro ⟨t0, t1, t2⟩ e
           refine cov_shut hC (31, 0) ?_
           cbv
           refine cov_of [((31, 0), (31, 0)), ((38, 0), (38, 0)), ((54, 0), (54, 0))] ?_
           cbv
           all_goals exact J3
          ·
           rintro ⟨x1125, x1126⟩ hx
           subst o3
           have hh := hq3
           cbv
           replace hh := if_or hh
           rcases hh with ⟨b1143, hh⟩ | ⟨b1143, hh⟩
           ·
            have f1144 : x1126 = true := Tb b1143
            have g := f1144; cbv at g; try rw [f1144]
            try rw [g]
            cbv
            refine hN2 (_, _) _ hh fun ⟨t0, t1⟩ e => ?_
            refine cov_of [((31, 0), (31, 0)), ((38, 0), (38, 0)), ((54, 0), (54, 0))] ?_
            cbv
            all_goals exact J2
           ·
            have f1144 : x1126 = false := Fb b1143
            have g := f1144; cbv at g; try rw [f1144]
            try rw [g]
            cbv
            cases hh
            have hh : some _ = some _ := hq2
            cases hh
            have hh : some _ = some _ := hq1
            refine hQ2 _ _ ?_
            refine hQ1 _ _ ?_
            cbv
            exact Eb
          ·
           rintro n ⟨s1106, s1107, s1108⟩ N3 D3 hh hN3 hD3 hQ3
           dsimp only at hh
           unfold laws_FnMeanAt.l24 at hh
           cbv
           refine bcs (fun f1128 => ?_) (fun f1128 => ?_)
           ·
            replace hh := ifT hh f1128
            try rw [f1128]
            cbv
            refine bcs (fun f1130 => ?_) (fun f1130 => ?_)
            ·
             replace hh := ifT hh f1130
             try rw [f1130]
             cbv
             refine hN3 (_, _, _) _ hh fun ⟨t0, t1, t2⟩ e => ?_
             refine cov_of [((31, 0), (31, 0)), ((38, 0), (38, 0)), ((54, 0), (54, 0))] ?_
             cbv
             all_goals exact J3
            ·
             replace hh := ifF hh f1130
             try rw [f1130]
             cbv
             replace hh := req_some hh
             obtain ⟨h1131, hh⟩ := hh
             replace hh := req_some hh
             obtain ⟨h1132, hh⟩ := hh
             refine ⟨Nb h1131, Mb h1132, ?_⟩
             replace hh := bind_some hh
             obtain ⟨e1133, h1134, hh⟩ := hh
             refine ⟨[iA e1133], Gb h1134, ?_⟩
             cbv
             replace hh := req_some hh
             obtain ⟨h1135, hh⟩ := hh
             replace hh := req_some hh
             obtain ⟨h1136, hh⟩ := hh
             refine ⟨Nb h1135, Mb h1136, ?_⟩
             replace hh := bind_some hh
             obtain ⟨⟨e1137a, e1137b, e1137c⟩, h1138, hh⟩ := hh
             try dsimp only at hh
             refine ⟨[iA e1137a, iA e1137b, oA 1 (qInt e1137c)], Gb h1138, ?_⟩
             cbv
             replace hh := req_some hh
             obtain ⟨h1139, hh⟩ := hh
             replace hh := req_some hh
             obtain ⟨h1140, hh⟩ := hh
             try dsimp only at h1140
             refine ⟨Nb h1139, Mb h1140, ?_⟩
             replace hh := bind_some hh
             obtain ⟨e1141, h1142, hh⟩ := hh
             refine ⟨[iA e1141], Gb h1142, ?_⟩
             cbv
             refine hN3 (_, _, _) _ hh fun ⟨t0, t1, t2⟩ e => ?_
             refine cov_shut hC (31, 0) ?_
             cbv
             refine cov_of [((31, 0), (31, 0)), ((38, 0), (38, 0)), ((54, 0), (54, 0))] ?_
             cbv
             all_goals exact J3
           ·
            replace hh := ifF hh f1128
            try rw [f1128]
            cbv
            refine hD3 (_, _) _ hh fun ⟨t0, t1⟩ e => ?_
            refine cov_of [((31, 0), (31, 0)), ((38, 0), (38, 0)), ((54, 0), (54, 0))] ?_
            cbv
            all_goals exact J2
         ·
          replace hh := ifF hh f1091
          try rw [f1091]
          cbv
          refine hD2 _ _ hh fun t0 e => ?_
          refine cov_shut hC (31, 0) ?_
          cbv
          refine cov_of [((31, 0), (31, 0)), ((38, 0), (38, 0)), ((54, 0), (54, 0))] ?_
          cbv
          all_goals exact J1
      ·
       replace hh := ifF hh f778
       try rw [f778]
       cbv
       refine hD1 (_, _) _ hh fun ⟨t0, t1⟩ e => ?_
       refine cov_of [((31, 0), (31, 0)), ((38, 0), (38, 0)), ((54, 0), (54, 0))] ?_
       cbv
       all_goals exact J2
    ·
     have f35 : (eq (cast (len (qInt x24))) (cast (len (qInt x32)))) = false := Fb b34
     have g := f35; cbv at g; try rw [f35]
     try rw [g]
     cbv
     exact Eb
   ·
    have f30 : (eq x21 x27) = false := Fb b29
    have g := f30; cbv at g; try rw [f30]
    try rw [g]
    cbv
    exact Eb
  ·
   have f19 : x16 = false := Fb b18
   have g := f19; cbv at g; try rw [f19]
   try rw [g]
   cbv
   exact Eb

end Go.Proofs.YtdhlbpgjcfdofaaGreat
