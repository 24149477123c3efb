/- The functions of this program do what the plain ones do. -/
import Derived.Test.YtdhlbpgjcfdofaaGreatN
import Derived.Test.YtdhlbpgjcfdofaaGreatVE
import Derived.Test.YtdhlbpgjcfdofaaGreatX
namespace Go.Proofs.YtdhlbpgjcfdofaaGreat
open Go Go.Vm
set_option linter.unusedVariables false
set_option maxHeartbeats 4000000
noncomputable abbrev P : Program := Tryz.prog
variable {qGEx : List GEx → Vm.Rows} {qGEv : List GEv → Vm.Rows} {qInt : List Int → Vm.Rows} {qGOcc : List GOcc → Vm.Rows} {qGOccO : List GOcc → Vm.Rows} {qLGOcc : List (List GOcc) → Vm.Rows} {qLGOccO : List (List GOcc) → Vm.Rows} {qBool : List Bool → Vm.Rows} {qIu8 : List Int → Vm.Rows} {qGExO : List GEx → Vm.Rows} {qLInt : List (List Int) → Vm.Rows} (hQ : EQ qGEx qGEv qInt qGOcc qGOccO qLGOcc qLGOccO qBool qIu8 qGExO qLInt)
include hQ
theorem c_spec_l2Kids {p0 : Int} {r : Int} (hh : spec_l2Kids.f p0 = some r) : FunW P 118 [iA p0] [hA] (iA r) := by
 unfold spec_l2Kids.f at hh
 refine go (ts := [(2, none)]) (rm := [.own]) (pm := [.skip]) Tryz.func118 ?_
 intro Fn LW len cast toNat wrap add sub mul bin lt eq At set part app fz' rep nadd nmax ssize sext sget scat seq slt Wide Flat Ones Room r' post' hC hF hr hp
 cbv
 refine bcs (fun f2 => ?_) (fun f2 => ?_)
 ·
  replace hh := ifT hh f2
  try rw [f2]
  cbv
  exact Eb
 ·
  replace hh := ifF hh f2
  try rw [f2]
  cbv
  refine bcs (fun f4 => ?_) (fun f4 => ?_)
  ·
   replace hh := ifT hh f4
   try rw [f4]
   cbv
   exact Eb
  ·
   replace hh := ifF hh f4
   try rw [f4]
   cbv
   refine bcs (fun f6 => ?_) (fun f6 => ?_)
   ·
    replace hh := ifT hh f6
    try rw [f6]
    cbv
    exact Eb
   ·
    replace hh := ifF hh f6
    try rw [f6]
    cbv
    refine bcs (fun f8 => ?_) (fun f8 => ?_)
    ·
     replace hh := ifT hh f8
     try rw [f8]
     cbv
     exact Eb
    ·
     replace hh := ifF hh f8
     try rw [f8]
     cbv
     refine bcs (fun f10 => ?_) (fun f10 => ?_)
     ·
      replace hh := ifT hh f10
      try rw [f10]
      cbv
      exact Eb
     ·
      replace hh := ifF hh f10
      try rw [f10]
      cbv
      refine bcs (fun f12 => ?_) (fun f12 => ?_)
      ·
       replace hh := ifT hh f12
       try rw [f12]
       cbv
       exact Eb
      ·
       replace hh := ifF hh f12
       try rw [f12]
       cbv
       refine bcs (fun f14 => ?_) (fun f14 => ?_)
       ·
        replace hh := ifT hh f14
        try rw [f14]
        cbv
        exact Eb
       ·
        replace hh := ifF hh f14
        try rw [f14]
        cbv
        exact Eb

theorem c_scc73 : ∀ k : Nat, (∀ {p0 : GEx} {p1 : Int} {r : Bool}, spec_l2Form.f k p0 p1 = some r → FunW P 73 [.agg [iA p0.Kind, iA p0.Sym, iA p0.N, tA (qGEx p0.Kids)], iA p1] [hA, hA] (bA r)) := by
  intro k
  induction k using Nat.strongRecOn with
  | _ k ih =>
  · intro p0 p1 r hh
    cases k with
    | zero => unfold spec_l2Form.f at hh; cases hh
    | succ k =>
    obtain ⟨p0a, p0b, p0c, p0d⟩ := p0
    unfold spec_l2Form.f at hh
    refine go (ts := [(4, none)]) (rm := [.own]) (pm := [.skip, .skip]) Tryz.func73 ?_
    intro Fn LW len cast toNat wrap add sub mul bin lt eq At set part app fz' rep nadd nmax ssize sext sget scat seq slt Wide Flat Ones Room r' post' hC hF hr hp
    cbv
    refine bcs (fun f2 => ?_) (fun f2 => ?_)
    ·
     replace hh := ifT hh f2
     try rw [f2]
     cbv
     exact Eb
    ·
     replace hh := ifF hh f2
     try rw [f2]
     cbv
     replace hh := bind_some hh
     obtain ⟨x4, h3, hh⟩ := hh
     refine go_call hF (c_spec_l2Kids hQ h3) ?_
     cbv
     replace hh := if_or hh
     rcases hh with ⟨b6, hh⟩ | ⟨b6, hh⟩
     ·
      have f7 : (eq x4 (cast (len (qGEx p0d)))) = true := Tb b6
      have g := f7; cbv at g; try rw [f7]
      try rw [g]
      cbv
      refine bcs (fun f9 => ?_) (fun f9 => ?_)
      ·
       replace hh := ifT hh f9
       try rw [f9]
       cbv
       exact Eb
      ·
       replace hh := ifF hh f9
       try rw [f9]
       cbv
       replace hh := if_or hh
       rcases hh with ⟨b10, hh⟩ | ⟨b10, hh⟩
       ·
        have f11 : (lt p0b 5) = true := Tb b10
        have g := f11; cbv at g; try rw [f11]
        try rw [g]
        cbv
        replace hh := if_or hh
        rcases hh with ⟨b12, hh⟩ | ⟨b12, hh⟩
        ·
         have f13 : (eq p0a 1) = true := Tb b12
         have g := f13; cbv at g; try rw [f13]
         try rw [g]
         cbv
         refine bcs (fun f15 => ?_) (fun f15 => ?_)
         ·
          replace hh := ifT hh f15
          try rw [f15]
          cbv
          refine bcs (fun f17 => ?_) (fun f17 => ?_)
          ·
           replace hh := ifT hh f17
           try rw [f17]
           cbv
           exact Eb
          ·
           replace hh := ifF hh f17
           try rw [f17]
           cbv
           refine bcs (fun f19 => ?_) (fun f19 => ?_)
           ·
            replace hh := ifT hh f19
            try rw [f19]
            cbv
            exact Eb
           ·
            replace hh := ifF hh f19
            try rw [f19]
            cbv
            first | rw [f15] | (have g := f15; cbv at g; rw [g])
            cbv
            replace hh := bind_some hh
            obtain ⟨o1, hl1, hq1⟩ := hh
            refine loop_go4 hC eok mixed (spec_l2Form.l0 k (spec_l2Form.f k) (⟨p0a, p0b, p0c, p0d⟩ : GEx) p1)
             (fun s30 => (⟨[(1, iA p1), (2, .mptr (2, 0) 1 0 0), (5, iA s30)], [((2, 0), .box 1 [iA p0a, iA p0b, iA p0c, tA (qGEx p0d)])]⟩ : St))
             (fun (_ : Unit) => (⟨[], []⟩ : St)) .ok (.exit 0)
             (i0 := _) hl1 (fun _ => rfl) ?_ ?_ ?_
            ·
             rintro t0 e
             refine cov_of [((2, 0), (2, 0))] ?_
             cbv
             all_goals exact J1
            ·
             rintro _ hx
             subst o1
             have hh := hq1
             cbv
             exact Eb
            ·
             rintro n s30 N1 D1 hh hN1 hD1 hQ1
             unfold spec_l2Form.l0 at hh
             cbv
             refine bcs (fun f42 => ?_) (fun f42 => ?_)
             ·
              replace hh := ifT hh f42
              try rw [f42]
              cbv
              replace hh := req_some hh
              obtain ⟨h43, hh⟩ := hh
              replace hh := bind_some hh
              obtain ⟨⟨e44a, e44b, e44c, e44d⟩, h45, hh⟩ := hh
              try dsimp only at hh
              refine ⟨[iA e44a, iA e44b, iA e44c, tA (qGEx e44d)], Nb h43, Gb h45, ?_⟩
              cbv
              replace hh := bind_some hh
              obtain ⟨x47, h46, hh⟩ := hh
              refine go_call hF ((ih k (Nat.lt_succ_self k)) h46) ?_
              cbv
              replace hh := if_or hh
              rcases hh with ⟨b49, hh⟩ | ⟨b49, hh⟩
              ·
               have f50 : x47 = true := Tb b49
               have g := f50; cbv at g; try rw [f50]
               try rw [g]
               cbv
               refine hN1 _ _ hh fun t0 e => ?_
               refine cov_of [((2, 0), (2, 0))] ?_
               cbv
               all_goals exact J1
              ·
               have f50 : x47 = false := Fb b49
               have g := f50; cbv at g; try rw [f50]
               try rw [g]
               cbv
               cases hh
               have hh : some _ = some _ := hq1
               refine hQ1 _ _ ?_
               cbv
               exact Eb
             ·
              replace hh := ifF hh f42
              try rw [f42]
              cbv
              refine hD1 () _ hh fun _ e => ?_
              refine cov_of [] ?_
              cbv
              all_goals exact J0
         ·
          replace hh := ifF hh f15
          try rw [f15]
          cbv
          first | rw [f15] | (have g := f15; cbv at g; rw [g])
          cbv
          replace hh := if_or hh
          rcases hh with ⟨b51, hh⟩ | ⟨b51, hh⟩
          ·
           have f52 : (eq p0c 0) = true := Tb b51
           have g := f52; cbv at g; try rw [f52]
           try rw [g]
           cbv
           replace hh := bind_some hh
           obtain ⟨o1, hl1, hq1⟩ := hh
           refine loop_go4 hC eok mixed (spec_l2Form.l1 k (spec_l2Form.f k) (⟨p0a, p0b, p0c, p0d⟩ : GEx) p1)
            (fun s63 => (⟨[(1, iA p1), (2, .mptr (2, 0) 1 0 0), (5, iA s63)], [((2, 0), .box 1 [iA p0a, iA p0b, iA p0c, tA (qGEx p0d)])]⟩ : St))
            (fun (_ : Unit) => (⟨[], []⟩ : St)) .ok (.exit 0)
            (i0 := _) hl1 (fun _ => rfl) ?_ ?_ ?_
           ·
            rintro t0 e
            refine cov_of [((2, 0), (2, 0))] ?_
            cbv
            all_goals exact J1
           ·
            rintro _ hx
            subst o1
            have hh := hq1
            cbv
            exact Eb
           ·
            rintro n s63 N1 D1 hh hN1 hD1 hQ1
            unfold spec_l2Form.l1 at hh
            cbv
            refine bcs (fun f75 => ?_) (fun f75 => ?_)
            ·
             replace hh := ifT hh f75
             try rw [f75]
             cbv
             replace hh := req_some hh
             obtain ⟨h76, hh⟩ := hh
             replace hh := bind_some hh
             obtain ⟨⟨e77a, e77b, e77c, e77d⟩, h78, hh⟩ := hh
             try dsimp only at hh
             refine ⟨[iA e77a, iA e77b, iA e77c, tA (qGEx e77d)], Nb h76, Gb h78, ?_⟩
             cbv
             replace hh := bind_some hh
             obtain ⟨x80, h79, hh⟩ := hh
             refine go_call hF ((ih k (Nat.lt_succ_self k)) h79) ?_
             cbv
             replace hh := if_or hh
             rcases hh with ⟨b82, hh⟩ | ⟨b82, hh⟩
             ·
              have f83 : x80 = true := Tb b82
              have g := f83; cbv at g; try rw [f83]
              try rw [g]
              cbv
              refine hN1 _ _ hh fun t0 e => ?_
              refine cov_of [((2, 0), (2, 0))] ?_
              cbv
              all_goals exact J1
             ·
              have f83 : x80 = false := Fb b82
              have g := f83; cbv at g; try rw [f83]
              try rw [g]
              cbv
              cases hh
              have hh : some _ = some _ := hq1
              refine hQ1 _ _ ?_
              cbv
              exact Eb
            ·
             replace hh := ifF hh f75
             try rw [f75]
             cbv
             refine hD1 () _ hh fun _ e => ?_
             refine cov_of [] ?_
             cbv
             all_goals exact J0
          ·
           have f52 : (eq p0c 0) = false := Fb b51
           have g := f52; cbv at g; try rw [f52]
           try rw [g]
           cbv
           exact Eb
        ·
         have f13 : (eq p0a 1) = false := Fb b12
         have g := f13; cbv at g; try rw [f13]
         try rw [g]
         cbv
         replace hh := if_or hh
         rcases hh with ⟨b84, hh⟩ | ⟨b84, hh⟩
         ·
          have f85 : (eq p0b 0) = true := Tb b84
          have g := f85; cbv at g; try rw [f85]
          try rw [g]
          cbv
          refine bcs (fun f87 => ?_) (fun f87 => ?_)
          ·
           replace hh := ifT hh f87
           try rw [f87]
           cbv
           refine bcs (fun f89 => ?_) (fun f89 => ?_)
           ·
            replace hh := ifT hh f89
            try rw [f89]
            cbv
            exact Eb
           ·
            replace hh := ifF hh f89
            try rw [f89]
            cbv
            refine bcs (fun f91 => ?_) (fun f91 => ?_)
            ·
             replace hh := ifT hh f91
             try rw [f91]
             cbv
             exact Eb
            ·
             replace hh := ifF hh f91
             try rw [f91]
             cbv
             first | rw [f87] | (have g := f87; cbv at g; rw [g])
             cbv
             replace hh := bind_some hh
             obtain ⟨o1, hl1, hq1⟩ := hh
             refine loop_go4 hC eok mixed (spec_l2Form.l2 k (spec_l2Form.f k) (⟨p0a, p0b, p0c, p0d⟩ : GEx) p1)
              (fun s102 => (⟨[(1, iA p1), (2, .mptr (2, 0) 1 0 0), (5, iA s102)], [((2, 0), .box 1 [iA p0a, iA p0b, iA p0c, tA (qGEx p0d)])]⟩ : St))
              (fun (_ : Unit) => (⟨[], []⟩ : St)) .ok (.exit 0)
              (i0 := _) hl1 (fun _ => rfl) ?_ ?_ ?_
             ·
              rintro t0 e
              refine cov_of [((2, 0), (2, 0))] ?_
              cbv
              all_goals exact J1
             ·
              rintro _ hx
              subst o1
              have hh := hq1
              cbv
              exact Eb
             ·
              rintro n s102 N1 D1 hh hN1 hD1 hQ1
              unfold spec_l2Form.l2 at hh
              cbv
              refine bcs (fun f114 => ?_) (fun f114 => ?_)
              ·
               replace hh := ifT hh f114
               try rw [f114]
               cbv
               replace hh := req_some hh
               obtain ⟨h115, hh⟩ := hh
               replace hh := bind_some hh
               obtain ⟨⟨e116a, e116b, e116c, e116d⟩, h117, hh⟩ := hh
               try dsimp only at hh
               refine ⟨[iA e116a, iA e116b, iA e116c, tA (qGEx e116d)], Nb h115, Gb h117, ?_⟩
               cbv
               replace hh := bind_some hh
               obtain ⟨x119, h118, hh⟩ := hh
               refine go_call hF ((ih k (Nat.lt_succ_self k)) h118) ?_
               cbv
               replace hh := if_or hh
               rcases hh with ⟨b121, hh⟩ | ⟨b121, hh⟩
               ·
                have f122 : x119 = true := Tb b121
                have g := f122; cbv at g; try rw [f122]
                try rw [g]
                cbv
                refine hN1 _ _ hh fun t0 e => ?_
                refine cov_of [((2, 0), (2, 0))] ?_
                cbv
                all_goals exact J1
               ·
                have f122 : x119 = false := Fb b121
                have g := f122; cbv at g; try rw [f122]
                try rw [g]
                cbv
                cases hh
                have hh : some _ = some _ := hq1
                refine hQ1 _ _ ?_
                cbv
                exact Eb
              ·
               replace hh := ifF hh f114
               try rw [f114]
               cbv
               refine hD1 () _ hh fun _ e => ?_
               refine cov_of [] ?_
               cbv
               all_goals exact J0
          ·
           replace hh := ifF hh f87
           try rw [f87]
           cbv
           first | rw [f87] | (have g := f87; cbv at g; rw [g])
           cbv
           replace hh := if_or hh
           rcases hh with ⟨b123, hh⟩ | ⟨b123, hh⟩
           ·
            have f124 : (eq p0c 0) = true := Tb b123
            have g := f124; cbv at g; try rw [f124]
            try rw [g]
            cbv
            replace hh := bind_some hh
            obtain ⟨o1, hl1, hq1⟩ := hh
            refine loop_go4 hC eok mixed (spec_l2Form.l3 k (spec_l2Form.f k) (⟨p0a, p0b, p0c, p0d⟩ : GEx) p1)
             (fun s135 => (⟨[(1, iA p1), (2, .mptr (2, 0) 1 0 0), (5, iA s135)], [((2, 0), .box 1 [iA p0a, iA p0b, iA p0c, tA (qGEx p0d)])]⟩ : St))
             (fun (_ : Unit) => (⟨[], []⟩ : St)) .ok (.exit 0)
             (i0 := _) hl1 (fun _ => rfl) ?_ ?_ ?_
            ·
             rintro t0 e
             refine cov_of [((2, 0), (2, 0))] ?_
             cbv
             all_goals exact J1
            ·
             rintro _ hx
             subst o1
             have hh := hq1
             cbv
             exact Eb
            ·
             rintro n s135 N1 D1 hh hN1 hD1 hQ1
             unfold spec_l2Form.l3 at hh
             cbv
             refine bcs (fun f147 => ?_) (fun f147 => ?_)
             ·
              replace hh := ifT hh f147
              try rw [f147]
              cbv
              replace hh := req_some hh
              obtain ⟨h148, hh⟩ := hh
              replace hh := bind_some hh
              obtain ⟨⟨e149a, e149b, e149c, e149d⟩, h150, hh⟩ := hh
              try dsimp only at hh
              refine ⟨[iA e149a, iA e149b, iA e149c, tA (qGEx e149d)], Nb h148, Gb h150, ?_⟩
              cbv
              replace hh := bind_some hh
              obtain ⟨x152, h151, hh⟩ := hh
              refine go_call hF ((ih k (Nat.lt_succ_self k)) h151) ?_
              cbv
              replace hh := if_or hh
              rcases hh with ⟨b154, hh⟩ | ⟨b154, hh⟩
              ·
               have f155 : x152 = true := Tb b154
               have g := f155; cbv at g; try rw [f155]
               try rw [g]
               cbv
               refine hN1 _ _ hh fun t0 e => ?_
               refine cov_of [((2, 0), (2, 0))] ?_
               cbv
               all_goals exact J1
              ·
               have f155 : x152 = false := Fb b154
               have g := f155; cbv at g; try rw [f155]
               try rw [g]
               cbv
               cases hh
               have hh : some _ = some _ := hq1
               refine hQ1 _ _ ?_
               cbv
               exact Eb
             ·
              replace hh := ifF hh f147
              try rw [f147]
              cbv
              refine hD1 () _ hh fun _ e => ?_
              refine cov_of [] ?_
              cbv
              all_goals exact J0
           ·
            have f124 : (eq p0c 0) = false := Fb b123
            have g := f124; cbv at g; try rw [f124]
            try rw [g]
            cbv
            exact Eb
         ·
          have f85 : (eq p0b 0) = false := Fb b84
          have g := f85; cbv at g; try rw [f85]
          try rw [g]
          cbv
          exact Eb
       ·
        have f11 : (lt p0b 5) = false := Fb b10
        have g := f11; cbv at g; try rw [f11]
        try rw [g]
        cbv
        exact Eb
     ·
      have f7 : (eq x4 (cast (len (qGEx p0d)))) = false := Fb b6
      have g := f7; cbv at g; try rw [f7]
      try rw [g]
      cbv
      exact Eb
theorem c_spec_l2Form {k : Nat} {p0 : GEx} {p1 : Int} {r : Bool} (hh : spec_l2Form.f k p0 p1 = some r) : FunW P 73 [.agg [iA p0.Kind, iA p0.Sym, iA p0.N, tA (qGEx p0.Kids)], iA p1] [hA, hA] (bA r) := (c_scc73 hQ k) hh


theorem c_scc74 : ∀ k : Nat, (∀ {p0 : GEx} {p1 : Int} {r : Int}, spec_l2Many.f k p0 p1 = some r → FunW P 74 [.agg [iA p0.Kind, iA p0.Sym, iA p0.N, tA (qGEx p0.Kids)], iA p1] [hA, hA] (iA r)) := by
  intro k
  induction k using Nat.strongRecOn with
  | _ k ih =>
  · intro p0 p1 r hh
    cases k with
    | zero => unfold spec_l2Many.f at hh; cases hh
    | succ k =>
    obtain ⟨p0a, p0b, p0c, p0d⟩ := p0
    unfold spec_l2Many.f at hh
    refine go (ts := [(4, none)]) (rm := [.own]) (pm := [.skip, .skip]) Tryz.func74 ?_
    intro Fn LW len cast toNat wrap add sub mul bin lt eq At set part app fz' rep nadd nmax ssize sext sget scat seq slt Wide Flat Ones Room r' post' hC hF hr hp
    cbv
    replace hh := bind_some hh
    obtain ⟨o1, hl1, hq1⟩ := hh
    refine loop_go4 hC eok mixed (fun n (i : Int × Int) => spec_l2Many.l0 k (spec_l2Many.f k) (⟨p0a, p0b, p0c, p0d⟩ : GEx) p1 n i.1 i.2)
     (fun ⟨s11, s12⟩ => (⟨[(1, iA p1), (2, .mptr (2, 0) 1 0 0), (5, iA s11), (6, iA s12)], [((2, 0), .box 1 [iA p0a, iA p0b, iA p0c, tA (qGEx p0d)])]⟩ : St))
     (fun (x23 : Int) => (⟨[(5, iA x23)], []⟩ : St)) (fun x => x) (.exit 0)
     (i0 := (_, _)) hl1 (fun _ => rfl) ?_ ?_ ?_
    ·
     rintro ⟨t0, t1⟩ e
     refine cov_of [((2, 0), (2, 0))] ?_
     cbv
     all_goals exact J2
    ·
     rintro x23 hx
     subst o1
     have hh := hq1
     cbv
     exact Eb
    ·
     rintro n ⟨s11, s12⟩ N1 D1 hh hN1 hD1 hQ1
     dsimp only at hh
     unfold spec_l2Many.l0 at hh
     cbv
     refine bcs (fun f25 => ?_) (fun f25 => ?_)
     ·
      replace hh := ifT hh f25
      try rw [f25]
      cbv
      refine bcs (fun f27 => ?_) (fun f27 => ?_)
      ·
       replace hh := ifT hh f27
       try rw [f27]
       cbv
       replace hh := req_some hh
       obtain ⟨h28, hh⟩ := hh
       replace hh := bind_some hh
       obtain ⟨⟨e29a, e29b, e29c, e29d⟩, h30, hh⟩ := hh
       try dsimp only at hh
       refine ⟨[iA e29a, iA e29b, iA e29c, tA (qGEx e29d)], Nb h28, Gb h30, ?_⟩
       cbv
       replace hh := bind_some hh
       obtain ⟨x32, h31, hh⟩ := hh
       refine go_call hF ((ih k (Nat.lt_succ_self k)) h31) ?_
       cbv
       refine hN1 (_, _) _ hh fun ⟨t0, t1⟩ e => ?_
       refine cov_of [((2, 0), (2, 0))] ?_
       cbv
       all_goals exact J2
      ·
       replace hh := ifF hh f27
       try rw [f27]
       cbv
       refine hD1 _ _ hh fun t0 e => ?_
       refine cov_of [] ?_
       cbv
       all_goals exact J1
     ·
      replace hh := ifF hh f25
      try rw [f25]
      cbv
      refine hD1 _ _ hh fun t0 e => ?_
      refine cov_of [] ?_
      cbv
      all_goals exact J1
theorem c_spec_l2Many {k : Nat} {p0 : GEx} {p1 : Int} {r : Int} (hh : spec_l2Many.f k p0 p1 = some r) : FunW P 74 [.agg [iA p0.Kind, iA p0.Sym, iA p0.N, tA (qGEx p0.Kids)], iA p1] [hA, hA] (iA r) := (c_scc74 hQ k) hh


theorem c_spec_ExOk {k : Nat} {p0 : GEx} {r : Bool} (hh : spec_ExOk.f k p0 = some r) : FunW P 25 [.agg [iA p0.Kind, iA p0.Sym, iA p0.N, tA (qGEx p0.Kids)]] [hA] (bA r) := by
 obtain ⟨p0a, p0b, p0c, p0d⟩ := p0
 unfold spec_ExOk.f at hh
 refine go (ts := [(2, none)]) (rm := [.own]) (pm := [.skip]) Tryz.func25 ?_
 intro Fn LW len cast toNat wrap add sub mul bin lt eq At set part app fz' rep nadd nmax ssize sext sget scat seq slt Wide Flat Ones Room r' post' hC hF hr hp
 cbv
 replace hh := bind_some hh
 obtain ⟨x2, h1, hh⟩ := hh
 refine go_call hF (c_spec_l2Form hQ h1) ?_
 cbv
 refine bcs (fun f5 => ?_) (fun f5 => ?_)
 ·
  replace hh := ifT hh f5
  try rw [f5]
  cbv
  replace hh := bind_some hh
  obtain ⟨x7, h6, hh⟩ := hh
  refine go_call hF (c_spec_l2Many hQ h6) ?_
  cbv
  exact Eb
 ·
  replace hh := ifF hh f5
  try rw [f5]
  cbv
  exact Eb
theorem c_spec_ExOk_L0 {k : Nat} {p0 : GEx} {r : Bool} (hh : spec_ExOk.f k p0 = some r) : FunW P 25 [.agg [iA p0.Kind, iA p0.Sym, iA p0.N, oA 4 (qGExO p0.Kids)]] [.agg [iA p0.Kind, iA p0.Sym, iA p0.N, oA 4 (qGExO p0.Kids)]] (bA r) := by
  cases hQ; exact (c_spec_ExOk .mk hh).lend (rfl) (.lend (by simp) .nil)

theorem c_spec_EvOk {p0 : GEv} {r : Bool} (hh : spec_EvOk.f p0 = some r) : FunW P 75 [.agg [iA p0.Sym, iA p0.At, iA p0.Val]] [hA] (bA r) := by
 obtain ⟨p0a, p0b, p0c⟩ := p0
 unfold spec_EvOk.f at hh
 refine go (ts := [(2, none)]) (rm := [.own]) (pm := [.skip]) Tryz.func75 ?_
 intro Fn LW len cast toNat wrap add sub mul bin lt eq At set part app fz' rep nadd nmax ssize sext sget scat seq slt Wide Flat Ones Room r' post' hC hF hr hp
 cbv
 replace hh := if_or hh
 rcases hh with ⟨b1, hh⟩ | ⟨b1, hh⟩
 ·
  have f2 : (lt p0a 0) = true := Tb b1
  have g := f2; cbv at g; try rw [f2]
  try rw [g]
  cbv
  exact Eb
 ·
  have f2 : (lt p0a 0) = false := Fb b1
  have g := f2; cbv at g; try rw [f2]
  try rw [g]
  cbv
  refine bcs (fun f4 => ?_) (fun f4 => ?_)
  ·
   replace hh := ifT hh f4
   try rw [f4]
   cbv
   replace hh := if_or hh
   rcases hh with ⟨b5, hh⟩ | ⟨b5, hh⟩
   ·
    have f6 : (lt p0b 1) = true := Tb b5
    have g := f6; cbv at g; try rw [f6]
    try rw [g]
    cbv
    exact Eb
   ·
    have f6 : (lt p0b 1) = false := Fb b5
    have g := f6; cbv at g; try rw [f6]
    try rw [g]
    cbv
    replace hh := if_or hh
    rcases hh with ⟨b7, hh⟩ | ⟨b7, hh⟩
    ·
     have f8 : (lt 1000 p0b) = true := Tb b7
     have g := f8; cbv at g; try rw [f8]
     try rw [g]
     cbv
     exact Eb
    ·
     have f8 : (lt 1000 p0b) = false := Fb b7
     have g := f8; cbv at g; try rw [f8]
     try rw [g]
     cbv
     replace hh := if_or hh
     rcases hh with ⟨b9, hh⟩ | ⟨b9, hh⟩
     ·
      have f10 : (lt p0c 0) = true := Tb b9
      have g := f10; cbv at g; try rw [f10]
      try rw [g]
      cbv
      exact Eb
     ·
      have f10 : (lt p0c 0) = false := Fb b9
      have g := f10; cbv at g; try rw [f10]
      try rw [g]
      cbv
      exact Eb
  ·
   replace hh := ifF hh f4
   try rw [f4]
   cbv
   exact Eb

theorem c_spec_EvsOk {k : Nat} {p0 : List GEv} {r : Bool} (hh : spec_EvsOk.f k p0 = some r) : FunW P 26 [tA (qGEv p0)] [hA] (bA r) := by
 unfold spec_EvsOk.f at hh
 refine go (ts := [(2, none)]) (rm := [.own]) (pm := [.skip]) Tryz.func26 ?_
 intro Fn LW len cast toNat wrap add sub mul bin lt eq At set part app fz' rep nadd nmax ssize sext sget scat seq slt Wide Flat Ones Room r' post' hC hF hr hp
 cbv
 refine bcs (fun f2 => ?_) (fun f2 => ?_)
 ·
  replace hh := ifT hh f2
  try rw [f2]
  cbv
  exact Eb
 ·
  replace hh := ifF hh f2
  try rw [f2]
  cbv
  replace hh := bind_some hh
  obtain ⟨o1, hl1, hq1⟩ := hh
  refine loop_go4 hC eok mixed (spec_EvsOk.l0 k p0)
   (fun s23 => (⟨[(0, tA (qGEv p0)), (3, iA s23)], []⟩ : St))
   (fun (_ : Unit) => (⟨[], []⟩ : St)) .ok (.exit 0)
   (i0 := _) hl1 (fun _ => rfl) ?_ ?_ ?_
  ·
   rintro t0 e
   refine cov_of [] ?_
   cbv
   all_goals exact J1
  ·
   rintro _ hx
   subst o1
   have hh := hq1
   cbv
   exact Eb
  ·
   rintro n s23 N1 D1 hh hN1 hD1 hQ1
   unfold spec_EvsOk.l0 at hh
   cbv
   refine bcs (fun f45 => ?_) (fun f45 => ?_)
   ·
    replace hh := ifT hh f45
    try rw [f45]
    cbv
    replace hh := req_some hh
    obtain ⟨h46, hh⟩ := hh
    replace hh := bind_some hh
    obtain ⟨⟨e47a, e47b, e47c⟩, h48, hh⟩ := hh
    try dsimp only at hh
    refine ⟨[iA e47a, iA e47b, iA e47c], Nb h46, Gb h48, ?_⟩
    cbv
    replace hh := bind_some hh
    obtain ⟨x50, h49, hh⟩ := hh
    refine go_call hF (c_spec_EvOk hQ h49) ?_
    cbv
    replace hh := if_or hh
    rcases hh with ⟨b52, hh⟩ | ⟨b52, hh⟩
    ·
     have f53 : x50 = true := Tb b52
     have g := f53; cbv at g; try rw [f53]
     try rw [g]
     cbv
     refine bcs (fun f55 => ?_) (fun f55 => ?_)
     ·
      replace hh := ifT hh f55
      try rw [f55]
      cbv
      replace hh := req_some hh
      obtain ⟨h56, hh⟩ := hh
      replace hh := bind_some hh
      obtain ⟨⟨e57a, e57b, e57c⟩, h58, hh⟩ := hh
      try dsimp only at hh
      refine ⟨[iA e57a, iA e57b, iA e57c], Nb h56, Gb h58, ?_⟩
      cbv
      replace hh := req_some hh
      obtain ⟨h59, hh⟩ := hh
      replace hh := bind_some hh
      obtain ⟨⟨e60a, e60b, e60c⟩, h61, hh⟩ := hh
      try dsimp only at hh
      refine ⟨[iA e60a, iA e60b, iA e60c], Nb h59, Gb h61, ?_⟩
      cbv
      replace hh := if_or hh
      rcases hh with ⟨b62, hh⟩ | ⟨b62, hh⟩
      ·
       have f63 : (lt e60b e57b) = true := Tb b62
       have g := f63; cbv at g; try rw [f63]
       try rw [g]
       cbv
       refine hN1 _ _ hh fun t0 e => ?_
       refine cov_of [] ?_
       cbv
       all_goals exact J1
      ·
       have f63 : (lt e60b e57b) = false := Fb b62
       have g := f63; cbv at g; try rw [f63]
       try rw [g]
       cbv
       cases hh
       have hh : some _ = some _ := hq1
       refine hQ1 _ _ ?_
       cbv
       exact Eb
     ·
      replace hh := ifF hh f55
      try rw [f55]
      cbv
      refine hN1 _ _ hh fun t0 e => ?_
      refine cov_of [] ?_
      cbv
      all_goals exact J1
    ·
     have f53 : x50 = false := Fb b52
     have g := f53; cbv at g; try rw [f53]
     try rw [g]
     cbv
     cases hh
     have hh : some _ = some _ := hq1
     refine hQ1 _ _ ?_
     cbv
     exact Eb
   ·
    replace hh := ifF hh f45
    try rw [f45]
    cbv
    refine hD1 () _ hh fun _ e => ?_
    refine cov_of [] ?_
    cbv
    all_goals exact J0
theorem c_spec_EvsOk_L0 {k : Nat} {p0 : List GEv} {r : Bool} (hh : spec_EvsOk.f k p0 = some r) : FunW P 26 [oA 3 (qGEv p0)] [oA 3 (qGEv p0)] (bA r) := by
  cases hQ; exact (c_spec_EvsOk .mk hh).lend (rfl) (.lend (congrArg A.tree (r_GEv_fz _).symm) .nil)

theorem c_cmp_isNaN {p0 : Int} {r : Bool} (hh : cmp_isNaN.f p0 = some r) : FunW P 184 [iA p0] [hA] (bA r) := by
 unfold cmp_isNaN.f at hh
 refine go (ts := [(2, none)]) (rm := [.own]) (pm := [.skip]) Tryz.func184 ?_
 intro Fn LW len cast toNat wrap add sub mul bin lt eq At set part app fz' rep nadd nmax ssize sext sget scat seq slt Wide Flat Ones Room r' post' hC hF hr hp
 cbv
 exact Eb

theorem c_cmp_Compare {p0 : Int} {p1 : Int} {r : Int} (hh : cmp_Compare.f p0 p1 = some r) : FunW P 152 [iA p0, iA p1] [hA, hA] (iA r) := by
 unfold cmp_Compare.f at hh
 refine go (ts := [(4, none)]) (rm := [.own]) (pm := [.skip, .skip]) Tryz.func152 ?_
 intro Fn LW len cast toNat wrap add sub mul bin lt eq At set part app fz' rep nadd nmax ssize sext sget scat seq slt Wide Flat Ones Room r' post' hC hF hr hp
 cbv
 replace hh := bind_some hh
 obtain ⟨x2, h1, hh⟩ := hh
 refine go_call hF (c_cmp_isNaN hQ h1) ?_
 cbv
 replace hh := bind_some hh
 obtain ⟨x5, h4, hh⟩ := hh
 refine go_call hF (c_cmp_isNaN hQ h4) ?_
 cbv
 refine bcs (fun f8 => ?_) (fun f8 => ?_)
 ·
  replace hh := ifT hh f8
  try rw [f8]
  cbv
  refine bcs (fun f10 => ?_) (fun f10 => ?_)
  ·
   replace hh := ifT hh f10
   try rw [f10]
   cbv
   exact Eb
  ·
   replace hh := ifF hh f10
   try rw [f10]
   cbv
   exact Eb
 ·
  replace hh := ifF hh f8
  try rw [f8]
  cbv
  refine bcs (fun f12 => ?_) (fun f12 => ?_)
  ·
   replace hh := ifT hh f12
   try rw [f12]
   cbv
   exact Eb
  ·
   replace hh := ifF hh f12
   try rw [f12]
   cbv
   refine bcs (fun f14 => ?_) (fun f14 => ?_)
   ·
    replace hh := ifT hh f14
    try rw [f14]
    cbv
    exact Eb
   ·
    replace hh := ifF hh f14
    try rw [f14]
    cbv
    refine bcs (fun f16 => ?_) (fun f16 => ?_)
    ·
     replace hh := ifT hh f16
     try rw [f16]
     cbv
     exact Eb
    ·
     replace hh := ifF hh f16
     try rw [f16]
     cbv
     exact Eb

theorem c_slices_Compare {k : Nat} {p0 : List Int} {p1 : List Int} {r : Int} (hh : slices_Compare.f k p0 p1 = some r) : FunW P 124 [tA (qInt p0), tA (qInt p1)] [hA, hA] (iA r) := by
 unfold slices_Compare.f at hh
 refine go (ts := [(4, none)]) (rm := [.own]) (pm := [.skip, .skip]) Tryz.func124 ?_
 intro Fn LW len cast toNat wrap add sub mul bin lt eq At set part app fz' rep nadd nmax ssize sext sget scat seq slt Wide Flat Ones Room r' post' hC hF hr hp
 cbv
 replace hh := bind_some hh
 obtain ⟨o1, hl1, hq1⟩ := hh
 refine loop_go4 hC eok mixed (slices_Compare.l0 k p0 p1)
  (fun s16 => (⟨[(0, tA (qInt p0)), (1, tA (qInt p1)), (9, tA (qInt p0)), (10, iA (cast (len (qInt p0)))), (11, iA s16)], []⟩ : St))
  (fun (_ : Unit) => (⟨[(0, tA (qInt p0)), (1, tA (qInt p1))], []⟩ : St)) .ok (.exit 0)
  (i0 := _) hl1 (fun _ => rfl) ?_ ?_ ?_
 ·
  rintro t0 e
  refine cov_of [] ?_
  cbv
  all_goals exact J1
 ·
  rintro _ hx
  subst o1
  have hh := hq1
  cbv
  refine bcs (fun f48 => ?_) (fun f48 => ?_)
  ·
   replace hh := ifT hh f48
   try rw [f48]
   cbv
   exact Eb
  ·
   replace hh := ifF hh f48
   try rw [f48]
   cbv
   exact Eb
 ·
  rintro n s16 N1 D1 hh hN1 hD1 hQ1
  unfold slices_Compare.l0 at hh
  cbv
  refine bcs (fun f33 => ?_) (fun f33 => ?_)
  ·
   replace hh := ifT hh f33
   try rw [f33]
   cbv
   replace hh := req_some hh
   obtain ⟨h34, hh⟩ := hh
   replace hh := bind_some hh
   obtain ⟨e35, h36, hh⟩ := hh
   refine ⟨[iA e35], Nb h34, Gb h36, ?_⟩
   cbv
   replace hh := if_or hh
   rcases hh with ⟨b37, hh⟩ | ⟨b37, hh⟩
   ·
    have f38 : (lt s16 (cast (len (qInt p1)))) = true := Tb b37
    have g := f38; cbv at g; try rw [f38]
    try rw [g]
    cbv
    replace hh := req_some hh
    obtain ⟨h39, hh⟩ := hh
    replace hh := bind_some hh
    obtain ⟨e40, h41, hh⟩ := hh
    refine ⟨[iA e40], Nb h39, Gb h41, ?_⟩
    cbv
    replace hh := bind_some hh
    obtain ⟨x43, h42, hh⟩ := hh
    refine go_call hF (c_cmp_Compare hQ h42) ?_
    cbv
    replace hh := if_or hh
    rcases hh with ⟨b45, hh⟩ | ⟨b45, hh⟩
    ·
     have f46 : (eq x43 0) = true := Tb b45
     have g := f46; cbv at g; try rw [f46]
     try rw [g]
     cbv
     refine hN1 _ _ hh fun t0 e => ?_
     refine cov_of [] ?_
     cbv
     all_goals exact J1
    ·
     have f46 : (eq x43 0) = false := Fb b45
     have g := f46; cbv at g; try rw [f46]
     try rw [g]
     cbv
     cases hh
     have hh : some _ = some _ := hq1
     refine hQ1 _ _ ?_
     cbv
     exact Eb
   ·
    have f38 : (lt s16 (cast (len (qInt p1)))) = false := Fb b37
    have g := f38; cbv at g; try rw [f38]
    try rw [g]
    cbv
    cases hh
    have hh : some _ = some _ := hq1
    refine hQ1 _ _ ?_
    cbv
    exact Eb
  ·
   replace hh := ifF hh f33
   try rw [f33]
   cbv
   refine hD1 () _ hh fun _ e => ?_
   refine cov_of [] ?_
   cbv
   all_goals exact J0

theorem c_impl_sign {p0 : Bool} {r : Int} (hh : impl_sign.f p0 = some r) : FunW P 123 [bA p0] [hA] (iA r) := by
 unfold impl_sign.f at hh
 refine go (ts := [(2, none)]) (rm := [.own]) (pm := [.skip]) Tryz.func123 ?_
 intro Fn LW len cast toNat wrap add sub mul bin lt eq At set part app fz' rep nadd nmax ssize sext sget scat seq slt Wide Flat Ones Room r' post' hC hF hr hp
 cbv
 refine bcs (fun f2 => ?_) (fun f2 => ?_)
 ·
  replace hh := ifT hh f2
  try rw [f2]
  cbv
  exact Eb
 ·
  replace hh := ifF hh f2
  try rw [f2]
  cbv
  exact Eb

theorem c_impl_compare {k : Nat} {p0 : GOcc} {p1 : GOcc} {r : Int} (hh : impl_compare.f k p0 p1 = some r) : FunW P 80 [.agg [iA p0.From, iA p0.To, tA (qInt p0.Ids)], .agg [iA p1.From, iA p1.To, tA (qInt p1.Ids)]] [hA, hA] (iA r) := by
 obtain ⟨p0a, p0b, p0c⟩ := p0
 obtain ⟨p1a, p1b, p1c⟩ := p1
 unfold impl_compare.f at hh
 refine go (ts := [(4, none)]) (rm := [.own]) (pm := [.skip, .skip]) Tryz.func80 ?_
 intro Fn LW len cast toNat wrap add sub mul bin lt eq At set part app fz' rep nadd nmax ssize sext sget scat seq slt Wide Flat Ones Room r' post' hC hF hr hp
 cbv
 replace hh := if_or hh
 rcases hh with ⟨b1, hh⟩ | ⟨b1, hh⟩
 ·
  have f2 : (eq p0b p1b) = true := Tb b1
  have g := f2; cbv at g; try rw [f2]
  try rw [g]
  cbv
  replace hh := if_or hh
  rcases hh with ⟨b3, hh⟩ | ⟨b3, hh⟩
  ·
   have f4 : (eq p0a p1a) = true := Tb b3
   have g := f4; cbv at g; try rw [f4]
   try rw [g]
   cbv
   replace hh := bind_some hh
   obtain ⟨x6, h5, hh⟩ := hh
   refine go_call hF (c_slices_Compare hQ h5) ?_
   cbv
   exact Eb
  ·
   have f4 : (eq p0a p1a) = false := Fb b3
   have g := f4; cbv at g; try rw [f4]
   try rw [g]
   cbv
   replace hh := bind_some hh
   obtain ⟨x9, h8, hh⟩ := hh
   refine go_call hF (c_impl_sign hQ h8) ?_
   cbv
   exact Eb
 ·
  have f2 : (eq p0b p1b) = false := Fb b1
  have g := f2; cbv at g; try rw [f2]
  try rw [g]
  cbv
  replace hh := bind_some hh
  obtain ⟨x12, h11, hh⟩ := hh
  refine go_call hF (c_impl_sign hQ h11) ?_
  cbv
  exact Eb

theorem c_impl_OccsSame_1 {k : Nat} {p0 : GOcc} {p1 : GOcc} {r : Bool} (hh : impl_OccsSame_1.f k p0 p1 = some r) : FunW P 79 [.agg [iA p0.From, iA p0.To, tA (qInt p0.Ids)], .agg [iA p1.From, iA p1.To, tA (qInt p1.Ids)]] [hA, hA] (bA r) := by
 obtain ⟨p0a, p0b, p0c⟩ := p0
 obtain ⟨p1a, p1b, p1c⟩ := p1
 unfold impl_OccsSame_1.f at hh
 refine go (ts := [(4, none)]) (rm := [.own]) (pm := [.skip, .skip]) Tryz.func79 ?_
 intro Fn LW len cast toNat wrap add sub mul bin lt eq At set part app fz' rep nadd nmax ssize sext sget scat seq slt Wide Flat Ones Room r' post' hC hF hr hp
 cbv
 replace hh := bind_some hh
 obtain ⟨x2, h1, hh⟩ := hh
 refine go_call hF (c_impl_compare hQ h1) ?_
 cbv
 exact Eb

theorem c_slices_EqualFunc_impl_OccsSame_1 {k : Nat} {g2 : GOcc → GOcc → Option Bool} (hg2 : ∀ {y0 : GOcc} {y1 : GOcc} {r : Bool}, g2 y0 y1 = some r → FunW P 79 [.agg [iA y0.From, iA y0.To, tA (qInt y0.Ids)], .agg [iA y1.From, iA y1.To, tA (qInt y1.Ids)]] [hA, hA] (bA r)) {p0 : List GOcc} {p1 : List GOcc} {r : Bool} (hh : slices_EqualFunc.f g2 k p0 p1 = some r) : FunW P 78 [tA (qGOcc p0), tA (qGOcc p1), .clo 79 []] [hA, hA, hA] (bA r) := by
 unfold slices_EqualFunc.f at hh
 refine go (ts := [(6, none)]) (rm := [.own]) (pm := [.skip, .skip, .skip]) Tryz.func78 ?_
 intro Fn LW len cast toNat wrap add sub mul bin lt eq At set part app fz' rep nadd nmax ssize sext sget scat seq slt Wide Flat Ones Room r' post' hC hF hr hp
 cbv
 replace hh := if_or hh
 rcases hh with ⟨b1, hh⟩ | ⟨b1, hh⟩
 ·
  have f2 : (eq (cast (len (qGOcc p0))) (cast (len (qGOcc p1)))) = true := Tb b1
  have g := f2; cbv at g; try rw [f2]
  try rw [g]
  cbv
  replace hh := bind_some hh
  obtain ⟨o1, hl1, hq1⟩ := hh
  refine loop_go4 hC eok mixed (slices_EqualFunc.l0 k g2 p0 p1)
   (fun s16 => (⟨[(1, tA (qGOcc p1)), (2, .clo 79 []), (15, tA (qGOcc p0)), (16, iA (cast (len (qGOcc p0)))), (17, iA s16)], []⟩ : St))
   (fun (_ : Unit) => (⟨[], []⟩ : St)) .ok (.exit 0)
   (i0 := _) hl1 (fun _ => rfl) ?_ ?_ ?_
  ·
   rintro t0 e
   refine cov_of [] ?_
   cbv
   all_goals exact J1
  ·
   rintro _ hx
   subst o1
   have hh := hq1
   cbv
   exact Eb
  ·
   rintro n s16 N1 D1 hh hN1 hD1 hQ1
   unfold slices_EqualFunc.l0 at hh
   cbv
   refine bcs (fun f31 => ?_) (fun f31 => ?_)
   ·
    replace hh := ifT hh f31
    try rw [f31]
    cbv
    replace hh := req_some hh
    obtain ⟨h32, hh⟩ := hh
    replace hh := bind_some hh
    obtain ⟨⟨e33a, e33b, e33c⟩, h34, hh⟩ := hh
    try dsimp only at hh
    refine ⟨[iA e33a, iA e33b, tA (qInt e33c)], Nb h32, Gb h34, ?_⟩
    cbv
    replace hh := req_some hh
    obtain ⟨h35, hh⟩ := hh
    replace hh := bind_some hh
    obtain ⟨⟨e36a, e36b, e36c⟩, h37, hh⟩ := hh
    try dsimp only at hh
    refine ⟨[iA e36a, iA e36b, tA (qInt e36c)], Nb h35, Gb h37, ?_⟩
    cbv
    replace hh := bind_some hh
    obtain ⟨x39, h38, hh⟩ := hh
    refine go_call hF (hg2 h38) ?_
    cbv
    replace hh := if_or hh
    rcases hh with ⟨b41, hh⟩ | ⟨b41, hh⟩
    ·
     have f42 : x39 = true := Tb b41
     have g := f42; cbv at g; try rw [f42]
     try rw [g]
     cbv
     refine hN1 _ _ hh fun t0 e => ?_
     refine cov_of [] ?_
     cbv
     all_goals exact J1
    ·
     have f42 : x39 = false := Fb b41
     have g := f42; cbv at g; try rw [f42]
     try rw [g]
     cbv
     cases hh
     have hh : some _ = some _ := hq1
     refine hQ1 _ _ ?_
     cbv
     exact Eb
   ·
    replace hh := ifF hh f31
    try rw [f31]
    cbv
    refine hD1 () _ hh fun _ e => ?_
    refine cov_of [] ?_
    cbv
    all_goals exact J0
 ·
  have f2 : (eq (cast (len (qGOcc p0))) (cast (len (qGOcc p1)))) = false := Fb b1
  have g := f2; cbv at g; try rw [f2]
  try rw [g]
  cbv
  exact Eb

theorem c_impl_OccsSame {k : Nat} {p0 : List GOcc} {p1 : List GOcc} {r : Bool} (hh : impl_OccsSame.f k p0 p1 = some r) : FunW P 28 [tA (qGOcc p0), tA (qGOcc p1)] [hA, hA] (bA r) := by
 unfold impl_OccsSame.f at hh
 refine go (ts := [(4, none)]) (rm := [.own]) (pm := [.skip, .skip]) Tryz.func28 ?_
 intro Fn LW len cast toNat wrap add sub mul bin lt eq At set part app fz' rep nadd nmax ssize sext sget scat seq slt Wide Flat Ones Room r' post' hC hF hr hp
 cbv
 replace hh := bind_some hh
 obtain ⟨x2, h1, hh⟩ := hh
 refine go_call hF (c_slices_EqualFunc_impl_OccsSame_1 hQ (g2 := fun y0 y1 => impl_OccsSame_1.f k y0 y1) (fun h => c_impl_OccsSame_1 hQ h) h1) ?_
 cbv
 exact Eb
theorem c_impl_OccsSame_L0_1 {k : Nat} {p0 : List GOcc} {p1 : List GOcc} {r : Bool} (hh : impl_OccsSame.f k p0 p1 = some r) : FunW P 28 [oA 3 (qGOccO p0), oA 3 (qGOccO p1)] [oA 3 (qGOccO p0), oA 3 (qGOccO p1)] (bA r) := by
  cases hQ; exact (c_impl_OccsSame .mk hh).lend (rfl) (.lend (congrArg A.tree (r_GOccO_fz _).symm) (.lend (congrArg A.tree (r_GOccO_fz _).symm) .nil))

theorem c_spec_l14Open {p0 : List Int} {r : Gl14Rd} (hh : spec_l14Open.f p0 = some r) : FunW P 61 [tA (qIu8 p0)] [hA] (.obox [tA (qIu8 r.b), iA r.p]) := by
 unfold spec_l14Open.f at hh
 refine go (ts := [(2, none)]) (rm := [.own]) (pm := [.skip]) Tryz.func61 ?_
 intro Fn LW len cast toNat wrap add sub mul bin lt eq At set part app fz' rep nadd nmax ssize sext sget scat seq slt Wide Flat Ones Room r' post' hC hF hr hp
 cbv
 refine bcs (fun f2 => ?_) (fun f2 => ?_)
 ·
  replace hh := ifT hh f2
  try rw [f2]
  cbv
  replace hh := req_some hh
  obtain ⟨h3, hh⟩ := hh
  replace hh := req_some hh
  obtain ⟨h4, hh⟩ := hh
  replace hh := req_some hh
  obtain ⟨h5, hh⟩ := hh
  refine ⟨⟨Nb h3, Nb h4, Nb h5, Ab⟩, ?_⟩
  exact Eb
 ·
  replace hh := ifF hh f2
  try rw [f2]
  cbv
  exact Eb

theorem c_spec_l14Rd_pick {p0 : Gl14Rd} {p1 : Int} {r : Int × Gl14Rd} (hh : spec_l14Rd_pick.f p0 p1 = some r) : FunW P 104 [.obox [tA (qIu8 p0.b), iA p0.p], iA p1] [.obox [tA (qIu8 r.2.b), iA r.2.p], hA] (iA r.1) := by
 obtain ⟨p0a, p0b⟩ := p0
 unfold spec_l14Rd_pick.f at hh
 refine go (ts := [(4, none)]) (rm := [.own]) (pm := [.own, .skip]) Tryz.func104 ?_
 intro Fn LW len cast toNat wrap add sub mul bin lt eq At set part app fz' rep nadd nmax ssize sext sget scat seq slt Wide Flat Ones Room r' post' hC hF hr hp
 cbv
 refine bcs (fun f2 => ?_) (fun f2 => ?_)
 ·
  replace hh := ifT hh f2
  try rw [f2]
  cbv
  exact Eb
 ·
  replace hh := ifF hh f2
  try rw [f2]
  cbv
  refine bcs (fun f4 => ?_) (fun f4 => ?_)
  ·
   replace hh := ifT hh f4
   try rw [f4]
   cbv
   exact Eb
  ·
   replace hh := ifF hh f4
   try rw [f4]
   cbv
   refine bcs (fun f6 => ?_) (fun f6 => ?_)
   ·
    replace hh := ifT hh f6
    try rw [f6]
    cbv
    replace hh := req_some hh
    obtain ⟨h7, hh⟩ := hh
    try dsimp only at h7
    replace hh := bind_some hh
    obtain ⟨e8, h9, hh⟩ := hh
    refine ⟨[.lit (.int .u8 e8)], Nb h7, Gb h9, ?_⟩
    cbv
    replace hh := req_some hh
    obtain ⟨h10, hh⟩ := hh
    refine ⟨Wb h10, ?_⟩
    exact Eb
   ·
    replace hh := ifF hh f6
    try rw [f6]
    cbv
    replace hh := req_some hh
    obtain ⟨h11, hh⟩ := hh
    try dsimp only at h11
    refine ⟨Wb h11, ?_⟩
    replace hh := req_some hh
    obtain ⟨h12, hh⟩ := hh
    try dsimp only at h12
    replace hh := bind_some hh
    obtain ⟨e13, h14, hh⟩ := hh
    refine ⟨[.lit (.int .u8 e13)], Nb h12, Gb h14, ?_⟩
    cbv
    replace hh := req_some hh
    obtain ⟨h15, hh⟩ := hh
    try dsimp only at h15
    refine ⟨Wb h15, ?_⟩
    replace hh := req_some hh
    obtain ⟨h16, hh⟩ := hh
    try dsimp only at h16
    replace hh := bind_some hh
    obtain ⟨e17, h18, hh⟩ := hh
    refine ⟨[.lit (.int .u8 e17)], Nb h16, Gb h18, ?_⟩
    cbv
    replace hh := req_some hh
    obtain ⟨h19, hh⟩ := hh
    try dsimp only at h19
    refine ⟨Wb h19, ?_⟩
    replace hh := req_some hh
    obtain ⟨h21, hh⟩ := hh
    refine ⟨Wb h21, ?_⟩
    exact Eb

theorem c_spec_l14Rd_num {p0 : Gl14Rd} {p1 : List Int} {r : Int × Gl14Rd} (hh : spec_l14Rd_num.f p0 p1 = some r) : FunW P 111 [.obox [tA (qIu8 p0.b), iA p0.p], tA (qInt p1)] [.obox [tA (qIu8 r.2.b), iA r.2.p], hA] (iA r.1) := by
 obtain ⟨p0a, p0b⟩ := p0
 unfold spec_l14Rd_num.f at hh
 refine go (ts := [(4, none)]) (rm := [.own]) (pm := [.own, .skip]) Tryz.func111 ?_
 intro Fn LW len cast toNat wrap add sub mul bin lt eq At set part app fz' rep nadd nmax ssize sext sget scat seq slt Wide Flat Ones Room r' post' hC hF hr hp
 cbv
 replace hh := bind_some hh
 obtain ⟨⟨x2_0, ⟨x2_1a, x2_1b⟩⟩, h1, hh⟩ := hh
 try dsimp only at hh
 have fc := c_spec_l14Rd_pick hQ h1
 try dsimp only at fc
 refine go_call hF fc ?_
 cbv
 replace hh := req_some hh
 obtain ⟨h4, hh⟩ := hh
 try dsimp only at h4
 replace hh := bind_some hh
 obtain ⟨e5, h6, hh⟩ := hh
 refine ⟨[iA e5], Nb h4, Gb h6, ?_⟩
 cbv
 exact Eb

theorem c_scc145 : ∀ k : Nat, (∀ {p0 : Gl14Rd} {p1 : Int} {r : GEx × Gl14Rd}, spec_l2Ex.f k p0 p1 = some r → FunW P 145 [.obox [tA (qIu8 p0.b), iA p0.p], iA p1] [.obox [tA (qIu8 r.2.b), iA r.2.p], hA] (.agg [iA r.1.Kind, iA r.1.Sym, iA r.1.N, oA 4 (qGExO r.1.Kids)])) := by
  intro k
  induction k using Nat.strongRecOn with
  | _ k ih =>
  · intro p0 p1 r hh
    cases k with
    | zero => unfold spec_l2Ex.f at hh; cases hh
    | succ k =>
    obtain ⟨p0a, p0b⟩ := p0
    unfold spec_l2Ex.f at hh
    refine go (ts := [(4, some 25)]) (rm := [.own]) (pm := [.own, .skip]) Tryz.func145 ?_
    intro Fn LW len cast toNat wrap add sub mul bin lt eq At set part app fz' rep nadd nmax ssize sext sget scat seq slt Wide Flat Ones Room r' post' hC hF hr hp
    cbv
    replace hh := if_or hh
    rcases hh with ⟨b1, hh⟩ | ⟨b1, hh⟩
    ·
     have f2 : (lt 1 p1) = true := Tb b1
     have g := f2; cbv at g; try rw [f2]
     try rw [g]
     cbv
     replace hh := bind_some hh
     obtain ⟨⟨x4_0, ⟨x4_1a, x4_1b⟩⟩, h3, hh⟩ := hh
     try dsimp only at hh
     have fc := c_spec_l14Rd_pick hQ h3
     try dsimp only at fc
     refine go_call hF fc ?_
     cbv
     refine bcs (fun f7 => ?_) (fun f7 => ?_)
     ·
      replace hh := ifT hh f7
      try rw [f7]
      cbv
      replace hh := bind_some hh
      obtain ⟨⟨x9_0, ⟨x9_1a, x9_1b⟩⟩, h8, hh⟩ := hh
      try dsimp only at hh
      refine ⟨Ob, ?_⟩
      have fc := c_spec_l14Rd_num hQ h8
      try dsimp only at fc
      refine go_call hF fc ?_
      cbv
      refine ⟨4, ?_⟩
      cbv
      exact Eb
     ·
      replace hh := ifF hh f7
      try rw [f7]
      cbv
      replace hh := bind_some hh
      obtain ⟨⟨x12_0, ⟨x12_1a, x12_1b⟩⟩, h11, hh⟩ := hh
      try dsimp only at hh
      refine ⟨Ob, ?_⟩
      have fc := c_spec_l14Rd_num hQ h11
      try dsimp only at fc
      refine go_call hF fc ?_
      cbv
      refine bcs (fun f15 => ?_) (fun f15 => ?_)
      ·
       replace hh := ifT hh f15
       try rw [f15]
       cbv
       replace hh := bind_some hh
       obtain ⟨⟨x17_0, ⟨x17_1a, x17_1b⟩⟩, h16, hh⟩ := hh
       try dsimp only at hh
       refine ⟨Ob, ?_⟩
       have fc := c_spec_l14Rd_num hQ h16
       try dsimp only at fc
       refine go_call hF fc ?_
       cbv
       replace hh := bind_some hh
       obtain ⟨x20, h19, hh⟩ := hh
       refine go_call hF (c_spec_l2Kids hQ h19) ?_
       cbv
       replace hh := bind_some hh
       obtain ⟨o1, hl1, hq1⟩ := hh
       refine loop_go4 hC eok mixed (fun n (i : (List Int) × Int × (List GEx) × Int) => spec_l2Ex.l0 k (spec_l2Ex.f k) p1 n i.1 i.2.1 i.2.2.1 i.2.2.2)
        (fun ⟨s28, s29, s30, s31⟩ => (⟨[(0, .mptr (0, 0) 1 0 0), (1, iA p1), (4, .mptr (4, 0) 1 0 0), (5, .mptr (5, 0) 1 0 0), (6, iA s31), (1000000, .mptr (0, 0) 1 0 0)], [((0, 0), .box 1 [tA (qIu8 s28), iA s29]), ((4, 0), .box 1 [iA 0, iA 0, iA 0, .lit (.slice none 0 0)]), ((5, 0), .box 1 [iA x12_0, iA 0, iA x17_0, .ref (5, 53) 1 0 (len (qGExO s30))]), ((5, 53), .arr 1 4 (qGExO s30))]⟩ : St))
        (fun (⟨x38, x39, x40⟩ : (List GEx) × (List Int) × Int) => (⟨[(4, .mptr (4, 0) 1 0 0), (5, .mptr (5, 0) 1 0 0), (1000000, .mptr (0, 0) 1 0 0)], [((0, 0), .box 1 [tA (qIu8 x39), iA x40]), ((4, 0), .box 1 [iA 0, iA 0, iA 0, .lit (.slice none 0 0)]), ((5, 0), .box 1 [iA x12_0, iA 0, iA x17_0, .ref (5, 53) 1 0 (len (qGExO x38))]), ((5, 53), .arr 1 4 (qGExO x38))]⟩ : St)) (fun x => x) (.exit 0)
        (i0 := (_, _, _, _)) hl1 (fun _ => rfl) ?_ ?_ ?_
       ·
        rintro ⟨t0, t1, t2, t3⟩ e
        refine cov_of [((0, 0), (0, 0)), ((4, 0), (4, 0)), ((5, 0), (5, 0))] ?_
        cbv
        all_goals exact J4
       ·
        rintro ⟨x38, x39, x40⟩ hx
        subst o1
        have hh := hq1
        cbv
        exact Eb
       ·
        rintro n ⟨s28, s29, s30, s31⟩ N1 D1 hh hN1 hD1 hQ1
        dsimp only at hh
        unfold spec_l2Ex.l0 at hh
        cbv
        refine bcs (fun f42 => ?_) (fun f42 => ?_)
        ·
         replace hh := ifT hh f42
         try rw [f42]
         cbv
         replace hh := bind_some hh
         obtain ⟨⟨⟨x44_0a, x44_0b, x44_0c, x44_0d⟩, ⟨x44_1a, x44_1b⟩⟩, h43, hh⟩ := hh
         try dsimp only at hh
         have fc := (ih k (Nat.lt_succ_self k)) h43
         try dsimp only at fc
         refine go_call hF fc ?_
         cbv
         replace hh := req_some hh
         obtain ⟨h46, hh⟩ := hh
         refine ⟨⟨Ob, Ab⟩, ?_⟩
         refine ⟨⟨Ob, Wb h46⟩, ?_⟩
         refine hN1 (_, _, _, _) _ hh fun ⟨t0, t1, t2, t3⟩ e => ?_
         refine cov_of [((0, 0), (0, 0)), ((4, 0), (4, 0)), ((5, 0), (5, 0)), ((5, 53), (43, 0))] ?_
         cbv
         all_goals exact J4
        ·
         replace hh := ifF hh f42
         try rw [f42]
         cbv
         refine hD1 (_, _, _) _ hh fun ⟨t0, t1, t2⟩ e => ?_
         refine cov_of [((0, 0), (0, 0)), ((4, 0), (4, 0)), ((5, 0), (5, 0)), ((5, 53), (5, 53))] ?_
         cbv
         all_goals exact J3
      ·
       replace hh := ifF hh f15
       try rw [f15]
       cbv
       replace hh := bind_some hh
       obtain ⟨x48, h47, hh⟩ := hh
       refine go_call hF (c_spec_l2Kids hQ h47) ?_
       cbv
       replace hh := bind_some hh
       obtain ⟨o1, hl1, hq1⟩ := hh
       refine loop_go4 hC eok mixed (fun n (i : (List Int) × Int × (List GEx) × Int) => spec_l2Ex.l1 k (spec_l2Ex.f k) p1 n i.1 i.2.1 i.2.2.1 i.2.2.2)
        (fun ⟨s56, s57, s58, s59⟩ => (⟨[(0, .mptr (0, 0) 1 0 0), (1, iA p1), (4, .mptr (4, 0) 1 0 0), (5, .mptr (5, 0) 1 0 0), (6, iA s59), (1000000, .mptr (0, 0) 1 0 0)], [((0, 0), .box 1 [tA (qIu8 s56), iA s57]), ((4, 0), .box 1 [iA 0, iA 0, iA 0, .lit (.slice none 0 0)]), ((5, 0), .box 1 [iA x12_0, iA 0, iA 0, .ref (5, 53) 1 0 (len (qGExO s58))]), ((5, 53), .arr 1 4 (qGExO s58))]⟩ : St))
        (fun (⟨x66, x67, x68⟩ : (List GEx) × (List Int) × Int) => (⟨[(4, .mptr (4, 0) 1 0 0), (5, .mptr (5, 0) 1 0 0), (1000000, .mptr (0, 0) 1 0 0)], [((0, 0), .box 1 [tA (qIu8 x67), iA x68]), ((4, 0), .box 1 [iA 0, iA 0, iA 0, .lit (.slice none 0 0)]), ((5, 0), .box 1 [iA x12_0, iA 0, iA 0, .ref (5, 53) 1 0 (len (qGExO x66))]), ((5, 53), .arr 1 4 (qGExO x66))]⟩ : St)) (fun x => x) (.exit 0)
        (i0 := (_, _, _, _)) hl1 (fun _ => rfl) ?_ ?_ ?_
       ·
        rintro ⟨t0, t1, t2, t3⟩ e
        refine cov_of [((0, 0), (0, 0)), ((4, 0), (4, 0)), ((5, 0), (5, 0))] ?_
        cbv
        all_goals exact J4
       ·
        rintro ⟨x66, x67, x68⟩ hx
        subst o1
        have hh := hq1
        cbv
        exact Eb
       ·
        rintro n ⟨s56, s57, s58, s59⟩ N1 D1 hh hN1 hD1 hQ1
        dsimp only at hh
        unfold spec_l2Ex.l1 at hh
        cbv
        refine bcs (fun f70 => ?_) (fun f70 => ?_)
        ·
         replace hh := ifT hh f70
         try rw [f70]
         cbv
         replace hh := bind_some hh
         obtain ⟨⟨⟨x72_0a, x72_0b, x72_0c, x72_0d⟩, ⟨x72_1a, x72_1b⟩⟩, h71, hh⟩ := hh
         try dsimp only at hh
         have fc := (ih k (Nat.lt_succ_self k)) h71
         try dsimp only at fc
         refine go_call hF fc ?_
         cbv
         replace hh := req_some hh
         obtain ⟨h74, hh⟩ := hh
         refine ⟨⟨Ob, Ab⟩, ?_⟩
         refine ⟨⟨Ob, Wb h74⟩, ?_⟩
         refine hN1 (_, _, _, _) _ hh fun ⟨t0, t1, t2, t3⟩ e => ?_
         refine cov_of [((0, 0), (0, 0)), ((4, 0), (4, 0)), ((5, 0), (5, 0)), ((5, 53), (43, 0))] ?_
         cbv
         all_goals exact J4
        ·
         replace hh := ifF hh f70
         try rw [f70]
         cbv
         refine hD1 (_, _, _) _ hh fun ⟨t0, t1, t2⟩ e => ?_
         refine cov_of [((0, 0), (0, 0)), ((4, 0), (4, 0)), ((5, 0), (5, 0)), ((5, 53), (5, 53))] ?_
         cbv
         all_goals exact J3
    ·
     have f2 : (lt 1 p1) = false := Fb b1
     have g := f2; cbv at g; try rw [f2]
     try rw [g]
     cbv
     replace hh := bind_some hh
     obtain ⟨⟨x76_0, ⟨x76_1a, x76_1b⟩⟩, h75, hh⟩ := hh
     try dsimp only at hh
     refine ⟨Ob, ?_⟩
     have fc := c_spec_l14Rd_num hQ h75
     try dsimp only at fc
     refine go_call hF fc ?_
     cbv
     refine ⟨4, ?_⟩
     cbv
     exact Eb
theorem c_spec_l2Ex {k : Nat} {p0 : Gl14Rd} {p1 : Int} {r : GEx × Gl14Rd} (hh : spec_l2Ex.f k p0 p1 = some r) : FunW P 145 [.obox [tA (qIu8 p0.b), iA p0.p], iA p1] [.obox [tA (qIu8 r.2.b), iA r.2.p], hA] (.agg [iA r.1.Kind, iA r.1.Sym, iA r.1.N, oA 4 (qGExO r.1.Kids)]) := (c_scc145 hQ k) hh


theorem c_spec_l2Some {k : Nat} {p0 : Gl14Rd} {r : GEx × Gl14Rd} (hh : spec_l2Some.f k p0 = some r) : FunW P 110 [.obox [tA (qIu8 p0.b), iA p0.p]] [.obox [tA (qIu8 r.2.b), iA r.2.p]] (.agg [iA r.1.Kind, iA r.1.Sym, iA r.1.N, oA 4 (qGExO r.1.Kids)]) := by
 obtain ⟨p0a, p0b⟩ := p0
 unfold spec_l2Some.f at hh
 refine go (ts := [(2, some 25)]) (rm := [.own]) (pm := [.own]) Tryz.func110 ?_
 intro Fn LW len cast toNat wrap add sub mul bin lt eq At set part app fz' rep nadd nmax ssize sext sget scat seq slt Wide Flat Ones Room r' post' hC hF hr hp
 cbv
 replace hh := bind_some hh
 obtain ⟨⟨x2_0, ⟨x2_1a, x2_1b⟩⟩, h1, hh⟩ := hh
 try dsimp only at hh
 have fc := c_spec_l14Rd_pick hQ h1
 try dsimp only at fc
 refine go_call hF fc ?_
 cbv
 replace hh := bind_some hh
 obtain ⟨⟨⟨x5_0a, x5_0b, x5_0c, x5_0d⟩, ⟨x5_1a, x5_1b⟩⟩, h4, hh⟩ := hh
 try dsimp only at hh
 have fc := c_spec_l2Ex hQ h4
 try dsimp only at fc
 refine go_call hF fc ?_
 cbv
 replace hh := bind_some hh
 obtain ⟨x8, h7, hh⟩ := hh
 have fc := c_spec_ExOk_L0 hQ h7
 try dsimp only at fc
 refine go_call hF fc ?_
 cbv
 replace hh := if_or hh
 rcases hh with ⟨b10, hh⟩ | ⟨b10, hh⟩
 ·
  have f11 : x8 = true := Tb b10
  have g := f11; cbv at g; try rw [f11]
  try rw [g]
  cbv
  exact Eb
 ·
  have f11 : x8 = false := Fb b10
  have g := f11; cbv at g; try rw [f11]
  try rw [g]
  cbv
  replace hh := bind_some hh
  obtain ⟨⟨⟨x13_0a, x13_0b, x13_0c, x13_0d⟩, ⟨x13_1a, x13_1b⟩⟩, h12, hh⟩ := hh
  try dsimp only at hh
  have fc := c_spec_l2Ex hQ h12
  try dsimp only at fc
  refine go_call hF fc ?_
  cbv
  exact Eb

theorem c_scc112 : ∀ k : Nat, (∀ {p0 : GEx} {r : GEx}, spec_l2Copy.f k p0 = some r → FunW P 112 [.agg [iA p0.Kind, iA p0.Sym, iA p0.N, tA (qGEx p0.Kids)]] [hA] (.agg [iA r.Kind, iA r.Sym, iA r.N, oA 4 (qGExO r.Kids)])) := by
  intro k
  induction k using Nat.strongRecOn with
  | _ k ih =>
  · intro p0 r hh
    cases k with
    | zero => unfold spec_l2Copy.f at hh; cases hh
    | succ k =>
    obtain ⟨p0a, p0b, p0c, p0d⟩ := p0
    unfold spec_l2Copy.f at hh
    refine go (ts := [(2, some 25)]) (rm := [.own]) (pm := [.skip]) Tryz.func112 ?_
    intro Fn LW len cast toNat wrap add sub mul bin lt eq At set part app fz' rep nadd nmax ssize sext sget scat seq slt Wide Flat Ones Room r' post' hC hF hr hp
    cbv
    replace hh := bind_some hh
    obtain ⟨o1, hl1, hq1⟩ := hh
    refine loop_go4 hC eok mixed (fun n (i : (List GEx) × Int) => spec_l2Copy.l0 k (spec_l2Copy.f k) (⟨p0a, p0b, p0c, p0d⟩ : GEx) n i.1 i.2)
     (fun ⟨s10, s11⟩ => (⟨[(1, .mptr (1, 0) 1 0 0), (2, .mptr (2, 0) 1 0 0), (3, .mptr (3, 0) 1 0 0), (4, iA s11)], [((1, 0), .box 1 [iA p0a, iA p0b, iA p0c, tA (qGEx p0d)]), ((2, 0), .box 1 [iA 0, iA 0, iA 0, .lit (.slice none 0 0)]), ((3, 0), .box 1 [iA p0a, iA p0b, iA p0c, .ref (3, 53) 1 0 (len (qGExO s10))]), ((3, 53), .arr 1 4 (qGExO s10))]⟩ : St))
     (fun (x21 : List GEx) => (⟨[(2, .mptr (2, 0) 1 0 0), (3, .mptr (3, 0) 1 0 0)], [((2, 0), .box 1 [iA 0, iA 0, iA 0, .lit (.slice none 0 0)]), ((3, 0), .box 1 [iA p0a, iA p0b, iA p0c, .ref (3, 53) 1 0 (len (qGExO x21))]), ((3, 53), .arr 1 4 (qGExO x21))]⟩ : St)) (fun x => x) (.exit 0)
     (i0 := (_, _)) hl1 (fun _ => rfl) ?_ ?_ ?_
    ·
     rintro ⟨t0, t1⟩ e
     refine cov_of [((1, 0), (1, 0)), ((2, 0), (2, 0)), ((3, 0), (3, 0))] ?_
     cbv
     all_goals exact J2
    ·
     rintro x21 hx
     subst o1
     have hh := hq1
     cbv
     exact Eb
    ·
     rintro n ⟨s10, s11⟩ N1 D1 hh hN1 hD1 hQ1
     dsimp only at hh
     unfold spec_l2Copy.l0 at hh
     cbv
     refine bcs (fun f23 => ?_) (fun f23 => ?_)
     ·
      replace hh := ifT hh f23
      try rw [f23]
      cbv
      replace hh := req_some hh
      obtain ⟨h24, hh⟩ := hh
      replace hh := bind_some hh
      obtain ⟨⟨e25a, e25b, e25c, e25d⟩, h26, hh⟩ := hh
      try dsimp only at hh
      refine ⟨[iA e25a, iA e25b, iA e25c, tA (qGEx e25d)], Nb h24, Gb h26, ?_⟩
      cbv
      replace hh := bind_some hh
      obtain ⟨⟨x28a, x28b, x28c, x28d⟩, h27, hh⟩ := hh
      try dsimp only at hh
      have fc := (ih k (Nat.lt_succ_self k)) h27
      try dsimp only at fc
      refine go_call hF fc ?_
      cbv
      replace hh := req_some hh
      obtain ⟨h30, hh⟩ := hh
      refine ⟨⟨Ob, Ab⟩, ?_⟩
      refine ⟨⟨Ob, Wb h30⟩, ?_⟩
      refine hN1 (_, _) _ hh fun ⟨t0, t1⟩ e => ?_
      refine cov_of [((1, 0), (1, 0)), ((2, 0), (2, 0)), ((3, 0), (3, 0)), ((3, 53), (28, 0))] ?_
      cbv
      all_goals exact J2
     ·
      replace hh := ifF hh f23
      try rw [f23]
      cbv
      refine hD1 _ _ hh fun t0 e => ?_
      refine cov_of [((2, 0), (2, 0)), ((3, 0), (3, 0)), ((3, 53), (3, 53))] ?_
      cbv
      all_goals exact J1
theorem c_spec_l2Copy {k : Nat} {p0 : GEx} {r : GEx} (hh : spec_l2Copy.f k p0 = some r) : FunW P 112 [.agg [iA p0.Kind, iA p0.Sym, iA p0.N, tA (qGEx p0.Kids)]] [hA] (.agg [iA r.Kind, iA r.Sym, iA r.N, oA 4 (qGExO r.Kids)]) := (c_scc112 hQ k) hh

theorem c_spec_l2Copy_L0 {k : Nat} {p0 : GEx} {r : GEx} (hh : spec_l2Copy.f k p0 = some r) : FunW P 112 [.agg [iA p0.Kind, iA p0.Sym, iA p0.N, oA 4 (qGExO p0.Kids)]] [.agg [iA p0.Kind, iA p0.Sym, iA p0.N, oA 4 (qGExO p0.Kids)]] (.agg [iA r.Kind, iA r.Sym, iA r.N, oA 4 (qGExO r.Kids)]) := by
  cases hQ; exact (c_spec_l2Copy .mk hh).lend (by simp [Vm.ownd, owndL, -r_GExO_map, r_GExO_ownd]) (.lend (by simp) .nil)

theorem c_spec_l2Bent {k : Nat} {p0 : Gl14Rd} {r : GEx × Gl14Rd} (hh : spec_l2Bent.f k p0 = some r) : FunW P 62 [.obox [tA (qIu8 p0.b), iA p0.p]] [.obox [tA (qIu8 r.2.b), iA r.2.p]] (.agg [iA r.1.Kind, iA r.1.Sym, iA r.1.N, oA 4 (qGExO r.1.Kids)]) := by
 obtain ⟨p0a, p0b⟩ := p0
 unfold spec_l2Bent.f at hh
 refine go (ts := [(2, some 25)]) (rm := [.own]) (pm := [.own]) Tryz.func62 ?_
 intro Fn LW len cast toNat wrap add sub mul bin lt eq At set part app fz' rep nadd nmax ssize sext sget scat seq slt Wide Flat Ones Room r' post' hC hF hr hp
 cbv
 replace hh := bind_some hh
 obtain ⟨⟨⟨x2_0a, x2_0b, x2_0c, x2_0d⟩, ⟨x2_1a, x2_1b⟩⟩, h1, hh⟩ := hh
 try dsimp only at hh
 have fc := c_spec_l2Some hQ h1
 try dsimp only at fc
 refine go_call hF fc ?_
 cbv
 replace hh := bind_some hh
 obtain ⟨⟨x5_0, ⟨x5_1a, x5_1b⟩⟩, h4, hh⟩ := hh
 try dsimp only at hh
 have fc := c_spec_l14Rd_pick hQ h4
 try dsimp only at fc
 refine go_call hF fc ?_
 cbv
 refine bcs (fun f8 => ?_) (fun f8 => ?_)
 ·
  replace hh := ifT hh f8
  try rw [f8]
  cbv
  replace hh := bind_some hh
  obtain ⟨⟨x10_0, ⟨x10_1a, x10_1b⟩⟩, h9, hh⟩ := hh
  try dsimp only at hh
  refine ⟨Ob, ?_⟩
  have fc := c_spec_l14Rd_num hQ h9
  try dsimp only at fc
  refine go_call hF fc ?_
  cbv
  exact Eb
 ·
  replace hh := ifF hh f8
  try rw [f8]
  cbv
  refine bcs (fun f13 => ?_) (fun f13 => ?_)
  ·
   replace hh := ifT hh f13
   try rw [f13]
   cbv
   replace hh := bind_some hh
   obtain ⟨⟨x15_0, ⟨x15_1a, x15_1b⟩⟩, h14, hh⟩ := hh
   try dsimp only at hh
   refine ⟨Ob, ?_⟩
   have fc := c_spec_l14Rd_num hQ h14
   try dsimp only at fc
   refine go_call hF fc ?_
   cbv
   exact Eb
  ·
   replace hh := ifF hh f13
   try rw [f13]
   cbv
   refine bcs (fun f18 => ?_) (fun f18 => ?_)
   ·
    replace hh := ifT hh f18
    try rw [f18]
    cbv
    replace hh := bind_some hh
    obtain ⟨⟨x20_0, ⟨x20_1a, x20_1b⟩⟩, h19, hh⟩ := hh
    try dsimp only at hh
    refine ⟨Ob, ?_⟩
    have fc := c_spec_l14Rd_num hQ h19
    try dsimp only at fc
    refine go_call hF fc ?_
    cbv
    exact Eb
   ·
    replace hh := ifF hh f18
    try rw [f18]
    cbv
    refine bcs (fun f23 => ?_) (fun f23 => ?_)
    ·
     replace hh := ifT hh f23
     try rw [f23]
     cbv
     replace hh := bind_some hh
     obtain ⟨o1, hl1, hq1⟩ := hh
     refine loop_go4 hC eok mixed (fun n (i : Int × Int × Int × (List GEx) × Int) => spec_l2Bent.l0 k n i.1 i.2.1 i.2.2.1 i.2.2.2.1 i.2.2.2.2)
      (fun ⟨s26, s27, s28, s29, s30⟩ => (⟨[(2, .mptr (2, 0) 1 0 0), (3, .mptr (3, 0) 1 0 0), (4, iA s30), (1000000, .mptr (0, 0) 1 0 0)], [((0, 0), .box 1 [tA (qIu8 x5_1a), iA x5_1b]), ((2, 0), .box 1 [iA 0, iA 0, iA 0, .lit (.slice none 0 0)]), ((3, 0), .box 1 [iA s26, iA s27, iA s28, .ref (7, 0) 1 0 (len (qGExO s29))]), ((7, 0), .arr 1 4 (qGExO s29))]⟩ : St))
      (fun (⟨x33, x34, x35, x36⟩ : Int × Int × Int × (List GEx)) => (⟨[(2, .mptr (2, 0) 1 0 0), (3, .mptr (3, 0) 1 0 0), (1000000, .mptr (0, 0) 1 0 0)], [((0, 0), .box 1 [tA (qIu8 x5_1a), iA x5_1b]), ((2, 0), .box 1 [iA 0, iA 0, iA 0, .lit (.slice none 0 0)]), ((3, 0), .box 1 [iA x33, iA x34, iA x35, .ref (7, 0) 1 0 (len (qGExO x36))]), ((7, 0), .arr 1 4 (qGExO x36))]⟩ : St)) (fun x => x) (.exit 1)
      (i0 := (_, _, _, _, _)) hl1 (fun _ => rfl) ?_ ?_ ?_
     ·
      rintro ⟨t0, t1, t2, t3, t4⟩ e
      refine cov_of [((0, 0), (0, 0)), ((2, 0), (2, 0)), ((3, 0), (3, 0)), ((7, 0), (7, 0))] ?_
      cbv
      all_goals exact J5
     ·
      rintro ⟨x33, x34, x35, x36⟩ hx
      subst o1
      have hh := hq1
      cbv
      exact Eb
     ·
      rintro n ⟨s26, s27, s28, s29, s30⟩ N1 D1 hh hN1 hD1 hQ1
      dsimp only at hh
      unfold spec_l2Bent.l0 at hh
      cbv
      refine bcs (fun f38 => ?_) (fun f38 => ?_)
      ·
       replace hh := ifT hh f38
       try rw [f38]
       cbv
       refine hN1 (_, _, _, _, _) _ hh fun ⟨t0, t1, t2, t3, t4⟩ e => ?_
       refine cov_of [((0, 0), (0, 0)), ((2, 0), (2, 0)), ((3, 0), (3, 0)), ((7, 0), (35, 0))] ?_
       cbv
       all_goals exact J5
      ·
       replace hh := ifF hh f38
       try rw [f38]
       cbv
       refine hD1 (_, _, _, _) _ hh fun ⟨t0, t1, t2, t3⟩ e => ?_
       refine cov_of [((0, 0), (0, 0)), ((2, 0), (2, 0)), ((3, 0), (3, 0)), ((7, 0), (7, 0))] ?_
       cbv
       all_goals exact J4
    ·
     replace hh := ifF hh f23
     try rw [f23]
     cbv
     refine bcs (fun f40 => ?_) (fun f40 => ?_)
     ·
      replace hh := ifT hh f40
      try rw [f40]
      cbv
      replace hh := bind_some hh
      obtain ⟨o1, hl1, hq1⟩ := hh
      refine loop_go4 hC eok mixed (fun n (i : Int × Int × Int × (List GEx) × Int) => spec_l2Bent.l1 k n i.1 i.2.1 i.2.2.1 i.2.2.2.1 i.2.2.2.2)
       (fun ⟨s46, s47, s48, s49, s50⟩ => (⟨[(2, .mptr (2, 0) 1 0 0), (3, .mptr (3, 0) 1 0 0), (5, iA s50), (1000000, .mptr (0, 0) 1 0 0)], [((0, 0), .box 1 [tA (qIu8 x5_1a), iA x5_1b]), ((2, 0), .box 1 [iA 0, iA 0, iA 0, .lit (.slice none 0 0)]), ((3, 0), .box 1 [iA s46, iA s47, iA s48, .ref (7, 0) 1 0 (len (qGExO s49))]), ((7, 0), .arr 1 4 (qGExO s49))]⟩ : St))
       (fun (⟨x56, x57, x58, x59⟩ : Int × Int × Int × (List GEx)) => (⟨[(2, .mptr (2, 0) 1 0 0), (3, .mptr (3, 0) 1 0 0), (1000000, .mptr (0, 0) 1 0 0)], [((0, 0), .box 1 [tA (qIu8 x5_1a), iA x5_1b]), ((2, 0), .box 1 [iA 0, iA 0, iA 0, .lit (.slice none 0 0)]), ((3, 0), .box 1 [iA x56, iA x57, iA x58, .ref (7, 0) 1 0 (len (qGExO x59))]), ((7, 0), .arr 1 4 (qGExO x59))]⟩ : St)) (fun x => x) (.exit 3)
       (i0 := (_, _, _, _, _)) hl1 (fun _ => rfl) ?_ ?_ ?_
      ·
       rintro ⟨t0, t1, t2, t3, t4⟩ e
       refine cov_of [((0, 0), (0, 0)), ((2, 0), (2, 0)), ((3, 0), (3, 0)), ((7, 0), (7, 0))] ?_
       cbv
       all_goals exact J5
      ·
       rintro ⟨x56, x57, x58, x59⟩ hx
       subst o1
       have hh := hq1
       cbv
       exact Eb
      ·
       rintro n ⟨s46, s47, s48, s49, s50⟩ N1 D1 hh hN1 hD1 hQ1
       dsimp only at hh
       unfold spec_l2Bent.l1 at hh
       cbv
       refine bcs (fun f61 => ?_) (fun f61 => ?_)
       ·
        replace hh := ifT hh f61
        try rw [f61]
        cbv
        replace hh := bind_some hh
        obtain ⟨⟨x63a, x63b, x63c, x63d⟩, h62, hh⟩ := hh
        try dsimp only at hh
        have fc := c_spec_l2Copy_L0 hQ h62
        try dsimp only at fc
        refine go_call hF fc ?_
        cbv
        refine hN1 (_, _, _, _, _) _ hh fun ⟨t0, t1, t2, t3, t4⟩ e => ?_
        refine cov_of [((0, 0), (0, 0)), ((2, 0), (2, 0)), ((3, 0), (3, 0)), ((7, 0), (46, 0))] ?_
        cbv
        all_goals exact J5
       ·
        replace hh := ifF hh f61
        try rw [f61]
        cbv
        refine hD1 (_, _, _, _) _ hh fun ⟨t0, t1, t2, t3⟩ e => ?_
        refine cov_of [((0, 0), (0, 0)), ((2, 0), (2, 0)), ((3, 0), (3, 0)), ((7, 0), (7, 0))] ?_
        cbv
        all_goals exact J4
     ·
      replace hh := ifF hh f40
      try rw [f40]
      cbv
      exact Eb

theorem c_spec_l12By {k : Nat} {p0 : Gl14Rd} {r : (List Int) × Gl14Rd} (hh : spec_l12By.f k p0 = some r) : FunW P 63 [.obox [tA (qIu8 p0.b), iA p0.p]] [.obox [tA (qIu8 r.2.b), iA r.2.p]] (tA (qInt r.1)) := by
 obtain ⟨p0a, p0b⟩ := p0
 unfold spec_l12By.f at hh
 refine go (ts := [(2, none)]) (rm := [.val]) (pm := [.own]) Tryz.func63 ?_
 intro Fn LW len cast toNat wrap add sub mul bin lt eq At set part app fz' rep nadd nmax ssize sext sget scat seq slt Wide Flat Ones Room r' post' hC hF hr hp
 cbv
 replace hh := bind_some hh
 obtain ⟨o1, hl1, hq1⟩ := hh
 refine loop_go4 hC eok mixed (fun n (i : (List Int) × Int × (List Int) × Int) => spec_l12By.l0 k n i.1 i.2.1 i.2.2.1 i.2.2.2)
  (fun ⟨s20, s21, s22, s23⟩ => (⟨[(0, .mptr (0, 0) 1 0 0), (3, .ref (7, 0) 1 0 (len (qInt s22))), (4, iA s23), (1000000, .mptr (0, 0) 1 0 0)], [((0, 0), .box 1 [tA (qIu8 s20), iA s21]), ((7, 0), .arr 1 1 (qInt s22))]⟩ : St))
  (fun (⟨x43, x44, x45⟩ : (List Int) × Int × (List Int)) => (⟨[(0, .mptr (0, 0) 1 0 0), (3, .ref (7, 0) 1 0 (len (qInt x45))), (1000000, .mptr (0, 0) 1 0 0)], [((0, 0), .box 1 [tA (qIu8 x43), iA x44]), ((7, 0), .arr 1 1 (qInt x45))]⟩ : St)) (fun x => x) (.exit 0)
  (i0 := (_, _, _, _)) hl1 (fun _ => rfl) ?_ ?_ ?_
 ·
  rintro ⟨t0, t1, t2, t3⟩ e
  refine cov_of [((0, 0), (0, 0)), ((7, 0), (7, 0))] ?_
  cbv
  all_goals exact J4
 ·
  rintro ⟨x43, x44, x45⟩ hx
  subst o1
  have hh := hq1
  cbv
  replace hh := bind_some hh
  obtain ⟨⟨x66_0, ⟨x66_1a, x66_1b⟩⟩, h65, hh⟩ := hh
  try dsimp only at hh
  have fc := c_spec_l14Rd_pick hQ h65
  try dsimp only at fc
  refine go_call hF fc ?_
  cbv
  refine bcs (fun f69 => ?_) (fun f69 => ?_)
  ·
   replace hh := ifT hh f69
   try rw [f69]
   cbv
   replace hh := req_some hh
   obtain ⟨h70, hh⟩ := hh
   replace hh := req_some hh
   obtain ⟨h71, hh⟩ := hh
   refine ⟨Nb h70, Mb h71, ?_⟩
   replace hh := bind_some hh
   obtain ⟨e72, h73, hh⟩ := hh
   refine ⟨[iA e72], Gb h73, ?_⟩
   cbv
   replace hh := bind_some hh
   obtain ⟨⟨x75_0, ⟨x75_1a, x75_1b⟩⟩, h74, hh⟩ := hh
   try dsimp only at hh
   refine ⟨Ob, ?_⟩
   have fc := c_spec_l14Rd_num hQ h74
   try dsimp only at fc
   refine go_call hF fc ?_
   cbv
   replace hh := req_some hh
   obtain ⟨h77, hh⟩ := hh
   replace hh := req_some hh
   obtain ⟨h78, hh⟩ := hh
   refine ⟨Nb h77, Mb h78, ?_⟩
   replace hh := bind_some hh
   obtain ⟨e79, h80, hh⟩ := hh
   refine ⟨[iA e79], Gb h80, ?_⟩
   cbv
   exact Eb
  ·
   replace hh := ifF hh f69
   try rw [f69]
   cbv
   refine bcs (fun f82 => ?_) (fun f82 => ?_)
   ·
    replace hh := ifT hh f82
    try rw [f82]
    cbv
    replace hh := req_some hh
    obtain ⟨h83, hh⟩ := hh
    replace hh := req_some hh
    obtain ⟨h84, hh⟩ := hh
    replace hh := req_some hh
    obtain ⟨h85, hh⟩ := hh
    refine ⟨⟨Nb h83, Nb h84, Nb h85⟩, ?_⟩
    exact Eb
   ·
    replace hh := ifF hh f82
    try rw [f82]
    cbv
    exact Eb
 ·
  rintro n ⟨s20, s21, s22, s23⟩ N1 D1 hh hN1 hD1 hQ1
  dsimp only at hh
  unfold spec_l12By.l0 at hh
  cbv
  refine bcs (fun f47 => ?_) (fun f47 => ?_)
  ·
   replace hh := ifT hh f47
   try rw [f47]
   cbv
   replace hh := bind_some hh
   obtain ⟨⟨x49_0, ⟨x49_1a, x49_1b⟩⟩, h48, hh⟩ := hh
   try dsimp only at hh
   have fc := c_spec_l14Rd_pick hQ h48
   try dsimp only at fc
   refine go_call hF fc ?_
   cbv
   replace hh := req_some hh
   obtain ⟨h51, hh⟩ := hh
   replace hh := req_some hh
   obtain ⟨h52, hh⟩ := hh
   refine ⟨Nb h51, Mb h52, ?_⟩
   replace hh := bind_some hh
   obtain ⟨e53, h54, hh⟩ := hh
   refine ⟨[iA e53], Gb h54, ?_⟩
   cbv
   replace hh := req_some hh
   obtain ⟨h55, hh⟩ := hh
   try dsimp only at h55
   replace hh := req_some hh
   obtain ⟨h56, hh⟩ := hh
   try dsimp only at h56
   refine ⟨Nb h55, Mb h56, ?_⟩
   replace hh := bind_some hh
   obtain ⟨e57, h58, hh⟩ := hh
   refine ⟨[iA e57], Gb h58, ?_⟩
   cbv
   replace hh := req_some hh
   obtain ⟨h59, hh⟩ := hh
   replace hh := req_some hh
   obtain ⟨h60, hh⟩ := hh
   refine ⟨Nb h59, Mb h60, ?_⟩
   refine ⟨[iA e53], Gb h54, ?_⟩
   cbv
   replace hh := req_some hh
   obtain ⟨h61, hh⟩ := hh
   try dsimp only at h61
   replace hh := req_some hh
   obtain ⟨h62, hh⟩ := hh
   try dsimp only at h62
   refine ⟨Nb h61, Mb h62, ?_⟩
   replace hh := bind_some hh
   obtain ⟨e63, h64, hh⟩ := hh
   refine ⟨[iA e63], Gb h64, ?_⟩
   cbv
   refine hN1 (_, _, _, _) _ hh fun ⟨t0, t1, t2, t3⟩ e => ?_
   refine cov_of [((0, 0), (0, 0)), ((7, 0), (7, 0))] ?_
   cbv
   all_goals exact J4
  ·
   replace hh := ifF hh f47
   try rw [f47]
   cbv
   refine hD1 (_, _, _) _ hh fun ⟨t0, t1, t2⟩ e => ?_
   refine cov_of [((0, 0), (0, 0)), ((7, 0), (7, 0))] ?_
   cbv
   all_goals exact J3

theorem c_spec_DrawTurnEx {k : Nat} {p0 : List Int} {r : GEx × (List Int)} (hh : spec_DrawTurnEx.f k p0 = some r) : FunW P 15 [tA (qIu8 p0)] [hA] (.tup [.agg [iA r.1.Kind, iA r.1.Sym, iA r.1.N, oA 4 (qGExO r.1.Kids)], tA (qInt r.2)]) := by
 unfold spec_DrawTurnEx.f at hh
 refine go (ts := [(2, some 25), (3, none)]) (rm := [.own, .val]) (pm := [.skip]) Tryz.func15 ?_
 intro Fn LW len cast toNat wrap add sub mul bin lt eq At set part app fz' rep nadd nmax ssize sext sget scat seq slt Wide Flat Ones Room r' post' hC hF hr hp
 cbv
 replace hh := bind_some hh
 obtain ⟨⟨x2a, x2b⟩, h1, hh⟩ := hh
 try dsimp only at hh
 refine go_call hF (c_spec_l14Open hQ h1) ?_
 cbv
 replace hh := bind_some hh
 obtain ⟨⟨⟨x5_0a, x5_0b, x5_0c, x5_0d⟩, ⟨x5_1a, x5_1b⟩⟩, h4, hh⟩ := hh
 try dsimp only at hh
 have fc := c_spec_l2Bent hQ h4
 try dsimp only at fc
 refine go_call hF fc ?_
 cbv
 replace hh := bind_some hh
 obtain ⟨⟨x8_0, ⟨x8_1a, x8_1b⟩⟩, h7, hh⟩ := hh
 try dsimp only at hh
 have fc := c_spec_l12By hQ h7
 try dsimp only at fc
 refine go_call hF fc ?_
 cbv
 exact Eb

theorem c_spec_l4Draw {p0 : Gl14Rd} {r : Int × Gl14Rd} (hh : spec_l4Draw.f p0 = some r) : FunW P 113 [.obox [tA (qIu8 p0.b), iA p0.p]] [.obox [tA (qIu8 r.2.b), iA r.2.p]] (iA r.1) := by
 obtain ⟨p0a, p0b⟩ := p0
 unfold spec_l4Draw.f at hh
 refine go (ts := [(2, none)]) (rm := [.own]) (pm := [.own]) Tryz.func113 ?_
 intro Fn LW len cast toNat wrap add sub mul bin lt eq At set part app fz' rep nadd nmax ssize sext sget scat seq slt Wide Flat Ones Room r' post' hC hF hr hp
 cbv
 replace hh := bind_some hh
 obtain ⟨⟨x2_0, ⟨x2_1a, x2_1b⟩⟩, h1, hh⟩ := hh
 try dsimp only at hh
 refine ⟨Ob, ?_⟩
 have fc := c_spec_l14Rd_num hQ h1
 try dsimp only at fc
 refine go_call hF fc ?_
 cbv
 exact Eb

theorem c_spec_l1Evs {k : Nat} {p0 : Gl14Rd} {p1 : Int} {r : (List GEv) × Gl14Rd} (hh : spec_l1Evs.f k p0 p1 = some r) : FunW P 114 [.obox [tA (qIu8 p0.b), iA p0.p], iA p1] [.obox [tA (qIu8 r.2.b), iA r.2.p], hA] (oA 3 (qGEv r.1)) := by
 obtain ⟨p0a, p0b⟩ := p0
 unfold spec_l1Evs.f at hh
 refine go (ts := [(4, none)]) (rm := [.own]) (pm := [.own, .skip]) Tryz.func114 ?_
 intro Fn LW len cast toNat wrap add sub mul bin lt eq At set part app fz' rep nadd nmax ssize sext sget scat seq slt Wide Flat Ones Room r' post' hC hF hr hp
 cbv
 replace hh := bind_some hh
 obtain ⟨⟨x2_0, ⟨x2_1a, x2_1b⟩⟩, h1, hh⟩ := hh
 try dsimp only at hh
 have fc := c_spec_l14Rd_pick hQ h1
 try dsimp only at fc
 refine go_call hF fc ?_
 cbv
 replace hh := bind_some hh
 obtain ⟨o1, hl1, hq1⟩ := hh
 refine loop_go4 hC eok mixed (fun n (i : (List Int) × Int × (List GEv) × Int × Int) => spec_l1Evs.l0 k n i.1 i.2.1 i.2.2.1 i.2.2.2.1 i.2.2.2.2)
  (fun ⟨s16, s17, s18, s19, s20⟩ => (⟨[(0, .mptr (0, 0) 1 0 0), (5, .ref (8, 0) 1 0 (len (qGEv s18))), (6, iA s19), (7, iA s20), (1000000, .mptr (0, 0) 1 0 0)], [((0, 0), .box 1 [tA (qIu8 s16), iA s17]), ((8, 0), .arr 1 3 (qGEv s18))]⟩ : St))
  (fun (⟨x33, x34, x35⟩ : (List GEv) × (List Int) × Int) => (⟨[(5, .ref (8, 0) 1 0 (len (qGEv x33))), (1000000, .mptr (0, 0) 1 0 0)], [((0, 0), .box 1 [tA (qIu8 x34), iA x35]), ((8, 0), .arr 1 3 (qGEv x33))]⟩ : St)) (fun x => x) (.exit 0)
  (i0 := (_, _, _, _, _)) hl1 (fun _ => rfl) ?_ ?_ ?_
 ·
  rintro ⟨t0, t1, t2, t3, t4⟩ e
  refine cov_of [((0, 0), (0, 0)), ((8, 0), (8, 0))] ?_
  cbv
  all_goals exact J5
 ·
  rintro ⟨x33, x34, x35⟩ hx
  subst o1
  have hh := hq1
  cbv
  exact Eb
 ·
  rintro n ⟨s16, s17, s18, s19, s20⟩ N1 D1 hh hN1 hD1 hQ1
  dsimp only at hh
  unfold spec_l1Evs.l0 at hh
  cbv
  refine bcs (fun f37 => ?_) (fun f37 => ?_)
  ·
   replace hh := ifT hh f37
   try rw [f37]
   cbv
   replace hh := bind_some hh
   obtain ⟨⟨x39_0, ⟨x39_1a, x39_1b⟩⟩, h38, hh⟩ := hh
   try dsimp only at hh
   refine ⟨Ob, ?_⟩
   have fc := c_spec_l14Rd_num hQ h38
   try dsimp only at fc
   refine go_call hF fc ?_
   cbv
   replace hh := bind_some hh
   obtain ⟨⟨x42_0, ⟨x42_1a, x42_1b⟩⟩, h41, hh⟩ := hh
   try dsimp only at hh
   refine ⟨Ob, ?_⟩
   have fc := c_spec_l14Rd_num hQ h41
   try dsimp only at fc
   refine go_call hF fc ?_
   cbv
   replace hh := bind_some hh
   obtain ⟨⟨x45_0, ⟨x45_1a, x45_1b⟩⟩, h44, hh⟩ := hh
   try dsimp only at hh
   refine ⟨Ob, ?_⟩
   have fc := c_spec_l14Rd_num hQ h44
   try dsimp only at fc
   refine go_call hF fc ?_
   cbv
   replace hh := req_some hh
   obtain ⟨h47, hh⟩ := hh
   refine ⟨⟨Ob, Ab⟩, ?_⟩
   refine ⟨⟨Ob, Wb h47⟩, ?_⟩
   refine hN1 (_, _, _, _, _) _ hh fun ⟨t0, t1, t2, t3, t4⟩ e => ?_
   refine cov_of [((0, 0), (0, 0)), ((8, 0), (32, 0))] ?_
   cbv
   all_goals exact J5
  ·
   replace hh := ifF hh f37
   try rw [f37]
   cbv
   refine hD1 (_, _, _) _ hh fun ⟨t0, t1, t2⟩ e => ?_
   refine cov_of [((0, 0), (0, 0)), ((8, 0), (8, 0))] ?_
   cbv
   all_goals exact J3

theorem c_spec_l1Bent {k : Nat} {p0 : Gl14Rd} {r : (List GEv) × Gl14Rd} (hh : spec_l1Bent.f k p0 = some r) : FunW P 115 [.obox [tA (qIu8 p0.b), iA p0.p]] [.obox [tA (qIu8 r.2.b), iA r.2.p]] (oA 3 (qGEv r.1)) := by
 obtain ⟨p0a, p0b⟩ := p0
 unfold spec_l1Bent.f at hh
 refine go (ts := [(2, none)]) (rm := [.own]) (pm := [.own]) Tryz.func115 ?_
 intro Fn LW len cast toNat wrap add sub mul bin lt eq At set part app fz' rep nadd nmax ssize sext sget scat seq slt Wide Flat Ones Room r' post' hC hF hr hp
 cbv
 replace hh := bind_some hh
 obtain ⟨⟨x2_0, ⟨x2_1a, x2_1b⟩⟩, h1, hh⟩ := hh
 try dsimp only at hh
 have fc := c_spec_l1Evs hQ h1
 try dsimp only at fc
 refine go_call hF fc ?_
 cbv
 refine bcs (fun f5 => ?_) (fun f5 => ?_)
 ·
  replace hh := ifT hh f5
  try rw [f5]
  cbv
  exact Eb
 ·
  replace hh := ifF hh f5
  try rw [f5]
  cbv
  replace hh := bind_some hh
  obtain ⟨⟨x7_0, ⟨x7_1a, x7_1b⟩⟩, h6, hh⟩ := hh
  try dsimp only at hh
  have fc := c_spec_l14Rd_pick hQ h6
  try dsimp only at fc
  refine go_call hF fc ?_
  cbv
  replace hh := bind_some hh
  obtain ⟨⟨x10_0, ⟨x10_1a, x10_1b⟩⟩, h9, hh⟩ := hh
  try dsimp only at hh
  have fc := c_spec_l14Rd_pick hQ h9
  try dsimp only at fc
  refine go_call hF fc ?_
  cbv
  refine bcs (fun f13 => ?_) (fun f13 => ?_)
  ·
   replace hh := ifT hh f13
   try rw [f13]
   cbv
   replace hh := bind_some hh
   obtain ⟨⟨x15_0, ⟨x15_1a, x15_1b⟩⟩, h14, hh⟩ := hh
   try dsimp only at hh
   refine ⟨Ob, ?_⟩
   have fc := c_spec_l14Rd_num hQ h14
   try dsimp only at fc
   refine go_call hF fc ?_
   cbv
   replace hh := req_some hh
   obtain ⟨h17, hh⟩ := hh
   try dsimp only at h17
   replace hh := req_some hh
   obtain ⟨h18, hh⟩ := hh
   try dsimp only at h18
   refine ⟨Nb h17, Mb h18, ?_⟩
   replace hh := bind_some hh
   obtain ⟨⟨e19a, e19b, e19c⟩, h20, hh⟩ := hh
   try dsimp only at hh
   refine ⟨[iA e19a, iA e19b, iA e19c], Gb h20, ?_⟩
   cbv
   exact Eb
  ·
   replace hh := ifF hh f13
   try rw [f13]
   cbv
   refine bcs (fun f22 => ?_) (fun f22 => ?_)
   ·
    replace hh := ifT hh f22
    try rw [f22]
    cbv
    replace hh := req_some hh
    obtain ⟨h23, hh⟩ := hh
    replace hh := req_some hh
    obtain ⟨h24, hh⟩ := hh
    try dsimp only at h24
    refine ⟨Nb h23, Mb h24, ?_⟩
    replace hh := bind_some hh
    obtain ⟨⟨e25a, e25b, e25c⟩, h26, hh⟩ := hh
    try dsimp only at hh
    refine ⟨[iA e25a, iA e25b, iA e25c], Gb h26, ?_⟩
    cbv
    replace hh := bind_some hh
    obtain ⟨⟨x28_0, ⟨x28_1a, x28_1b⟩⟩, h27, hh⟩ := hh
    try dsimp only at hh
    refine ⟨Ob, ?_⟩
    have fc := c_spec_l14Rd_num hQ h27
    try dsimp only at fc
    refine go_call hF fc ?_
    cbv
    replace hh := req_some hh
    obtain ⟨h30, hh⟩ := hh
    try dsimp only at h30
    replace hh := req_some hh
    obtain ⟨h31, hh⟩ := hh
    try dsimp only at h31
    refine ⟨Nb h30, Mb h31, ?_⟩
    replace hh := bind_some hh
    obtain ⟨⟨e32a, e32b, e32c⟩, h33, hh⟩ := hh
    try dsimp only at hh
    refine ⟨[iA e32a, iA e32b, iA e32c], Gb h33, ?_⟩
    cbv
    exact Eb
   ·
    replace hh := ifF hh f22
    try rw [f22]
    cbv
    refine bcs (fun f35 => ?_) (fun f35 => ?_)
    ·
     replace hh := ifT hh f35
     try rw [f35]
     cbv
     replace hh := bind_some hh
     obtain ⟨⟨x37_0, ⟨x37_1a, x37_1b⟩⟩, h36, hh⟩ := hh
     try dsimp only at hh
     refine ⟨Ob, ?_⟩
     have fc := c_spec_l14Rd_num hQ h36
     try dsimp only at fc
     refine go_call hF fc ?_
     cbv
     replace hh := req_some hh
     obtain ⟨h39, hh⟩ := hh
     try dsimp only at h39
     replace hh := req_some hh
     obtain ⟨h40, hh⟩ := hh
     try dsimp only at h40
     refine ⟨Nb h39, Mb h40, ?_⟩
     replace hh := bind_some hh
     obtain ⟨⟨e41a, e41b, e41c⟩, h42, hh⟩ := hh
     try dsimp only at hh
     refine ⟨[iA e41a, iA e41b, iA e41c], Gb h42, ?_⟩
     cbv
     exact Eb
    ·
     replace hh := ifF hh f35
     try rw [f35]
     cbv
     refine bcs (fun f44 => ?_) (fun f44 => ?_)
     ·
      replace hh := ifT hh f44
      try rw [f44]
      cbv
      replace hh := bind_some hh
      obtain ⟨o1, hl1, hq1⟩ := hh
      refine loop_go4 hC eok mixed (spec_l1Bent.l0 k)
       (fun s52 => (⟨[(3, .ref (6, 0) 1 0 (len (qGEv s52))), (1000000, .mptr (0, 0) 1 0 0)], [((0, 0), .box 1 [tA (qIu8 x10_1a), iA x10_1b]), ((6, 0), .arr 1 3 (qGEv s52))]⟩ : St))
       (fun (x60 : List GEv) => (⟨[(3, .ref (6, 0) 1 0 (len (qGEv x60))), (1000000, .mptr (0, 0) 1 0 0)], [((0, 0), .box 1 [tA (qIu8 x10_1a), iA x10_1b]), ((6, 0), .arr 1 3 (qGEv x60))]⟩ : St)) (fun x => x) (.exit 1)
       (i0 := _) hl1 (fun _ => rfl) ?_ ?_ ?_
      ·
       rintro t0 e
       refine cov_of [((0, 0), (0, 0)), ((6, 0), (6, 0))] ?_
       cbv
       all_goals exact J1
      ·
       rintro x60 hx
       subst o1
       have hh := hq1
       cbv
       exact Eb
      ·
       rintro n s52 N1 D1 hh hN1 hD1 hQ1
       unfold spec_l1Bent.l0 at hh
       cbv
       replace hh := if_or hh
       rcases hh with ⟨b61, hh⟩ | ⟨b61, hh⟩
       ·
        have f62 : (lt 24 (cast (len (qGEv s52)))) = true := Tb b61
        have g := f62; cbv at g; try rw [f62]
        try rw [g]
        cbv
        refine hD1 _ _ hh fun t0 e => ?_
        refine cov_of [((0, 0), (0, 0)), ((6, 0), (6, 0))] ?_
        cbv
        all_goals exact J1
       ·
        have f62 : (lt 24 (cast (len (qGEv s52)))) = false := Fb b61
        have g := f62; cbv at g; try rw [f62]
        try rw [g]
        cbv
        replace hh := req_some hh
        obtain ⟨h63, hh⟩ := hh
        replace hh := req_some hh
        obtain ⟨h64, hh⟩ := hh
        refine ⟨Nb h63, Mb h64, ?_⟩
        replace hh := bind_some hh
        obtain ⟨⟨e65a, e65b, e65c⟩, h66, hh⟩ := hh
        try dsimp only at hh
        refine ⟨[iA e65a, iA e65b, iA e65c], Gb h66, ?_⟩
        cbv
        replace hh := req_some hh
        obtain ⟨h67, hh⟩ := hh
        refine ⟨⟨Ob, Ab⟩, ?_⟩
        refine ⟨⟨Ob, Wb h67⟩, ?_⟩
        refine hN1 _ _ hh fun t0 e => ?_
        refine cov_of [((0, 0), (0, 0)), ((6, 0), (64, 0))] ?_
        cbv
        all_goals exact J1
     ·
      replace hh := ifF hh f44
      try rw [f44]
      cbv
      exact Eb

end Go.Proofs.YtdhlbpgjcfdofaaGreat
