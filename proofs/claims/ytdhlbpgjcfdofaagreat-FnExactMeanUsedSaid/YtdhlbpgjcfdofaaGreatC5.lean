/- The functions of this program do what the plain ones do. -/
import Derived.Test.YtdhlbpgjcfdofaaGreatC4
namespace Go.Proofs.YtdhlbpgjcfdofaaGreat
open Go Go.Vm
set_option linter.unusedVariables false
set_option maxHeartbeats 4000000
variable {qGEx : List GEx → Vm.Rows} {qGEv : List GEv → Vm.Rows} {qGExO : List GEx → Vm.Rows} {qInt : List Int → Vm.Rows} {qGOcc : List GOcc → Vm.Rows} {qGOccO : List GOcc → Vm.Rows} {qLGOcc : List (List GOcc) → Vm.Rows} {qLGOccO : List (List GOcc) → Vm.Rows} {qBool : List Bool → Vm.Rows} {qLInt : List (List Int) → Vm.Rows} (hQ : EQ qGEx qGEv qGExO qInt qGOcc qGOccO qLGOcc qLGOccO qBool qLInt)
include hQ
theorem c_laws_FnExactMeanUsed {k : Nat} {p0 : GEx} {p1 : Int} {p2 : List GEv} {r : Bool} (hh : laws_FnExactMeanUsed.f k p0 p1 p2 = some r) : FunW P 11 [.agg [iA p0.Kind, iA p0.Sym, iA p0.N, tA (qGEx p0.Kids)], iA p1, tA (qGEv p2)] [hA, hA, hA] (bA r) := by
 obtain ⟨p0a, p0b, p0c, p0d⟩ := p0
 unfold laws_FnExactMeanUsed.f at hh
 refine go (ts := [(6, none)]) (rm := [.own]) (pm := [.skip, .skip, .skip]) Tryz.func11 ?_
 intro Fn LW len cast toNat wrap add sub mul bin lt eq At set part app fz' rep nadd nmax ssize sext sget scat seq slt Wide Flat Ones Room r' post' hC hF hr hp
 cbv
 replace hh := bind_some hh
 obtain ⟨x2, h1, hh⟩ := hh
 refine go_call hF (c_laws_szEx hQ h1) ?_
 cbv
 refine bcs (fun f5 => ?_) (fun f5 => ?_)
 ·
  replace hh := ifT hh f5
  try rw [f5]
  cbv
  exact Eb
 ·
  replace hh := ifF hh f5
  try rw [f5]
  cbv
  replace hh := bind_some hh
  obtain ⟨x7, h6, hh⟩ := hh
  refine go_call hF (c_laws_szEvS hQ h6) ?_
  cbv
  refine bcs (fun f10 => ?_) (fun f10 => ?_)
  ·
   replace hh := ifT hh f10
   try rw [f10]
   cbv
   exact Eb
  ·
   replace hh := ifF hh f10
   try rw [f10]
   cbv
   replace hh := bind_some hh
   obtain ⟨⟨x12a, x12b, x12c, x12d⟩, h11, hh⟩ := hh
   try dsimp only at hh
   have fc := c_laws_toEx hQ h11
   try dsimp only at fc
   refine go_call hF fc ?_
   cbv
   replace hh := bind_some hh
   obtain ⟨x15, h14, hh⟩ := hh
   refine go_call hF (c_laws_toEvS hQ h14) ?_
   cbv
   replace hh := bind_some hh
   obtain ⟨x18, h17, hh⟩ := hh
   have fc := c_spec_MeanUsed_L0_2 hQ h17
   try dsimp only at fc
   refine go_call hF fc ?_
   cbv
   replace hh := bind_some hh
   obtain ⟨⟨x21a, x21b, x21c, x21d⟩, h20, hh⟩ := hh
   try dsimp only at hh
   have fc := c_laws_toEx hQ h20
   try dsimp only at fc
   refine go_call hF fc ?_
   cbv
   replace hh := bind_some hh
   obtain ⟨x24, h23, hh⟩ := hh
   refine go_call hF (c_laws_toEvS hQ h23) ?_
   cbv
   replace hh := bind_some hh
   obtain ⟨x27, h26, hh⟩ := hh
   have fc := c_impl_MeanUsed_L0_2 hQ h26
   try dsimp only at fc
   refine go_call hF fc ?_
   cbv
   replace hh := bind_some hh
   obtain ⟨x30, h29, hh⟩ := hh
   refine go_call hF (c_laws_eqIntS_L0_1 hQ h29) ?_
   cbv
   replace hh := if_or hh
   rcases hh with ⟨b32, hh⟩ | ⟨b32, hh⟩
   ·
    have f33 : x30 = true := Tb b32
    have g := f33; cbv at g; try rw [f33]
    try rw [g]
    cbv
    replace hh := bind_some hh
    obtain ⟨⟨x35a, x35b, x35c, x35d⟩, h34, hh⟩ := hh
    try dsimp only at hh
    have fc := c_laws_toEx hQ h34
    try dsimp only at fc
    refine go_call hF fc ?_
    cbv
    replace hh := bind_some hh
    obtain ⟨x38, h37, hh⟩ := hh
    have fc := c_laws_eqEx_L0_1 hQ h37
    try dsimp only at fc
    refine go_call hF fc ?_
    cbv
    replace hh := if_or hh
    rcases hh with ⟨b40, hh⟩ | ⟨b40, hh⟩
    ·
     have f41 : x38 = true := Tb b40
     have g := f41; cbv at g; try rw [f41]
     try rw [g]
     cbv
     replace hh := bind_some hh
     obtain ⟨x43, h42, hh⟩ := hh
     refine go_call hF (c_laws_toEvS hQ h42) ?_
     cbv
     replace hh := bind_some hh
     obtain ⟨x46, h45, hh⟩ := hh
     refine go_call hF (c_laws_eqEvS_L0_1 hQ h45) ?_
     cbv
     replace hh := if_or hh
     rcases hh with ⟨b48, hh⟩ | ⟨b48, hh⟩
     ·
      have f49 : x46 = true := Tb b48
      have g := f49; cbv at g; try rw [f49]
      try rw [g]
      cbv
      replace hh := bind_some hh
      obtain ⟨⟨x51_0, ⟨x51_1a, x51_1b, x51_1c, x51_1d⟩⟩, h50, hh⟩ := hh
      try dsimp only at hh
      replace hh := req_some hh
      obtain ⟨h96, hh⟩ := hh
      try dsimp only at h96
      have fc := c_laws_markEx hQ h50
      try dsimp only at fc
      refine go_call hF fc ?_
      cbv
      replace hh := bind_some hh
      obtain ⟨⟨x54_0, x54_1⟩, h53, hh⟩ := hh
      try dsimp only at hh
      replace hh := req_some hh
      obtain ⟨h95, hh⟩ := hh
      try dsimp only at h95
      have fc := c_laws_markEvS hQ h53
      try dsimp only at fc
      refine go_call hF fc ?_
      cbv
      refine bcs (fun f57 => ?_) (fun f57 => ?_)
      ·
       replace hh := ifT hh f57
       try rw [f57]
       cbv
       exact Eb
      ·
       replace hh := ifF hh f57
       try rw [f57]
       cbv
       replace hh := bind_some hh
       obtain ⟨x59, h58, hh⟩ := hh
       refine go_call hF (c_laws_eqIntS_L0_1 hQ h58) ?_
       cbv
       replace hh := if_or hh
       rcases hh with ⟨b61, hh⟩ | ⟨b61, hh⟩
       ·
        have f62 : x59 = true := Tb b61
        have g := f62; cbv at g; try rw [f62]
        try rw [g]
        cbv
        replace hh := bind_some hh
        obtain ⟨⟨x64_0, x64_1⟩, h63, hh⟩ := hh
        try dsimp only at hh
        replace hh := req_some hh
        obtain ⟨h94, hh⟩ := hh
        try dsimp only at h94
        have fc := c_laws_markIntS hQ h63
        try dsimp only at fc
        refine go_call hF fc ?_
        cbv
        replace hh := bind_some hh
        obtain ⟨x67, h66, hh⟩ := hh
        refine ⟨Ob, ?_⟩
        refine go_call hF (c_laws_heldIntS_L0 hQ h66) ?_
        cbv
        refine bcs (fun f70 => ?_) (fun f70 => ?_)
        ·
         replace hh := ifT hh f70
         try rw [f70]
         cbv
         exact Eb
        ·
         replace hh := ifF hh f70
         try rw [f70]
         cbv
         replace hh := if_or hh
         rcases hh with ⟨b71, hh⟩ | ⟨b71, hh⟩
         ·
          have f72 : (eq x67 x64_0) = true := Tb b71
          have g := f72; cbv at g; try rw [f72]
          try rw [g]
          cbv
          replace hh := bind_some hh
          obtain ⟨⟨x74a, x74b, x74c, x74d⟩, h73, hh⟩ := hh
          try dsimp only at hh
          have fc := c_laws_toEx hQ h73
          try dsimp only at fc
          refine go_call hF fc ?_
          cbv
          replace hh := bind_some hh
          obtain ⟨x77, h76, hh⟩ := hh
          refine go_call hF (c_laws_toEvS hQ h76) ?_
          cbv
          replace hh := bind_some hh
          obtain ⟨x80, h79, hh⟩ := hh
          have fc := c_impl_MeanUsed_L0_2 hQ h79
          try dsimp only at fc
          refine go_call hF fc ?_
          cbv
          replace hh := bind_some hh
          obtain ⟨x83, h82, hh⟩ := hh
          refine go_call hF (c_laws_eqIntS_L0_1 hQ h82) ?_
          cbv
          replace hh := if_or hh
          rcases hh with ⟨b85, hh⟩ | ⟨b85, hh⟩
          ·
           have f86 : x83 = true := Tb b85
           have g := f86; cbv at g; try rw [f86]
           try rw [g]
           cbv
           replace hh := bind_some hh
           obtain ⟨x88, h87, hh⟩ := hh
           refine ⟨Ob, ?_⟩
           refine go_call hF (c_laws_heldIntS_L0 hQ h87) ?_
           cbv
           refine bcs (fun f91 => ?_) (fun f91 => ?_)
           ·
            replace hh := ifT hh f91
            try rw [f91]
            cbv
            exact Eb
           ·
            replace hh := ifF hh f91
            try rw [f91]
            cbv
            replace hh := if_or hh
            rcases hh with ⟨b92, hh⟩ | ⟨b92, hh⟩
            ·
             have f93 : (eq x88 x64_0) = true := Tb b92
             have g := f93; cbv at g; try rw [f93]
             try rw [g]
             cbv
             exact Eb
            ·
             have f93 : (eq x88 x64_0) = false := Fb b92
             have g := f93; cbv at g; try rw [f93]
             try rw [g]
             cbv
             exact Eb
          ·
           have f86 : x83 = false := Fb b85
           have g := f86; cbv at g; try rw [f86]
           try rw [g]
           cbv
           exact Eb
         ·
          have f72 : (eq x67 x64_0) = false := Fb b71
          have g := f72; cbv at g; try rw [f72]
          try rw [g]
          cbv
          exact Eb
       ·
        have f62 : x59 = false := Fb b61
        have g := f62; cbv at g; try rw [f62]
        try rw [g]
        cbv
        exact Eb
     ·
      have f49 : x46 = false := Fb b48
      have g := f49; cbv at g; try rw [f49]
      try rw [g]
      cbv
      exact Eb
    ·
     have f41 : x38 = false := Fb b40
     have g := f41; cbv at g; try rw [f41]
     try rw [g]
     cbv
     exact Eb
   ·
    have f33 : x30 = false := Fb b32
    have g := f33; cbv at g; try rw [f33]
    try rw [g]
    cbv
    exact Eb

end Go.Proofs.YtdhlbpgjcfdofaaGreat
