/- The functions of this program do what the plain ones do. -/
import Derived.Test.YtdhlbpgjcfdofaaGreatC4
namespace Go.Proofs.YtdhlbpgjcfdofaaGreat
open Go Go.Vm
set_option linter.unusedVariables false
set_option maxHeartbeats 4000000
variable {qGEx : List GEx → Vm.Rows} {qGEv : List GEv → Vm.Rows} {qGExO : List GEx → Vm.Rows} {qInt : List Int → Vm.Rows} {qGOcc : List GOcc → Vm.Rows} {qGOccO : List GOcc → Vm.Rows} {qLGOcc : List (List GOcc) → Vm.Rows} {qLGOccO : List (List GOcc) → Vm.Rows} {qBool : List Bool → Vm.Rows} {qLInt : List (List Int) → Vm.Rows} (hQ : EQ qGEx qGEv qGExO qInt qGOcc qGOccO qLGOcc qLGOccO qBool qLInt)
include hQ
theorem c_laws_FnExactMeanOf {k : Nat} {p0 : GEx} {p1 : Int} {p2 : List GEv} {r : Bool} (hh : laws_FnExactMeanOf.f k p0 p1 p2 = some r) : FunW P 13 [.agg [iA p0.Kind, iA p0.Sym, iA p0.N, tA (qGEx p0.Kids)], iA p1, tA (qGEv p2)] [hA, hA, hA] (bA r) := by
 obtain ⟨p0a, p0b, p0c, p0d⟩ := p0
 unfold laws_FnExactMeanOf.f at hh
 refine go (ts := [(6, none)]) (rm := [.own]) (pm := [.skip, .skip, .skip]) Tryz.func13 ?_
 intro Fn LW len cast toNat wrap add sub mul bin lt eq At set part app fz' rep nadd nmax ssize sext sget scat seq slt Wide Flat Ones Room r' post' hC hF hr hp
 cbv
 replace hh := bind_some hh
 obtain ⟨x2, h1, hh⟩ := hh
 refine go_call hF (c_laws_szEx hQ h1) ?_
 cbv
 refine bcs (fun f5 => ?_) (fun f5 => ?_)
 ·
  replace hh := ifT hh f5
  try rw [f5]
  cbv
  exact Eb
 ·
  replace hh := ifF hh f5
  try rw [f5]
  cbv
  replace hh := bind_some hh
  obtain ⟨x7, h6, hh⟩ := hh
  refine go_call hF (c_laws_szEvS hQ h6) ?_
  cbv
  refine bcs (fun f10 => ?_) (fun f10 => ?_)
  ·
   replace hh := ifT hh f10
   try rw [f10]
   cbv
   exact Eb
  ·
   replace hh := ifF hh f10
   try rw [f10]
   cbv
   replace hh := bind_some hh
   obtain ⟨⟨x12a, x12b, x12c, x12d⟩, h11, hh⟩ := hh
   try dsimp only at hh
   have fc := c_laws_toEx hQ h11
   try dsimp only at fc
   refine go_call hF fc ?_
   cbv
   replace hh := bind_some hh
   obtain ⟨x15, h14, hh⟩ := hh
   refine go_call hF (c_laws_toEvS hQ h14) ?_
   cbv
   replace hh := bind_some hh
   obtain ⟨⟨x18_0, x18_1⟩, h17, hh⟩ := hh
   try dsimp only at hh
   have fc := c_spec_MeanOf_L0_2 hQ h17
   try dsimp only at fc
   refine go_call hF fc ?_
   cbv
   replace hh := bind_some hh
   obtain ⟨⟨x21a, x21b, x21c, x21d⟩, h20, hh⟩ := hh
   try dsimp only at hh
   have fc := c_laws_toEx hQ h20
   try dsimp only at fc
   refine go_call hF fc ?_
   cbv
   replace hh := bind_some hh
   obtain ⟨x24, h23, hh⟩ := hh
   refine go_call hF (c_laws_toEvS hQ h23) ?_
   cbv
   replace hh := bind_some hh
   obtain ⟨⟨x27_0, x27_1⟩, h26, hh⟩ := hh
   try dsimp only at hh
   have fc := c_impl_MeanOf_L0_2 hQ h26
   try dsimp only at fc
   refine go_call hF fc ?_
   cbv
   replace hh := bind_some hh
   obtain ⟨x30, h29, hh⟩ := hh
   refine go_call hF (c_laws_eqOccS_L0_1 hQ h29) ?_
   cbv
   replace hh := if_or hh
   rcases hh with ⟨b32, hh⟩ | ⟨b32, hh⟩
   ·
    have f33 : x30 = true := Tb b32
    have g := f33; cbv at g; try rw [f33]
    try rw [g]
    cbv
    replace hh := if_or hh
    rcases hh with ⟨b34, hh⟩ | ⟨b34, hh⟩
    ·
     have f35 : x27_1 = true := Tb b34
     have g := f35; cbv at g; try rw [f35]
     try rw [g]
     cbv
     replace hh := if_or hh
     rcases hh with ⟨b36, hh⟩ | ⟨b36, hh⟩
     ·
      have f37 : x18_1 = true := Tb b36
      have g := f37; cbv at g; try rw [f37]
      try rw [g]
      cbv
      replace hh := bind_some hh
      obtain ⟨⟨x39a, x39b, x39c, x39d⟩, h38, hh⟩ := hh
      try dsimp only at hh
      have fc := c_laws_toEx hQ h38
      try dsimp only at fc
      refine go_call hF fc ?_
      cbv
      replace hh := bind_some hh
      obtain ⟨x42, h41, hh⟩ := hh
      have fc := c_laws_eqEx_L0_1 hQ h41
      try dsimp only at fc
      refine go_call hF fc ?_
      cbv
      replace hh := if_or hh
      rcases hh with ⟨b44, hh⟩ | ⟨b44, hh⟩
      ·
       have f45 : x42 = true := Tb b44
       have g := f45; cbv at g; try rw [f45]
       try rw [g]
       cbv
       replace hh := bind_some hh
       obtain ⟨x47, h46, hh⟩ := hh
       refine go_call hF (c_laws_toEvS hQ h46) ?_
       cbv
       replace hh := bind_some hh
       obtain ⟨x50, h49, hh⟩ := hh
       refine go_call hF (c_laws_eqEvS_L0_1 hQ h49) ?_
       cbv
       replace hh := if_or hh
       rcases hh with ⟨b52, hh⟩ | ⟨b52, hh⟩
       ·
        have f53 : x50 = true := Tb b52
        have g := f53; cbv at g; try rw [f53]
        try rw [g]
        cbv
        replace hh := bind_some hh
        obtain ⟨⟨x55_0, ⟨x55_1a, x55_1b, x55_1c, x55_1d⟩⟩, h54, hh⟩ := hh
        try dsimp only at hh
        replace hh := req_some hh
        obtain ⟨h102, hh⟩ := hh
        try dsimp only at h102
        have fc := c_laws_markEx hQ h54
        try dsimp only at fc
        refine go_call hF fc ?_
        cbv
        replace hh := bind_some hh
        obtain ⟨⟨x58_0, x58_1⟩, h57, hh⟩ := hh
        try dsimp only at hh
        replace hh := req_some hh
        obtain ⟨h101, hh⟩ := hh
        try dsimp only at h101
        have fc := c_laws_markEvS hQ h57
        try dsimp only at fc
        refine go_call hF fc ?_
        cbv
        refine bcs (fun f61 => ?_) (fun f61 => ?_)
        ·
         replace hh := ifT hh f61
         try rw [f61]
         cbv
         exact Eb
        ·
         replace hh := ifF hh f61
         try rw [f61]
         cbv
         replace hh := bind_some hh
         obtain ⟨x63, h62, hh⟩ := hh
         refine go_call hF (c_laws_eqOccS_L0_1 hQ h62) ?_
         cbv
         replace hh := if_or hh
         rcases hh with ⟨b65, hh⟩ | ⟨b65, hh⟩
         ·
          have f66 : x63 = true := Tb b65
          have g := f66; cbv at g; try rw [f66]
          try rw [g]
          cbv
          replace hh := bind_some hh
          obtain ⟨⟨x68_0, x68_1⟩, h67, hh⟩ := hh
          try dsimp only at hh
          replace hh := req_some hh
          obtain ⟨h100, hh⟩ := hh
          try dsimp only at h100
          have fc := c_laws_markOccS hQ h67
          try dsimp only at fc
          refine go_call hF fc ?_
          cbv
          replace hh := bind_some hh
          obtain ⟨x71, h70, hh⟩ := hh
          refine ⟨Ob, ?_⟩
          refine go_call hF (c_laws_heldOccS_L0 hQ h70) ?_
          cbv
          refine bcs (fun f74 => ?_) (fun f74 => ?_)
          ·
           replace hh := ifT hh f74
           try rw [f74]
           cbv
           exact Eb
          ·
           replace hh := ifF hh f74
           try rw [f74]
           cbv
           replace hh := if_or hh
           rcases hh with ⟨b75, hh⟩ | ⟨b75, hh⟩
           ·
            have f76 : (eq x71 x68_0) = true := Tb b75
            have g := f76; cbv at g; try rw [f76]
            try rw [g]
            cbv
            replace hh := bind_some hh
            obtain ⟨⟨x78a, x78b, x78c, x78d⟩, h77, hh⟩ := hh
            try dsimp only at hh
            have fc := c_laws_toEx hQ h77
            try dsimp only at fc
            refine go_call hF fc ?_
            cbv
            replace hh := bind_some hh
            obtain ⟨x81, h80, hh⟩ := hh
            refine go_call hF (c_laws_toEvS hQ h80) ?_
            cbv
            replace hh := bind_some hh
            obtain ⟨⟨x84_0, x84_1⟩, h83, hh⟩ := hh
            try dsimp only at hh
            have fc := c_impl_MeanOf_L0_2 hQ h83
            try dsimp only at fc
            refine go_call hF fc ?_
            cbv
            replace hh := bind_some hh
            obtain ⟨x87, h86, hh⟩ := hh
            refine go_call hF (c_laws_eqOccS_L0_1 hQ h86) ?_
            cbv
            replace hh := if_or hh
            rcases hh with ⟨b89, hh⟩ | ⟨b89, hh⟩
            ·
             have f90 : x87 = true := Tb b89
             have g := f90; cbv at g; try rw [f90]
             try rw [g]
             cbv
             replace hh := if_or hh
             rcases hh with ⟨b91, hh⟩ | ⟨b91, hh⟩
             ·
              have f92 : x84_1 = true := Tb b91
              have g := f92; cbv at g; try rw [f92]
              try rw [g]
              cbv
              replace hh := bind_some hh
              obtain ⟨x94, h93, hh⟩ := hh
              refine ⟨Ob, ?_⟩
              refine go_call hF (c_laws_heldOccS_L0 hQ h93) ?_
              cbv
              refine bcs (fun f97 => ?_) (fun f97 => ?_)
              ·
               replace hh := ifT hh f97
               try rw [f97]
               cbv
               exact Eb
              ·
               replace hh := ifF hh f97
               try rw [f97]
               cbv
               replace hh := if_or hh
               rcases hh with ⟨b98, hh⟩ | ⟨b98, hh⟩
               ·
                have f99 : (eq x94 x68_0) = true := Tb b98
                have g := f99; cbv at g; try rw [f99]
                try rw [g]
                cbv
                exact Eb
               ·
                have f99 : (eq x94 x68_0) = false := Fb b98
                have g := f99; cbv at g; try rw [f99]
                try rw [g]
                cbv
                exact Eb
             ·
              have f92 : x84_1 = false := Fb b91
              have g := f92; cbv at g; try rw [f92]
              try rw [g]
              cbv
              exact Eb
            ·
             have f90 : x87 = false := Fb b89
             have g := f90; cbv at g; try rw [f90]
             try rw [g]
             cbv
             exact Eb
           ·
            have f76 : (eq x71 x68_0) = false := Fb b75
            have g := f76; cbv at g; try rw [f76]
            try rw [g]
            cbv
            exact Eb
         ·
          have f66 : x63 = false := Fb b65
          have g := f66; cbv at g; try rw [f66]
          try rw [g]
          cbv
          exact Eb
       ·
        have f53 : x50 = false := Fb b52
        have g := f53; cbv at g; try rw [f53]
        try rw [g]
        cbv
        exact Eb
      ·
       have f45 : x42 = false := Fb b44
       have g := f45; cbv at g; try rw [f45]
       try rw [g]
       cbv
       exact Eb
     ·
      have f37 : x18_1 = false := Fb b36
      have g := f37; cbv at g; try rw [f37]
      try rw [g]
      cbv
      exact Eb
    ·
     have f35 : x27_1 = false := Fb b34
     have g := f35; cbv at g; try rw [f35]
     try rw [g]
     cbv
     replace hh := if_or hh
     rcases hh with ⟨b103, hh⟩ | ⟨b103, hh⟩
     ·
      have f104 : x18_1 = true := Tb b103
      have g := f104; cbv at g; try rw [f104]
      try rw [g]
      cbv
      exact Eb
     ·
      have f104 : x18_1 = false := Fb b103
      have g := f104; cbv at g; try rw [f104]
      try rw [g]
      cbv
      replace hh := bind_some hh
      obtain ⟨⟨x106a, x106b, x106c, x106d⟩, h105, hh⟩ := hh
      try dsimp only at hh
      have fc := c_laws_toEx hQ h105
      try dsimp only at fc
      refine go_call hF fc ?_
      cbv
      replace hh := bind_some hh
      obtain ⟨x109, h108, hh⟩ := hh
      have fc := c_laws_eqEx_L0_1 hQ h108
      try dsimp only at fc
      refine go_call hF fc ?_
      cbv
      replace hh := if_or hh
      rcases hh with ⟨b111, hh⟩ | ⟨b111, hh⟩
      ·
       have f112 : x109 = true := Tb b111
       have g := f112; cbv at g; try rw [f112]
       try rw [g]
       cbv
       replace hh := bind_some hh
       obtain ⟨x114, h113, hh⟩ := hh
       refine go_call hF (c_laws_toEvS hQ h113) ?_
       cbv
       replace hh := bind_some hh
       obtain ⟨x117, h116, hh⟩ := hh
       refine go_call hF (c_laws_eqEvS_L0_1 hQ h116) ?_
       cbv
       replace hh := if_or hh
       rcases hh with ⟨b119, hh⟩ | ⟨b119, hh⟩
       ·
        have f120 : x117 = true := Tb b119
        have g := f120; cbv at g; try rw [f120]
        try rw [g]
        cbv
        replace hh := bind_some hh
        obtain ⟨⟨x122_0, ⟨x122_1a, x122_1b, x122_1c, x122_1d⟩⟩, h121, hh⟩ := hh
        try dsimp only at hh
        replace hh := req_some hh
        obtain ⟨h169, hh⟩ := hh
        try dsimp only at h169
        have fc := c_laws_markEx hQ h121
        try dsimp only at fc
        refine go_call hF fc ?_
        cbv
        replace hh := bind_some hh
        obtain ⟨⟨x125_0, x125_1⟩, h124, hh⟩ := hh
        try dsimp only at hh
        replace hh := req_some hh
        obtain ⟨h168, hh⟩ := hh
        try dsimp only at h168
        have fc := c_laws_markEvS hQ h124
        try dsimp only at fc
        refine go_call hF fc ?_
        cbv
        refine bcs (fun f128 => ?_) (fun f128 => ?_)
        ·
         replace hh := ifT hh f128
         try rw [f128]
         cbv
         exact Eb
        ·
         replace hh := ifF hh f128
         try rw [f128]
         cbv
         replace hh := bind_some hh
         obtain ⟨x130, h129, hh⟩ := hh
         refine go_call hF (c_laws_eqOccS_L0_1 hQ h129) ?_
         cbv
         replace hh := if_or hh
         rcases hh with ⟨b132, hh⟩ | ⟨b132, hh⟩
         ·
          have f133 : x130 = true := Tb b132
          have g := f133; cbv at g; try rw [f133]
          try rw [g]
          cbv
          replace hh := bind_some hh
          obtain ⟨⟨x135_0, x135_1⟩, h134, hh⟩ := hh
          try dsimp only at hh
          replace hh := req_some hh
          obtain ⟨h167, hh⟩ := hh
          try dsimp only at h167
          have fc := c_laws_markOccS hQ h134
          try dsimp only at fc
          refine go_call hF fc ?_
          cbv
          replace hh := bind_some hh
          obtain ⟨x138, h137, hh⟩ := hh
          refine ⟨Ob, ?_⟩
          refine go_call hF (c_laws_heldOccS_L0 hQ h137) ?_
          cbv
          refine bcs (fun f141 => ?_) (fun f141 => ?_)
          ·
           replace hh := ifT hh f141
           try rw [f141]
           cbv
           exact Eb
          ·
           replace hh := ifF hh f141
           try rw [f141]
           cbv
           replace hh := if_or hh
           rcases hh with ⟨b142, hh⟩ | ⟨b142, hh⟩
           ·
            have f143 : (eq x138 x135_0) = true := Tb b142
            have g := f143; cbv at g; try rw [f143]
            try rw [g]
            cbv
            replace hh := bind_some hh
            obtain ⟨⟨x145a, x145b, x145c, x145d⟩, h144, hh⟩ := hh
            try dsimp only at hh
            have fc := c_laws_toEx hQ h144
            try dsimp only at fc
            refine go_call hF fc ?_
            cbv
            replace hh := bind_some hh
            obtain ⟨x148, h147, hh⟩ := hh
            refine go_call hF (c_laws_toEvS hQ h147) ?_
            cbv
            replace hh := bind_some hh
            obtain ⟨⟨x151_0, x151_1⟩, h150, hh⟩ := hh
            try dsimp only at hh
            have fc := c_impl_MeanOf_L0_2 hQ h150
            try dsimp only at fc
            refine go_call hF fc ?_
            cbv
            replace hh := bind_some hh
            obtain ⟨x154, h153, hh⟩ := hh
            refine go_call hF (c_laws_eqOccS_L0_1 hQ h153) ?_
            cbv
            replace hh := if_or hh
            rcases hh with ⟨b156, hh⟩ | ⟨b156, hh⟩
            ·
             have f157 : x154 = true := Tb b156
             have g := f157; cbv at g; try rw [f157]
             try rw [g]
             cbv
             replace hh := if_or hh
             rcases hh with ⟨b158, hh⟩ | ⟨b158, hh⟩
             ·
              have f159 : x151_1 = true := Tb b158
              have g := f159; cbv at g; try rw [f159]
              try rw [g]
              cbv
              exact Eb
             ·
              have f159 : x151_1 = false := Fb b158
              have g := f159; cbv at g; try rw [f159]
              try rw [g]
              cbv
              replace hh := bind_some hh
              obtain ⟨x161, h160, hh⟩ := hh
              refine ⟨Ob, ?_⟩
              refine go_call hF (c_laws_heldOccS_L0 hQ h160) ?_
              cbv
              refine bcs (fun f164 => ?_) (fun f164 => ?_)
              ·
               replace hh := ifT hh f164
               try rw [f164]
               cbv
               exact Eb
              ·
               replace hh := ifF hh f164
               try rw [f164]
               cbv
               replace hh := if_or hh
               rcases hh with ⟨b165, hh⟩ | ⟨b165, hh⟩
               ·
                have f166 : (eq x161 x135_0) = true := Tb b165
                have g := f166; cbv at g; try rw [f166]
                try rw [g]
                cbv
                exact Eb
               ·
                have f166 : (eq x161 x135_0) = false := Fb b165
                have g := f166; cbv at g; try rw [f166]
                try rw [g]
                cbv
                exact Eb
            ·
             have f157 : x154 = false := Fb b156
             have g := f157; cbv at g; try rw [f157]
             try rw [g]
             cbv
             exact Eb
           ·
            have f143 : (eq x138 x135_0) = false := Fb b142
            have g := f143; cbv at g; try rw [f143]
            try rw [g]
            cbv
            exact Eb
         ·
          have f133 : x130 = false := Fb b132
          have g := f133; cbv at g; try rw [f133]
          try rw [g]
          cbv
          exact Eb
       ·
        have f120 : x117 = false := Fb b119
        have g := f120; cbv at g; try rw [f120]
        try rw [g]
        cbv
        exact Eb
      ·
       have f112 : x109 = false := Fb b111
       have g := f112; cbv at g; try rw [f112]
       try rw [g]
       cbv
       exact Eb
   ·
    have f33 : x30 = false := Fb b32
    have g := f33; cbv at g; try rw [f33]
    try rw [g]
    cbv
    exact Eb

end Go.Proofs.YtdhlbpgjcfdofaaGreat
