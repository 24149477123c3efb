/- The functions of this program do what the plain ones do. -/
import Derived.Test.YtlbnmldopjadoaaGreatC7
namespace Go.Proofs.YtlbnmldopjadoaaGreat
open Go Go.Vm
set_option linter.unusedVariables false
set_option maxHeartbeats 4000000
set_option maxRecDepth 4000
variable {qIu8:Vm.RW Int} {qGEx:Vm.RW GEx} {qGRule:Vm.RW GRule} {qStr:Vm.RW ByteArray} {qInt:Vm.RW Int} {qGExO:Vm.RW GEx} {qGOcc:Vm.RW GOcc} {qGNode:Vm.RW GNode} {qGNodeS:Vm.RW GNode} {qGGraphS2:Vm.RW GGraph} {qGGraph:Vm.RW GGraph} {qGEv:Vm.RW GEv} {qGFire:Vm.RW GFire} {qGOccO:Vm.RW GOcc} {qLGOcc:Vm.RW (List GOcc)} {qBool:Vm.RW Bool} {qGGraphS:Vm.RW GGraph} {qLInt:Vm.RW (List Int)} (hQ:EQ qIu8 qGEx qGRule qStr qInt qGExO qGOcc qGNode qGNodeS qGGraphS2 qGGraph qGEv qGFire qGOccO qLGOcc qBool qGGraphS qLInt)
include hQ
theorem Cm {p0:GEv} {r:Bool} (hh:mX.f p0=some r):ah P 126 [.agg [iA p0.Sym,iA p0.At,iA p0.Val]] [hA] (bA r):=by
 obtain⟨p0a,p0b,p0c⟩:=p0
 unfold mX.f at hh
 refine gp [(2,none)] [.own] [.skip] Tryz.func126 ?_
 unhygienic intros
 cbv
 have c1:=@lV
 have c2:=@dC
 exact D

theorem BE {k:Nat} {p0:List GEv} {r:Bool} (hh:dW.f k p0=some r):ah P 59 [tA (qGEv p0)] [hA] (bA r):=by
 unfold dW.f at hh
 refine gp [(2,none)] [.own] [.skip] Tryz.func59 ?_
 unhygienic intros
 cbv
 obtain⟨d,c,hq1⟩:=ag hh
 refine lg hC (dW.l0 k p0)
  (fun b=>⟨[(0,tA (qGEv p0)),(5,tA (qGEv p0)),(6,iA (cast (len (qGEv p0)))),(7,iA b)],[]⟩)
  (fun(_:Unit)=>⟨[(0,tA (qGEv p0))],[]⟩) .ok (.exit 0)
  (i0:=_) c (fun t0 e=>kA) ?_ ?_
 rintro _ hx
 subst d
 have hh:=hq1
 cbv
 exact Eb
 rintro n b j o hh hN1 hD1 hQ1
 unfold dW.l0 at hh
 cbv
 have c1:=@Cm
 exact D

theorem vf {p0:Int} {c0:Int} {r:Bool} (hh:gA.f p0 c0=some r):ah P 226 [iA p0,.iptr [iA c0] 0] [hA,hA] (bA r):=by
 unfold gA.f at hh
 refine gp [(3,none)] [.own] [.skip,.skip] Tryz.func226 ?_
 unhygienic intros
 cbv
 have c1:=@dC
 exact D

theorem kN {k:Nat} {g1:Int→Option Bool} {cp1_0:Int} (hg1:∀{y0:Int} {r:Bool},g1 y0=some r→ah P 226 [iA y0,.iptr [iA cp1_0] 0] [hA,hA] (bA r)) {p0:List Int} {r:Int} (hh:bj.f g1 k p0=some r):ah P 150 [tA (qInt p0),.clo 226 [.iptr [iA cp1_0] 0]] [hA,hA] (iA r):=by
 unfold bj.f at hh
 refine gp [(4,none)] [.own] [.skip,.skip] Tryz.func150 ?_
 unhygienic intros
 cbv
 obtain⟨d,c,hq1⟩:=ag hh
 refine lg hC (bj.l0 k g1 p0)
  (fun b=>⟨[(0,tA (qInt p0)),(1,.clo 226 [.iptr [iA cp1_0] 0]),(7,iA (cast (len (qInt p0)))),(8,iA b)],[]⟩)
  (fun(_:Unit)=>⟨[],[]⟩) .ok (.exit 0)
  (i0:=_) c (fun t0 e=>kA) ?_ ?_
 rintro _ hx
 subst d
 have hh:=hq1
 cbv
 exact Eb
 rintro n b j o hh hN1 hD1 hQ1
 unfold bj.l0 at hh
 cbv
 exact D

theorem ke {k:Nat} {g1:Int→Option Bool} {cp1_0:Int} (hg1:∀{y0:Int} {r:Bool},g1 y0=some r→ah P 226 [iA y0,.iptr [iA cp1_0] 0] [hA,hA] (bA r)) {p0:List Int} {r:Bool} (hh:cO.f g1 k p0=some r):ah P 90 [tA (qInt p0),.clo 226 [.iptr [iA cp1_0] 0]] [hA,hA] (bA r):=by
 unfold cO.f at hh
 refine gp [(4,none)] [.own] [.skip,.skip] Tryz.func90 ?_
 unhygienic intros
 cbv
 have e1:=@kN
 exact D

theorem sS {k:Nat} {p0:GOcc} {r:Bool} (hh:dZ.f k p0=some r):ah P 94 [.agg [iA p0.From,iA p0.To,tA (qInt p0.Ids)]] [hA] (bA r):=by
 obtain⟨p0a,p0b,p0c⟩:=p0
 unfold dZ.f at hh
 refine gp [(2,none)] [.own] [.skip] Tryz.func94 ?_
 unhygienic intros
 cbv
 obtain⟨j,d,hq1⟩:=ag hh
 refine lg hC (U2 (dZ.l0 k (⟨p0a,p0b,p0c⟩:GOcc)))
  (fun⟨b,c⟩=>⟨[(1,mA (1,0)),(3,iA b),(7,tA (qInt p0c)),(8,iA (cast (len (qInt p0c)))),(9,iA c)],[((1,0),.box 1 [iA p0a,iA p0b,tA (qInt p0c)])]⟩)
  (fun(_:Unit)=>⟨[(1,mA (1,0))],[((1,0),.box 1 [iA p0a,iA p0b,tA (qInt p0c)])]⟩) .ok (.exit 0)
  (i0:=(_,_)) d (fun⟨t0,t1⟩ e=>kA) ?_ ?_
 rintro _ hx
 subst j
 have hh:=hq1
 cbv
 have c1:=@dC
 exact D
 rintro n ⟨b,c⟩ o p hh hN1 hD1 hQ1
 dsimp only[U2] at hh
 unfold dZ.l0 at hh
 cbv
 have c1:=@dC
 exact D

theorem CL {p0:Int} {r:Bool} (hh:mZ.f p0=some r):ah P 220 [iA p0] [hA] (bA r):=by
 unfold mZ.f at hh
 refine gp [(2,none)] [.own] [.skip] Tryz.func220 ?_
 unhygienic intros
 cbv
 exact Eb

theorem zy {p0:Int} {p1:Int} {r:Int} (hh:kG.f p0 p1=some r):ah P 186 [iA p0,iA p1] [hA,hA] (iA r):=by
 unfold kG.f at hh
 refine gp [(4,none)] [.own] [.skip,.skip] Tryz.func186 ?_
 unhygienic intros
 cbv
 have c1:=@CL
 exact D

theorem vt {k:Nat} {p0:List Int} {p1:List Int} {r:Int} (hh:cI.f k p0 p1=some r):ah P 133 [tA (qInt p0),tA (qInt p1)] [hA,hA] (iA r):=by
 unfold cI.f at hh
 refine gp [(4,none)] [.own] [.skip,.skip] Tryz.func133 ?_
 unhygienic intros
 cbv
 obtain⟨d,c,hq1⟩:=ag hh
 refine lg hC (cI.l0 k p0 p1)
  (fun b=>⟨[(0,tA (qInt p0)),(1,tA (qInt p1)),(9,tA (qInt p0)),(10,iA (cast (len (qInt p0)))),(11,iA b)],[]⟩)
  (fun(_:Unit)=>⟨[(0,tA (qInt p0)),(1,tA (qInt p1))],[]⟩) .ok (.exit 0)
  (i0:=_) c (fun t0 e=>kA) ?_ ?_
 rintro _ hx
 subst d
 have hh:=hq1
 cbv
 exact D
 rintro n b j o hh hN1 hD1 hQ1
 unfold cI.l0 at hh
 cbv
 have c1:=@zy
 exact D

theorem Cx {p0:Bool} {r:Int} (hh:mY.f p0=some r):ah P 132 [bA p0] [hA] (iA r):=by
 unfold mY.f at hh
 refine gp [(2,none)] [.own] [.skip] Tryz.func132 ?_
 unhygienic intros
 cbv
 exact D

theorem mf {k:Nat} {p0:GOcc} {p1:GOcc} {r:Int} (hh:ek.f k p0 p1=some r):ah P 70 [.agg [iA p0.From,iA p0.To,tA (qInt p0.Ids)],.agg [iA p1.From,iA p1.To,tA (qInt p1.Ids)]] [hA,hA] (iA r):=by
 obtain⟨p0a,p0b,p0c⟩:=p0
 obtain⟨p1a,p1b,p1c⟩:=p1
 unfold ek.f at hh
 refine gp [(4,none)] [.own] [.skip,.skip] Tryz.func70 ?_
 unhygienic intros
 cbv
 have c1:=@vt
 have c2:=@Cx
 exact D

theorem yA {k:Nat} {p0:GOcc} {p1:GOcc} {r:Bool} (hh:jN.f k p0 p1=some r):ah P 46 [.agg [iA p0.From,iA p0.To,tA (qInt p0.Ids)],.agg [iA p1.From,iA p1.To,tA (qInt p1.Ids)]] [hA,hA] (bA r):=by
 obtain⟨p0a,p0b,p0c⟩:=p0
 obtain⟨p1a,p1b,p1c⟩:=p1
 unfold jN.f at hh
 refine gp [(4,none)] [.own] [.skip,.skip] Tryz.func46 ?_
 unhygienic intros
 cbv
 have c1:=@mf
 exact D

theorem nj {k:Nat} {p0:List GOcc} {r:Bool} (hh:bR.f k p0=some r):ah P 194 [tA (qGOcc p0)] [hA] (bA r):=by
 unfold bR.f at hh
 refine gp [(2,none)] [.own] [.skip] Tryz.func194 ?_
 unhygienic intros
 cbv
 obtain⟨d,c,hq1⟩:=ag hh
 refine lg hC (bR.l0 k p0)
  (fun b=>⟨[(0,tA (qGOcc p0)),(5,tA (qGOcc p0)),(6,iA (cast (len (qGOcc p0)))),(7,iA b)],[]⟩)
  (fun(_:Unit)=>⟨[(0,tA (qGOcc p0))],[]⟩) .ok (.exit 0)
  (i0:=_) c (fun t0 e=>kA) ?_ ?_
 rintro _ hx
 subst d
 have hh:=hq1
 cbv
 exact Eb
 rintro n b j o hh hN1 hD1 hQ1
 unfold bR.l0 at hh
 cbv
 have c1:=@sS
 have c2:=@yA
 exact D

theorem zL {k:Nat} {p0:GPair} {r:Bool} (hh:jv.f k p0=some r):ah P 227 [.agg [tA (qGOcc p0.Left),tA (qGOcc p0.Right)]] [hA] (bA r):=by
 obtain⟨p0a,p0b⟩:=p0
 unfold jv.f at hh
 refine gp [(2,none)] [.own] [.skip] Tryz.func227 ?_
 unhygienic intros
 cbv
 have c1:=@nj
 exact D

theorem Ag {k:Nat} {p0:GSpan} {r:Bool} (hh:jy.f k p0=some r):ah P 228 [.agg [tA (qGOcc p0.Left),tA (qGOcc p0.Mid)]] [hA] (bA r):=by
 obtain⟨p0a,p0b⟩:=p0
 unfold jy.f at hh
 refine gp [(2,none)] [.own] [.skip] Tryz.func228 ?_
 unhygienic intros
 cbv
 have c1:=@nj
 exact D

theorem vw {p0:GOcc} {c0:Int} {r:Bool} (hh:fF.f p0 c0=some r):ah P 229 [.agg [iA p0.From,iA p0.To,tA (qInt p0.Ids)],.iptr [iA c0] 0] [hA,hA] (bA r):=by
 obtain⟨p0a,p0b,p0c⟩:=p0
 unfold fF.f at hh
 refine gp [(3,none)] [.own] [.skip,.skip] Tryz.func229 ?_
 unhygienic intros
 cbv
 exact Eb

theorem jK {k:Nat} {g1:GOcc→Option Bool} {cp1_0:Int} (hg1:∀{y0:GOcc} {r:Bool},g1 y0=some r→ah P 229 [.agg [iA y0.From,iA y0.To,tA (qInt y0.Ids)],.iptr [iA cp1_0] 0] [hA,hA] (bA r)) {p0:List GOcc} {r:Int} (hh:aC.f g1 k p0=some r):ah P 230 [tA (qGOcc p0),.clo 229 [.iptr [iA cp1_0] 0]] [hA,hA] (iA r):=by
 unfold aC.f at hh
 refine gp [(4,none)] [.own] [.skip,.skip] Tryz.func230 ?_
 unhygienic intros
 cbv
 obtain⟨d,c,hq1⟩:=ag hh
 refine lg hC (aC.l0 k g1 p0)
  (fun b=>⟨[(0,tA (qGOcc p0)),(1,.clo 229 [.iptr [iA cp1_0] 0]),(7,iA (cast (len (qGOcc p0)))),(8,iA b)],[]⟩)
  (fun(_:Unit)=>⟨[],[]⟩) .ok (.exit 0)
  (i0:=_) c (fun t0 e=>kA) ?_ ?_
 rintro _ hx
 subst d
 have hh:=hq1
 cbv
 exact Eb
 rintro n b j o hh hN1 hD1 hQ1
 unfold aC.l0 at hh
 cbv
 exact D

theorem jc {k:Nat} {g1:GOcc→Option Bool} {cp1_0:Int} (hg1:∀{y0:GOcc} {r:Bool},g1 y0=some r→ah P 229 [.agg [iA y0.From,iA y0.To,tA (qInt y0.Ids)],.iptr [iA cp1_0] 0] [hA,hA] (bA r)) {p0:List GOcc} {r:Bool} (hh:ba.f g1 k p0=some r):ah P 192 [tA (qGOcc p0),.clo 229 [.iptr [iA cp1_0] 0]] [hA,hA] (bA r):=by
 unfold ba.f at hh
 refine gp [(4,none)] [.own] [.skip,.skip] Tryz.func192 ?_
 unhygienic intros
 cbv
 have e1:=@jK
 exact D

end Go.Proofs.YtlbnmldopjadoaaGreat
