/- The functions of this program do what the plain ones do. -/
import Derived.Test.YtlbnmldopjadoaaGreatC8
namespace Go.Proofs.YtlbnmldopjadoaaGreat
open Go Go.Vm
set_option linter.unusedVariables false
set_option maxHeartbeats 4000000
set_option maxRecDepth 4000
variable {qIu8:Vm.RW Int} {qGEx:Vm.RW GEx} {qGRule:Vm.RW GRule} {qStr:Vm.RW ByteArray} {qInt:Vm.RW Int} {qGExO:Vm.RW GEx} {qGOcc:Vm.RW GOcc} {qGNode:Vm.RW GNode} {qGNodeS:Vm.RW GNode} {qGGraphS2:Vm.RW GGraph} {qGGraph:Vm.RW GGraph} {qGEv:Vm.RW GEv} {qGFire:Vm.RW GFire} {qGOccO:Vm.RW GOcc} {qLGOcc:Vm.RW (List GOcc)} {qBool:Vm.RW Bool} {qGGraphS:Vm.RW GGraph} {qLInt:Vm.RW (List Int)} (hQ:EQ qIu8 qGEx qGRule qStr qInt qGExO qGOcc qGNode qGNodeS qGGraphS2 qGGraph qGEv qGFire qGOccO qLGOcc qBool qGGraphS qLInt)
include hQ
theorem xn {k:Nat} {p0:GNode} {p1:Int} {p2:Int} {r:Bool} (hh:jS.f k p0 p1 p2=some r):ah P 191 [.agg [iA p0.Kind,iA p0.Sym,iA p0.N,tA (qInt p0.Kids),tA (qGOcc p0.Pair.Left),tA (qGOcc p0.Pair.Right),tA (qGOcc p0.Span.Left),tA (qGOcc p0.Span.Mid),tA (qGOcc p0.Due),iA p0.Many],iA p1,iA p2] [hA,hA,hA] (bA r):=by
 obtain⟨p0a,p0b,p0c,p0d,⟨p0e,p0f⟩,⟨p0g,p0h⟩,p0i,p0j⟩:=p0
 unfold jS.f at hh
 refine gp [(6,none)] [.own] [.skip,.skip,.skip] Tryz.func191 ?_
 unhygienic intros
 cbv
 obtain⟨d,j,hh⟩:=ag hh
 refine ak hF (rF hQ j) ?_
 cbv
 replace hh:=bU hh
 rcases hh with⟨c,hh⟩|⟨c,hh⟩
 have b:d=true:=Tb c
 have g:=b;cbv at g;try rw[b]
 try rw[g]
 cbv
 obtain⟨p,o,hh⟩:=ag hh
 refine ak hF (uE hQ o) ?_
 cbv
 have e1:=@ke
 have c1:=@vf
 have c2:=@dC
 have c3:=@lV
 have c4:=@zL
 have c5:=@Ag
 have c6:=@nj
 have e2:=@jc
 have c7:=@vw
 exact D
 have b:d=false:=Fb c
 have g:=b;cbv at g;try rw[b]
 try rw[g]
 cbv
 exact Eb

theorem xE {k:Nat} {p0:GGraph} {r:Bool} (hh:dr.f k p0=some r):ah P 146 [.agg [iA p0.Mode,tA (qGNode p0.Nodes),iA p0.Seen,iA p0.Now,bA p0.Full]] [hA] (bA r):=by
 obtain⟨p0a,p0b,p0c,p0d,p0e⟩:=p0
 unfold dr.f at hh
 refine gp [(2,none)] [.own] [.skip] Tryz.func146 ?_
 unhygienic intros
 cbv
 obtain⟨d,c,hq1⟩:=ag hh
 refine lg hC (dr.l0 k (⟨p0a,p0b,p0c,p0d,p0e⟩:GGraph))
  (fun b=>⟨[(1,mA (1,0)),(6,tA (qGNode p0b)),(7,iA (cast (len (qGNode p0b)))),(8,iA b)],[((1,0),.box 1 [iA p0a,tA (qGNode p0b),iA p0c,iA p0d,bA p0e])]⟩)
  (fun(_:Unit)=>⟨[(1,mA (1,0))],[((1,0),.box 1 [iA p0a,tA (qGNode p0b),iA p0c,iA p0d,bA p0e])]⟩) .ok (.exit 0)
  (i0:=_) c (fun t0 e=>kA) ?_ ?_
 rintro _ hx
 subst d
 have hh:=hq1
 cbv
 have c1:=@rG
 have c2:=@dC
 exact D
 rintro n b j o hh hN1 hD1 hQ1
 unfold dr.l0 at hh
 cbv
 have c1:=@xn
 exact D

theorem vU {p0:List GEv} {r:Int} (hh:jj.f p0=some r):ah P 142 [tA (qGEv p0)] [hA] (iA r):=by
 unfold jj.f at hh
 refine gp [(2,none)] [.own] [.skip] Tryz.func142 ?_
 unhygienic intros
 cbv
 exact D
theorem zP {p0:List GEv} {r:Int} (hh:jj.f p0=some r):ah P 142 [oA 3 (qGEv p0)] [oA 3 (qGEv p0)] (iA r):=by
  cases hQ;exact(vU .mk hh).lend (rfl) (.lend (congrArg A.tree (vF _).symm) .nil)

theorem lM {p0:GOcc} {r:Int} (hh:dK.f p0=some r):ah P 95 [.agg [iA p0.From,iA p0.To,tA (qInt p0.Ids)]] [hA] (iA r):=by
 obtain⟨p0a,p0b,p0c⟩:=p0
 unfold dK.f at hh
 refine gp [(2,none)] [.own] [.skip] Tryz.func95 ?_
 unhygienic intros
 cbv
 exact D

theorem sE {p0:GOcc} {c0:GEng} {r:Bool} (hh:gL.f p0 c0=some r):ah P 193 [.agg [iA p0.From,iA p0.To,tA (qInt p0.Ids)],.iptr [tA (qGRule c0.Rules),tA (qGGraph c0.Graphs),tA (qGEv c0.Events),tA (qInt c0.Keys),tA (qGFire c0.Fired)] 0] [hA,hA] (bA r):=by
 obtain⟨p0a,p0b,p0c⟩:=p0
 obtain⟨c0a,c0b,c0c,c0d,c0e⟩:=c0
 unfold gL.f at hh
 refine gp [(3,none)] [.own] [.skip,.skip] Tryz.func193 ?_
 unhygienic intros
 cbv
 have c1:=@lM
 exact D

theorem jo {k:Nat} {g1:GOcc→Option Bool} {cp1_0:GEng} (hg1:∀{y0:GOcc} {r:Bool},g1 y0=some r→ah P 193 [.agg [iA y0.From,iA y0.To,tA (qInt y0.Ids)],.iptr [tA (qGRule cp1_0.Rules),tA (qGGraph cp1_0.Graphs),tA (qGEv cp1_0.Events),tA (qInt cp1_0.Keys),tA (qGFire cp1_0.Fired)] 0] [hA,hA] (bA r)) {p0:List GOcc} {r:Int} (hh:aC.f g1 k p0=some r):ah P 230 [tA (qGOcc p0),.clo 193 [.iptr [tA (qGRule cp1_0.Rules),tA (qGGraph cp1_0.Graphs),tA (qGEv cp1_0.Events),tA (qInt cp1_0.Keys),tA (qGFire cp1_0.Fired)] 0]] [hA,hA] (iA r):=by
 obtain⟨cp1_0a,cp1_0b,cp1_0c,cp1_0d,cp1_0e⟩:=cp1_0
 unfold aC.f at hh
 refine gp [(4,none)] [.own] [.skip,.skip] Tryz.func230 ?_
 unhygienic intros
 cbv
 obtain⟨d,c,hq1⟩:=ag hh
 refine lg hC (aC.l0 k g1 p0)
  (fun b=>⟨[(0,tA (qGOcc p0)),(1,.clo 193 [.iptr [tA (qGRule cp1_0a),tA (qGGraph cp1_0b),tA (qGEv cp1_0c),tA (qInt cp1_0d),tA (qGFire cp1_0e)] 0]),(7,iA (cast (len (qGOcc p0)))),(8,iA b)],[]⟩)
  (fun(_:Unit)=>⟨[],[]⟩) .ok (.exit 0)
  (i0:=_) c (fun t0 e=>kA) ?_ ?_
 rintro _ hx
 subst d
 have hh:=hq1
 cbv
 exact Eb
 rintro n b j o hh hN1 hD1 hQ1
 unfold aC.l0 at hh
 cbv
 exact D

theorem iG {k:Nat} {g1:GOcc→Option Bool} {cp1_0:GEng} (hg1:∀{y0:GOcc} {r:Bool},g1 y0=some r→ah P 193 [.agg [iA y0.From,iA y0.To,tA (qInt y0.Ids)],.iptr [tA (qGRule cp1_0.Rules),tA (qGGraph cp1_0.Graphs),tA (qGEv cp1_0.Events),tA (qInt cp1_0.Keys),tA (qGFire cp1_0.Fired)] 0] [hA,hA] (bA r)) {p0:List GOcc} {r:Bool} (hh:ba.f g1 k p0=some r):ah P 192 [tA (qGOcc p0),.clo 193 [.iptr [tA (qGRule cp1_0.Rules),tA (qGGraph cp1_0.Graphs),tA (qGEv cp1_0.Events),tA (qInt cp1_0.Keys),tA (qGFire cp1_0.Fired)] 0]] [hA,hA] (bA r):=by
 obtain⟨cp1_0a,cp1_0b,cp1_0c,cp1_0d,cp1_0e⟩:=cp1_0
 unfold ba.f at hh
 refine gp [(4,none)] [.own] [.skip,.skip] Tryz.func192 ?_
 unhygienic intros
 cbv
 have e1:=@jo
 exact D

theorem vG {k:Nat} {p0:GEng} {p1:List (List GOcc)} {r:Bool} (hh:cv.f k p0 p1=some r):ah P 149 [.agg [tA (qGRule p0.Rules),tA (qGGraph p0.Graphs),tA (qGEv p0.Events),tA (qInt p0.Keys),tA (qGFire p0.Fired)],tA (qLGOcc p1)] [hA,hA] (bA r):=by
 obtain⟨p0a,p0b,p0c,p0d,p0e⟩:=p0
 unfold cv.f at hh
 refine gp [(4,none)] [.own] [.skip,.skip] Tryz.func149 ?_
 unhygienic intros
 cbv
 obtain⟨d,c,hq1⟩:=ag hh
 refine lg hC (cv.l0 k (⟨p0a,p0b,p0c,p0d,p0e⟩:GEng) p1)
  (fun b=>⟨[(2,mA (2,0)),(7,tA (qLGOcc p1)),(8,iA (cast (len (qLGOcc p1)))),(9,iA b)],[((2,0),.fbox 1 [tA (qGRule p0a),tA (qGGraph p0b),tA (qGEv p0c),tA (qInt p0d),tA (qGFire p0e)])]⟩)
  (fun(_:Unit)=>⟨[],[]⟩) .ok (.exit 0)
  (i0:=_) c (fun t0 e=>kA) ?_ ?_
 rintro _ hx
 subst d
 have hh:=hq1
 cbv
 exact Eb
 rintro n b j o hh hN1 hD1 hQ1
 unfold cv.l0 at hh
 cbv
 have e1:=@iG
 have c1:=@sE
 exact D
theorem qH {k:Nat} {p0:GEng} {p1:List (List GOcc)} {r:Bool} (hh:cv.f k p0 p1=some r):ah P 149 [.agg [tA (qGRule p0.Rules),tA (qGGraph p0.Graphs),tA (qGEv p0.Events),tA (qInt p0.Keys),tA (qGFire p0.Fired)],oA 1 (qLGOcc p1)] [hA,oA 1 (qLGOcc p1)] (bA r):=by
  cases hQ;exact(vG .mk hh).lend (rfl) (.same rfl (.lend (congrArg A.tree (xg _).symm) .nil))

theorem qF {k:Nat} {p0:GNode} {c0:GEng} {r:Bool} (hh:fQ.f k p0 c0=some r):ah P 148 [.agg [iA p0.Kind,iA p0.Sym,iA p0.N,tA (qInt p0.Kids),tA (qGOcc p0.Pair.Left),tA (qGOcc p0.Pair.Right),tA (qGOcc p0.Span.Left),tA (qGOcc p0.Span.Mid),tA (qGOcc p0.Due),iA p0.Many],.iptr [tA (qGRule c0.Rules),tA (qGGraph c0.Graphs),tA (qGEv c0.Events),tA (qInt c0.Keys),tA (qGFire c0.Fired)] 0] [hA,hA] (bA r):=by
 obtain⟨p0a,p0b,p0c,p0d,⟨p0e,p0f⟩,⟨p0g,p0h⟩,p0i,p0j⟩:=p0
 obtain⟨c0a,c0b,c0c,c0d,c0e⟩:=c0
 unfold fQ.f at hh
 refine gp [(3,none)] [.own] [.skip,.skip] Tryz.func148 ?_
 unhygienic intros
 cbv
 have c1:=@qH
 exact D

theorem iL {k:Nat} {g1:GNode→Option Bool} {cp1_0:GEng} (hg1:∀{y0:GNode} {r:Bool},g1 y0=some r→ah P 148 [.agg [iA y0.Kind,iA y0.Sym,iA y0.N,tA (qInt y0.Kids),tA (qGOcc y0.Pair.Left),tA (qGOcc y0.Pair.Right),tA (qGOcc y0.Span.Left),tA (qGOcc y0.Span.Mid),tA (qGOcc y0.Due),iA y0.Many],.iptr [tA (qGRule cp1_0.Rules),tA (qGGraph cp1_0.Graphs),tA (qGEv cp1_0.Events),tA (qInt cp1_0.Keys),tA (qGFire cp1_0.Fired)] 0] [hA,hA] (bA r)) {p0:List GNode} {r:Int} (hh:bD.f g1 k p0=some r):ah P 180 [tA (qGNode p0),.clo 148 [.iptr [tA (qGRule cp1_0.Rules),tA (qGGraph cp1_0.Graphs),tA (qGEv cp1_0.Events),tA (qInt cp1_0.Keys),tA (qGFire cp1_0.Fired)] 0]] [hA,hA] (iA r):=by
 obtain⟨cp1_0a,cp1_0b,cp1_0c,cp1_0d,cp1_0e⟩:=cp1_0
 unfold bD.f at hh
 refine gp [(4,none)] [.own] [.skip,.skip] Tryz.func180 ?_
 unhygienic intros
 cbv
 obtain⟨d,c,hq1⟩:=ag hh
 refine lg hC (bD.l0 k g1 p0)
  (fun b=>⟨[(0,tA (qGNode p0)),(1,.clo 148 [.iptr [tA (qGRule cp1_0a),tA (qGGraph cp1_0b),tA (qGEv cp1_0c),tA (qInt cp1_0d),tA (qGFire cp1_0e)] 0]),(7,iA (cast (len (qGNode p0)))),(8,iA b)],[]⟩)
  (fun(_:Unit)=>⟨[],[]⟩) .ok (.exit 0)
  (i0:=_) c (fun t0 e=>kA) ?_ ?_
 rintro _ hx
 subst d
 have hh:=hq1
 cbv
 exact Eb
 rintro n b j o hh hN1 hD1 hQ1
 unfold bD.l0 at hh
 cbv
 exact D

theorem gY {k:Nat} {g1:GNode→Option Bool} {cp1_0:GEng} (hg1:∀{y0:GNode} {r:Bool},g1 y0=some r→ah P 148 [.agg [iA y0.Kind,iA y0.Sym,iA y0.N,tA (qInt y0.Kids),tA (qGOcc y0.Pair.Left),tA (qGOcc y0.Pair.Right),tA (qGOcc y0.Span.Left),tA (qGOcc y0.Span.Mid),tA (qGOcc y0.Due),iA y0.Many],.iptr [tA (qGRule cp1_0.Rules),tA (qGGraph cp1_0.Graphs),tA (qGEv cp1_0.Events),tA (qInt cp1_0.Keys),tA (qGFire cp1_0.Fired)] 0] [hA,hA] (bA r)) {p0:List GNode} {r:Bool} (hh:ej.f g1 k p0=some r):ah P 147 [tA (qGNode p0),.clo 148 [.iptr [tA (qGRule cp1_0.Rules),tA (qGGraph cp1_0.Graphs),tA (qGEv cp1_0.Events),tA (qInt cp1_0.Keys),tA (qGFire cp1_0.Fired)] 0]] [hA,hA] (bA r):=by
 obtain⟨cp1_0a,cp1_0b,cp1_0c,cp1_0d,cp1_0e⟩:=cp1_0
 unfold ej.f at hh
 refine gp [(4,none)] [.own] [.skip,.skip] Tryz.func147 ?_
 unhygienic intros
 cbv
 have e1:=@iL
 exact D

theorem tC {k:Nat} {p0:GEng} {p1:GGraph} {r:Bool} (hh:en.f k p0 p1=some r):ah P 89 [.agg [tA (qGRule p0.Rules),tA (qGGraph p0.Graphs),tA (qGEv p0.Events),tA (qInt p0.Keys),tA (qGFire p0.Fired)],.agg [iA p1.Mode,tA (qGNode p1.Nodes),iA p1.Seen,iA p1.Now,bA p1.Full]] [hA,hA] (bA r):=by
 obtain⟨p0a,p0b,p0c,p0d,p0e⟩:=p0
 obtain⟨p1a,p1b,p1c,p1d,p1e⟩:=p1
 unfold en.f at hh
 refine gp [(4,none)] [.own] [.skip,.skip] Tryz.func89 ?_
 unhygienic intros
 cbv
 have c1:=@xE
 have c2:=@vU
 have e1:=@gY
 have c3:=@qF
 exact D

theorem xr {k:Nat} {p0:GGraph} {c0:GEng} {r:Bool} (hh:gJ.f k p0 c0=some r):ah P 88 [.agg [iA p0.Mode,tA (qGNode p0.Nodes),iA p0.Seen,iA p0.Now,bA p0.Full],.iptr [tA (qGRule c0.Rules),tA (qGGraph c0.Graphs),tA (qGEv c0.Events),tA (qInt c0.Keys),tA (qGFire c0.Fired)] 0] [hA,hA] (bA r):=by
 obtain⟨p0a,p0b,p0c,p0d,p0e⟩:=p0
 obtain⟨c0a,c0b,c0c,c0d,c0e⟩:=c0
 unfold gJ.f at hh
 refine gp [(3,none)] [.own] [.skip,.skip] Tryz.func88 ?_
 unhygienic intros
 cbv
 have c1:=@tC
 exact D

theorem jJ {k:Nat} {g1:GGraph→Option Bool} {cp1_0:GEng} (hg1:∀{y0:GGraph} {r:Bool},g1 y0=some r→ah P 88 [.agg [iA y0.Mode,tA (qGNode y0.Nodes),iA y0.Seen,iA y0.Now,bA y0.Full],.iptr [tA (qGRule cp1_0.Rules),tA (qGGraph cp1_0.Graphs),tA (qGEv cp1_0.Events),tA (qInt cp1_0.Keys),tA (qGFire cp1_0.Fired)] 0] [hA,hA] (bA r)) {p0:List GGraph} {r:Int} (hh:aU.f g1 k p0=some r):ah P 145 [tA (qGGraph p0),.clo 88 [.iptr [tA (qGRule cp1_0.Rules),tA (qGGraph cp1_0.Graphs),tA (qGEv cp1_0.Events),tA (qInt cp1_0.Keys),tA (qGFire cp1_0.Fired)] 0]] [hA,hA] (iA r):=by
 obtain⟨cp1_0a,cp1_0b,cp1_0c,cp1_0d,cp1_0e⟩:=cp1_0
 unfold aU.f at hh
 refine gp [(4,none)] [.own] [.skip,.skip] Tryz.func145 ?_
 unhygienic intros
 cbv
 obtain⟨d,c,hq1⟩:=ag hh
 refine lg hC (aU.l0 k g1 p0)
  (fun b=>⟨[(0,tA (qGGraph p0)),(1,.clo 88 [.iptr [tA (qGRule cp1_0a),tA (qGGraph cp1_0b),tA (qGEv cp1_0c),tA (qInt cp1_0d),tA (qGFire cp1_0e)] 0]),(7,iA (cast (len (qGGraph p0)))),(8,iA b)],[]⟩)
  (fun(_:Unit)=>⟨[],[]⟩) .ok (.exit 0)
  (i0:=_) c (fun t0 e=>kA) ?_ ?_
 rintro _ hx
 subst d
 have hh:=hq1
 cbv
 exact Eb
 rintro n b j o hh hN1 hD1 hQ1
 unfold aU.l0 at hh
 cbv
 exact D

theorem jd {k:Nat} {g1:GGraph→Option Bool} {cp1_0:GEng} (hg1:∀{y0:GGraph} {r:Bool},g1 y0=some r→ah P 88 [.agg [iA y0.Mode,tA (qGNode y0.Nodes),iA y0.Seen,iA y0.Now,bA y0.Full],.iptr [tA (qGRule cp1_0.Rules),tA (qGGraph cp1_0.Graphs),tA (qGEv cp1_0.Events),tA (qInt cp1_0.Keys),tA (qGFire cp1_0.Fired)] 0] [hA,hA] (bA r)) {p0:List GGraph} {r:Bool} (hh:cX.f g1 k p0=some r):ah P 87 [tA (qGGraph p0),.clo 88 [.iptr [tA (qGRule cp1_0.Rules),tA (qGGraph cp1_0.Graphs),tA (qGEv cp1_0.Events),tA (qInt cp1_0.Keys),tA (qGFire cp1_0.Fired)] 0]] [hA,hA] (bA r):=by
 obtain⟨cp1_0a,cp1_0b,cp1_0c,cp1_0d,cp1_0e⟩:=cp1_0
 unfold cX.f at hh
 refine gp [(4,none)] [.own] [.skip,.skip] Tryz.func87 ?_
 unhygienic intros
 cbv
 have e1:=@jJ
 exact D

theorem xy {p0:Int} {r:Bool} (hh:gG.f p0=some r):ah P 91 [iA p0] [hA] (bA r):=by
 unfold gG.f at hh
 refine gp [(2,none)] [.own] [.skip] Tryz.func91 ?_
 unhygienic intros
 cbv
 have c1:=@dC
 exact D

theorem lG {k:Nat} {g1:Int→Option Bool} (hg1:∀{y0:Int} {r:Bool},g1 y0=some r→ah P 91 [iA y0] [hA] (bA r)) {p0:List Int} {r:Int} (hh:bj.f g1 k p0=some r):ah P 150 [tA (qInt p0),.clo 91 []] [hA,hA] (iA r):=by
 unfold bj.f at hh
 refine gp [(4,none)] [.own] [.skip,.skip] Tryz.func150 ?_
 unhygienic intros
 cbv
 obtain⟨d,c,hq1⟩:=ag hh
 refine lg hC (bj.l0 k g1 p0)
  (fun b=>⟨[(0,tA (qInt p0)),(1,.clo 91 []),(7,iA (cast (len (qInt p0)))),(8,iA b)],[]⟩)
  (fun(_:Unit)=>⟨[],[]⟩) .ok (.exit 0)
  (i0:=_) c (fun t0 e=>kA) ?_ ?_
 rintro _ hx
 subst d
 have hh:=hq1
 cbv
 exact Eb
 rintro n b j o hh hN1 hD1 hQ1
 unfold bj.l0 at hh
 cbv
 exact D

theorem kw {k:Nat} {g1:Int→Option Bool} (hg1:∀{y0:Int} {r:Bool},g1 y0=some r→ah P 91 [iA y0] [hA] (bA r)) {p0:List Int} {r:Bool} (hh:cO.f g1 k p0=some r):ah P 90 [tA (qInt p0),.clo 91 []] [hA,hA] (bA r):=by
 unfold cO.f at hh
 refine gp [(4,none)] [.own] [.skip,.skip] Tryz.func90 ?_
 unhygienic intros
 cbv
 have e1:=@lG
 exact D

end Go.Proofs.YtlbnmldopjadoaaGreat
