/- The functions of this program do what the plain ones do. -/
import Derived.Test.YtlbnmldopjadoaaGreatC15
namespace Go.Proofs.YtlbnmldopjadoaaGreat
open Go Go.Vm
set_option linter.unusedVariables false
set_option maxHeartbeats 4000000
set_option maxRecDepth 4000
variable {qIu8:Vm.RW Int} {qGEx:Vm.RW GEx} {qGRule:Vm.RW GRule} {qStr:Vm.RW ByteArray} {qInt:Vm.RW Int} {qGExO:Vm.RW GEx} {qGOcc:Vm.RW GOcc} {qGNode:Vm.RW GNode} {qGNodeS:Vm.RW GNode} {qGGraphS2:Vm.RW GGraph} {qGGraph:Vm.RW GGraph} {qGEv:Vm.RW GEv} {qGFire:Vm.RW GFire} {qGOccO:Vm.RW GOcc} {qLGOcc:Vm.RW (List GOcc)} {qBool:Vm.RW Bool} {qGGraphS:Vm.RW GGraph} {qLInt:Vm.RW (List Int)} (hQ:EQ qIu8 qGEx qGRule qStr qInt qGExO qGOcc qGNode qGNodeS qGGraphS2 qGGraph qGEv qGFire qGOccO qLGOcc qBool qGGraphS qLInt)
include hQ
theorem ud {k:Nat} {p0:List Int} {r:Bool} (hh:bG.f k p0=some r):ah P 10 [tA (qIu8 p0)] [hA] (bA r):=by
 unfold bG.f at hh
 refine gp [(2,none)] [.own] [.skip] Tryz.func10 ?_
 unhygienic intros
 cbv
 refine bcs (fun C=>?_) (fun C=>?_)
 replace hh:=ifT hh C
 try rw[C]
 cbv
 exact Eb
 replace hh:=ifF hh C
 try rw[C]
 cbv
 obtain⟨⟨⟨t,b,c,d,u⟩,M,N,O⟩,Y,hh⟩:=ag hh
 try dsimp only at hh
 have fc:=tp hQ Y
 try dsimp only at fc
 refine ak hF fc ?_
 cbv
 obtain⟨⟨⟨A,j,o,p,s⟩,v,Z⟩,h6,hh⟩:=ag hh
 try dsimp only at hh
 refine⟨Ob,?_⟩
 refine⟨Ob,?_⟩
 refine⟨Ob,?_⟩
 have fc:=qi hQ h6
 try dsimp only at fc
 refine ak hF fc ?_
 cbv
 obtain⟨⟨⟨Q,R,S,T,U⟩,B,X⟩,h9,hh⟩:=ag hh
 try dsimp only at hh
 refine⟨Ob,?_⟩
 refine⟨Ob,?_⟩
 refine⟨Ob,?_⟩
 have fc:=qk hQ h9
 try dsimp only at fc
 refine ak hF fc ?_
 cbv
 replace hh:=cg hh
 rcases hh with⟨F,hh⟩|⟨F,hh⟩
 have w:(eq v B)=true:=Tb F
 have g:=w;cbv at g;try rw[w]
 try rw[g]
 cbv
 obtain⟨I,V,hh⟩:=ag hh
 refine⟨Ob,?_⟩
 refine⟨Ob,?_⟩
 refine⟨Ob,?_⟩
 refine ak hF (sH hQ V) ?_
 cbv
 replace hh:=cg hh
 rcases hh with⟨G,hh⟩|⟨G,hh⟩
 have y:I=true:=Tb G
 have g:=y;cbv at g;try rw[y]
 try rw[g]
 cbv
 replace hh:=cg hh
 rcases hh with⟨H,hh⟩|⟨H,hh⟩
 have z:(eq v 0)=true:=Tb H
 have g:=z;cbv at g;try rw[z]
 try rw[g]
 cbv
 obtain⟨o1,W,hq1⟩:=ag hh
 refine lg hC (U2 (bG.l0 k (⟨⟨t,b,c,d,u⟩,M,N,O⟩:GEng×Int×Int×Int)))
  (fun⟨J,K⟩=>⟨[(3,mA (3,0)),(7,mA (7,0)),(16,bA J),(17,iA K)],[((3,0),.box 1 [tA (qGRule t),rA (23,0) (len (qGGraph b)),rA (23,1) (len (qGEv c)),rA (23,2) (len (qInt d)),tA (qGFire u)]),((7,0),.box 1 [tA (qGRule A),rA (33,0) (len (qGGraphS j)),rA (33,1) (len (qGEv o)),rA (33,2) (len (qInt p)),rA (33,3) (len (qGFire s))]),((23,0),.farr 1 5 (qGGraph b)),((23,1),.farr 1 3 (qGEv c)),((23,2),.farr 1 1 (qInt d)),((33,0),.arr 1 5 (qGGraphS j)),((33,1),.arr 1 3 (qGEv o)),((33,2),.arr 1 1 (qInt p)),((33,3),.arr 1 4 (qGFire s))]⟩)
  (fun(L:Bool)=>⟨[(3,mA (3,0)),(7,mA (7,0)),(16,bA L)],[((3,0),.box 1 [tA (qGRule t),rA (23,0) (len (qGGraph b)),rA (23,1) (len (qGEv c)),rA (23,2) (len (qInt d)),tA (qGFire u)]),((7,0),.box 1 [tA (qGRule A),rA (33,0) (len (qGGraphS j)),rA (33,1) (len (qGEv o)),rA (33,2) (len (qInt p)),rA (33,3) (len (qGFire s))]),((23,0),.farr 1 5 (qGGraph b)),((23,1),.farr 1 3 (qGEv c)),((23,2),.farr 1 1 (qInt d)),((33,0),.arr 1 5 (qGGraphS j)),((33,1),.arr 1 3 (qGEv o)),((33,2),.arr 1 1 (qInt p)),((33,3),.arr 1 4 (qGFire s))]⟩) (fun x=>x) (.exit 0)
  (i0:=(_,_)) W (fun⟨t0,t1⟩ e=>kA) ?_ ?_
 rintro L hx
 subst o1
 have hh:=hq1
 cbv
 exact D
 rintro n ⟨J,K⟩ N1 D1 hh hN1 hD1 hQ1
 dsimp only[U2] at hh
 unfold bG.l0 at hh
 cbv
 exact D
 have z:(eq v 0)=false:=Fb H
 have g:=z;cbv at g;try rw[z]
 try rw[g]
 cbv
 have c1:=@qi
 exact D
 have y:I=false:=Fb G
 have g:=y;cbv at g;try rw[y]
 try rw[g]
 cbv
 exact Eb
 have w:(eq v B)=false:=Fb F
 have g:=w;cbv at g;try rw[w]
 try rw[g]
 cbv
 exact Eb

end Go.Proofs.YtlbnmldopjadoaaGreat
