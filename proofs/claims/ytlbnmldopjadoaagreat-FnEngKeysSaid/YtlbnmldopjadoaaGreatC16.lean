/- The functions of this program do what the plain ones do. -/
import Derived.Test.YtlbnmldopjadoaaGreatC15
namespace Go.Proofs.YtlbnmldopjadoaaGreat
open Go Go.Vm
set_option linter.unusedVariables false
set_option maxHeartbeats 4000000
set_option maxRecDepth 4000
variable {qIu8:Vm.RW Int} {qGEx:Vm.RW GEx} {qGRule:Vm.RW GRule} {qStr:Vm.RW ByteArray} {qInt:Vm.RW Int} {qGExO:Vm.RW GEx} {qGOcc:Vm.RW GOcc} {qGNode:Vm.RW GNode} {qGNodeS:Vm.RW GNode} {qGGraphS2:Vm.RW GGraph} {qGGraph:Vm.RW GGraph} {qGEv:Vm.RW GEv} {qGFire:Vm.RW GFire} {qGOccO:Vm.RW GOcc} {qLGOcc:Vm.RW (List GOcc)} {qBool:Vm.RW Bool} {qGGraphS:Vm.RW GGraph} {qLInt:Vm.RW (List Int)} (hQ:EQ qIu8 qGEx qGRule qStr qInt qGExO qGOcc qGNode qGNodeS qGGraphS2 qGGraph qGEv qGFire qGOccO qLGOcc qBool qGGraphS qLInt)
include hQ
theorem vJ {k:Nat} {p0:List Int} {r:Bool} (hh:bi.f k p0=some r):ah P 8 [tA (qIu8 p0)] [hA] (bA r):=by
 unfold bi.f at hh
 refine gp [(2,none)] [.own] [.skip] Tryz.func8 ?_
 unhygienic intros
 cbv
 refine bcs (fun G=>?_) (fun G=>?_)
 replace hh:=ifT hh G
 try rw[G]
 cbv
 exact Eb
 replace hh:=ifF hh G
 try rw[G]
 cbv
 obtain⟨⟨⟨u,b,c,d,v⟩,H,I,J⟩,h3,hh⟩:=ag hh
 try dsimp only at hh
 have fc:=tp hQ h3
 try dsimp only at fc
 refine ak hF fc ?_
 cbv
 obtain⟨⟨⟨w,j,o,p,s⟩,y,t⟩,h6,hh⟩:=ag hh
 try dsimp only at hh
 refine⟨Ob,?_⟩
 refine⟨Ob,?_⟩
 refine⟨Ob,?_⟩
 have fc:=xB hQ h6
 try dsimp only at fc
 refine ak hF fc ?_
 cbv
 obtain⟨⟨⟨U,V,W,X,Y⟩,F,HP⟩,h9,hh⟩:=ag hh
 try dsimp only at hh
 refine⟨Ob,?_⟩
 refine⟨Ob,?_⟩
 refine⟨Ob,?_⟩
 have fc:=qf hQ h9
 try dsimp only at fc
 refine ak hF fc ?_
 cbv
 replace hh:=bU hh
 rcases hh with⟨K,hh⟩|⟨K,hh⟩
 have A:(eq y F)=true:=Tb K
 have g:=A;cbv at g;try rw[A]
 try rw[g]
 cbv
 replace hh:=bU hh
 rcases hh with⟨L,hh⟩|⟨L,hh⟩
 have B:(eq y 0)=true:=Tb L
 have g:=B;cbv at g;try rw[B]
 try rw[g]
 cbv
 obtain⟨o1,Z,hq1⟩:=ag hh
 refine lg hC (bi.l2 k (⟨⟨u,b,c,d,v⟩,H,I,J⟩:GEng×Int×Int×Int) (⟨⟨w,j,o,p,s⟩,y,t⟩:GEng×Int×(List GFire)))
  (fun C=>⟨[(3,mA (3,0)),(7,mA (7,0)),(9,rA (31,5) (len (qGFire t))),(13,iA C)],[((3,0),.box 1 [tA (qGRule u),rA (21,0) (len (qGGraph b)),rA (21,1) (len (qGEv c)),rA (21,2) (len (qInt d)),tA (qGFire v)]),((7,0),.box 1 [tA (qGRule w),rA (31,0) (len (qGGraphS j)),rA (31,1) (len (qGEv o)),rA (31,2) (len (qInt p)),rA (31,3) (len (qGFire s))]),((21,0),.farr 1 5 (qGGraph b)),((21,1),.farr 1 3 (qGEv c)),((21,2),.farr 1 1 (qInt d)),((31,0),.arr 1 5 (qGGraphS j)),((31,1),.arr 1 3 (qGEv o)),((31,2),.arr 1 1 (qInt p)),((31,3),.arr 1 4 (qGFire s)),((31,5),.arr 1 4 (qGFire t))]⟩)
  (fun(_:Unit)=>⟨[],[]⟩) .ok (.exit 0)
  (i0:=_) Z (fun t0 e=>kA) ?_ ?_
 rintro _ hx
 subst o1
 have hh:=hq1
 cbv
 exact Eb
 rintro n C N1 D1 hh hN1 hD1 hQ1
 unfold bi.l2 at hh
 cbv
 refine bcs (fun z=>?_) (fun z=>?_)
 replace hh:=ifT hh z
 try rw[z]
 cbv
 obtain⟨R,hh⟩:=ae hh
 obtain⟨M,hh⟩:=ae hh
 try dsimp only at M
 refine⟨Nb R,Mb M,?_⟩
 obtain⟨S,T,hh⟩:=ag hh
 refine⟨[iA S],Gb T,?_⟩
 cbv
 obtain⟨o2,eS,hq2⟩:=ag hh
 refine lg hC (U2 (bi.l3 k C (⟨⟨u,b,c,d,v⟩,H,I,J⟩:GEng×Int×Int×Int) (⟨⟨w,j,o,p,s⟩,y,t⟩:GEng×Int×(List GFire))))
  (fun⟨N,O⟩=>⟨[(3,mA (3,0)),(7,mA (7,0)),(9,rA (31,5) (len (qGFire t))),(13,iA C),(14,iA N),(15,iA O)],[((3,0),.box 1 [tA (qGRule u),rA (21,0) (len (qGGraph b)),rA (21,1) (len (qGEv c)),rA (21,2) (len (qInt d)),tA (qGFire v)]),((7,0),.box 1 [tA (qGRule w),rA (31,0) (len (qGGraphS j)),rA (31,1) (len (qGEv o)),rA (31,2) (len (qInt p)),rA (31,3) (len (qGFire s))]),((21,0),.farr 1 5 (qGGraph b)),((21,1),.farr 1 3 (qGEv c)),((21,2),.farr 1 1 (qInt d)),((31,0),.arr 1 5 (qGGraphS j)),((31,1),.arr 1 3 (qGEv o)),((31,2),.arr 1 1 (qInt p)),((31,3),.arr 1 4 (qGFire s)),((31,5),.arr 1 4 (qGFire t))]⟩)
  (fun(Q:Int)=>⟨[(3,mA (3,0)),(7,mA (7,0)),(9,rA (31,5) (len (qGFire t))),(13,iA C),(14,iA Q)],[((3,0),.box 1 [tA (qGRule u),rA (21,0) (len (qGGraph b)),rA (21,1) (len (qGEv c)),rA (21,2) (len (qInt d)),tA (qGFire v)]),((7,0),.box 1 [tA (qGRule w),rA (31,0) (len (qGGraphS j)),rA (31,1) (len (qGEv o)),rA (31,2) (len (qInt p)),rA (31,3) (len (qGFire s))]),((21,0),.farr 1 5 (qGGraph b)),((21,1),.farr 1 3 (qGEv c)),((21,2),.farr 1 1 (qInt d)),((31,0),.arr 1 5 (qGGraphS j)),((31,1),.arr 1 3 (qGEv o)),((31,2),.arr 1 1 (qInt p)),((31,3),.arr 1 4 (qGFire s)),((31,5),.arr 1 4 (qGFire t))]⟩) (fun x=>x) (.exit 2)
  (i0:=(_,_)) eS (fun⟨t0,t1⟩ e=>kA) ?_ ?_
 rintro Q hx
 subst o2
 have hh:=hq2
 cbv
 obtain⟨Iv,hh⟩:=ae hh
 exact D
 rintro n ⟨N,O⟩ N2 D2 hh hN2 hD2 hQ2
 dsimp only[U2] at hh
 unfold bi.l3 at hh
 cbv
 exact D
 replace hh:=ifF hh z
 try rw[z]
 cbv
 exact hD1 () _ hh fun _ e=>kA
 have B:(eq y 0)=false:=Fb L
 have g:=B;cbv at g;try rw[B]
 try rw[g]
 cbv
 exact Eb
 have A:(eq y F)=false:=Fb K
 have g:=A;cbv at g;try rw[A]
 try rw[g]
 cbv
 exact Eb

end Go.Proofs.YtlbnmldopjadoaaGreat
