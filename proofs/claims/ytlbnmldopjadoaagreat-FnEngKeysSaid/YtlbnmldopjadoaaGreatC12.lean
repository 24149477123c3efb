/- The functions of this program do what the plain ones do. -/
import Derived.Test.YtlbnmldopjadoaaGreatC11
namespace Go.Proofs.YtlbnmldopjadoaaGreat
open Go Go.Vm
set_option linter.unusedVariables false
set_option maxHeartbeats 4000000
set_option maxRecDepth 4000
variable {qIu8:Vm.RW Int} {qGEx:Vm.RW GEx} {qGRule:Vm.RW GRule} {qStr:Vm.RW ByteArray} {qInt:Vm.RW Int} {qGExO:Vm.RW GEx} {qGOcc:Vm.RW GOcc} {qGNode:Vm.RW GNode} {qGNodeS:Vm.RW GNode} {qGGraphS2:Vm.RW GGraph} {qGGraph:Vm.RW GGraph} {qGEv:Vm.RW GEv} {qGFire:Vm.RW GFire} {qGOccO:Vm.RW GOcc} {qLGOcc:Vm.RW (List GOcc)} {qBool:Vm.RW Bool} {qGGraphS:Vm.RW GGraph} {qLInt:Vm.RW (List Int)} (hQ:EQ qIu8 qGEx qGRule qStr qInt qGExO qGOcc qGNode qGNodeS qGGraphS2 qGGraph qGEv qGFire qGOccO qLGOcc qBool qGGraphS qLInt)
include hQ
theorem jh {p0:List Int} {r:List Int} (hh:eX.f p0=some r):ah P 253 [oA 1 (qInt p0)] [hA] (tA (qInt r)):=by
  cases hQ
  exact vA hh


theorem mz {k:Nat} {p0:GOcc} {p1:GOcc} {r:GOcc} (hh:gz.f k p0 p1=some r):ah P 254 [.agg [iA p0.From,iA p0.To,tA (qInt p0.Ids)],.agg [iA p1.From,iA p1.To,tA (qInt p1.Ids)]] [hA,hA] (.agg [iA r.From,iA r.To,oA 1 (qInt r.Ids)]):=by
 obtain⟨p0a,p0b,p0c⟩:=p0
 obtain⟨p1a,p1b,p1c⟩:=p1
 unfold gz.f at hh
 refine gp [(4,some 67)] [.own] [.skip,.skip] Tryz.func254 ?_
 unhygienic intros
 cbv
 obtain⟨v,s,hh⟩:=ag hh
 refine⟨Ob,?_⟩
 refine ak hF (rN hQ s) ?_
 cbv
 obtain⟨w,t,hh⟩:=ag hh
 obtain⟨u,hh⟩:=ae hh
 refine ak hF (Ae hQ t) ?_
 cbv
 replace hh:=bU hh
 rcases hh with⟨o,hh⟩|⟨o,hh⟩
 have d:(lt p1a p0a)=true:=Tb o
 have g:=d;cbv at g;try rw[d]
 try rw[g]
 cbv
 replace hh:=bU hh
 rcases hh with⟨p,hh⟩|⟨p,hh⟩
 have b:(lt p0b p1b)=true:=Tb p
 have g:=b;cbv at g;try rw[b]
 try rw[g]
 cbv
 have c1:=@jh
 exact D
 have b:(lt p0b p1b)=false:=Fb p
 have g:=b;cbv at g;try rw[b]
 try rw[g]
 cbv
 have c1:=@jh
 exact D
 have d:(lt p1a p0a)=false:=Fb o
 have g:=d;cbv at g;try rw[d]
 try rw[g]
 cbv
 replace hh:=bU hh
 rcases hh with⟨j,hh⟩|⟨j,hh⟩
 have c:(lt p0b p1b)=true:=Tb j
 have g:=c;cbv at g;try rw[c]
 try rw[g]
 cbv
 have c1:=@jh
 exact D
 have c:(lt p0b p1b)=false:=Fb j
 have g:=c;cbv at g;try rw[c]
 try rw[g]
 cbv
 have c1:=@jh
 exact D

theorem ix {k:Nat} {p0:Int} {p1:GOcc} {p2:List GOcc} {r:(List GOcc)×(List GOcc)} (hh:aJ.f k p0 p1 p2=some r):ah P 233 [iA p0,.agg [iA p1.From,iA p1.To,tA (qInt p1.Ids)],tA (qGOcc p2)] [hA,hA,hA] (.tup [tA (qGOcc r.1),tA (qGOcc r.2)]):=by
 obtain⟨p1a,p1b,p1c⟩:=p1
 unfold aJ.f at hh
 refine gp [(6,none),(7,none)] [.val,.val] [.skip,.skip,.skip] Tryz.func233 ?_
 unhygienic intros
 cbv
 refine bcs (fun j=>?_) (fun j=>?_)
 replace hh:=ifT hh j
 try rw[j]
 cbv
 exact Eb
 replace hh:=ifF hh j
 try rw[j]
 cbv
 refine bcs (fun o=>?_) (fun o=>?_)
 replace hh:=ifT hh o
 try rw[o]
 cbv
 have c1:=@mz
 exact D
 replace hh:=ifF hh o
 try rw[o]
 cbv
 refine bcs (fun b=>?_) (fun b=>?_)
 replace hh:=ifT hh b
 try rw[b]
 cbv
 have c1:=@mz
 exact D
 replace hh:=ifF hh b
 try rw[b]
 cbv
 refine bcs (fun c=>?_) (fun c=>?_)
 replace hh:=ifT hh c
 try rw[c]
 cbv
 obtain⟨F,p,hq1⟩:=ag hh
 refine lg hC (U4 (aJ.l0 k p2))
  (fun⟨s,t,u,v⟩=>⟨[(2,tA (qGOcc p2)),(4,mA (4,0)),(39,tA (qGOcc p2)),(40,iA (cast (len (qGOcc p2)))),(41,iA v)],[((4,0),.box 1 [iA s,iA t,tA (qInt u)])]⟩)
  (fun⟨w,y,z⟩=>⟨[(2,tA (qGOcc p2)),(4,mA (4,0))],[((4,0),.box 1 [iA w,iA y,tA (qInt z)])]⟩) (fun x=>x) (.exit 1)
  (i0:=(_,_,_,_)) p (fun⟨t0,t1,t2,t3⟩ e=>kA) ?_ ?_
 rintro⟨w,y,z⟩ hx
 subst F
 have hh:=hq1
 cbv
 exact Eb
 rintro n ⟨s,t,u,v⟩ Q R hh hN1 hD1 hQ1
 dsimp only[U4] at hh
 unfold aJ.l0 at hh
 cbv
 refine bcs (fun d=>?_) (fun d=>?_)
 replace hh:=ifT hh d
 try rw[d]
 cbv
 obtain⟨M,hh⟩:=ae hh
 obtain⟨⟨G,H,I⟩,N,hh⟩:=ag hh
 try dsimp only at hh
 refine⟨[iA G,iA H,tA (qInt I)],Nb M,Gb N,?_⟩
 cbv
 obtain⟨⟨J,K,L⟩,O,hh⟩:=ag hh
 try dsimp only at hh
 have fc:=ah.frz (r':=.agg [iA J,iA K,tA (qInt L)]) (mz hQ O) (by cases hQ;simp)
 try dsimp only at fc
 refine ak hF fc ?_
 cbv
 exact hN1 (_,_,_,_) _ hh fun⟨t0,t1,t2,t3⟩ e=>kA
 replace hh:=ifF hh d
 try rw[d]
 cbv
 exact hD1 (_,_,_) _ hh fun⟨t0,t1,t2⟩ e=>kA
 replace hh:=ifF hh c
 try rw[c]
 cbv
 obtain⟨F,p,hq1⟩:=ag hh
 refine lg hC (U2 (aJ.l1 k (⟨p1a,p1b,p1c⟩:GOcc) p2))
  (fun⟨A,B⟩=>⟨[(0,iA p0),(2,tA (qGOcc p2)),(4,mA (4,0)),(6,tA (qGOcc A)),(7,zA),(52,tA (qGOcc p2)),(53,iA (cast (len (qGOcc p2)))),(54,iA B)],[((4,0),.box 1 [iA p1a,iA p1b,tA (qInt p1c)])]⟩)
  (fun(C:List GOcc)=>⟨[(0,iA p0),(2,tA (qGOcc p2)),(6,tA (qGOcc C)),(7,zA)],[]⟩) (fun x=>x) (.exit 3)
  (i0:=(_,_)) p (fun⟨t0,t1⟩ e=>kA) ?_ ?_
 rintro C hx
 subst F
 have hh:=hq1
 cbv
 exact D
 rintro n ⟨A,B⟩ Q R hh hN1 hD1 hQ1
 dsimp only[U2] at hh
 unfold aJ.l1 at hh
 cbv
 have c1:=@mz
 have c2:=@lU
 exact D

theorem ko {k:Nat} {p0:List GOcc} {p1:List GOcc} {r:List GOcc} (hh:bz.f k p0 p1=some r):ah P 234 [tA (qGOcc p0),tA (qGOcc p1)] [hA,hA] (oA 3 (qGOcc r)):=by
 unfold bz.f at hh
 refine gp [(4,none)] [.own] [.skip,.skip] Tryz.func234 ?_
 unhygienic intros
 cbv
 obtain⟨o,j,hq1⟩:=ag hh
 refine lg hC (U2 (bz.l0 k p0 p1))
  (fun⟨b,d⟩=>⟨[(1,tA (qGOcc p1)),(5,rA (5,50) (len (qGOcc b))),(10,tA (qGOcc p0)),(11,iA (cast (len (qGOcc p0)))),(12,iA d)],[((5,50),.arr 1 3 (qGOcc b))]⟩)
  (fun(c:List GOcc)=>⟨[(5,rA (5,50) (len (qGOcc c)))],[((5,50),.arr 1 3 (qGOcc c))]⟩) (fun x=>x) (.exit 0)
  (i0:=(_,_)) j (fun⟨t0,t1⟩ e=>kA) ?_ ?_
 rintro c hx
 subst o
 have hh:=hq1
 cbv
 exact Eb
 rintro n ⟨b,d⟩ p s hh hN1 hD1 hQ1
 dsimp only[U2] at hh
 unfold bz.l0 at hh
 cbv
 have e1:=@fB
 have c1:=@mf
 exact D

theorem rS {k:Nat} {p0:Int} {p1:List GOcc} {p2:GOcc} {p3:Bool} {r:List GOcc} (hh:gf.f k p0 p1 p2 p3=some r):ah P 235 [iA p0,tA (qGOcc p1),.agg [iA p2.From,iA p2.To,tA (qInt p2.Ids)],bA p3] [hA,hA,hA,hA] (tA (qGOcc r)):=by
 obtain⟨p2a,p2b,p2c⟩:=p2
 unfold gf.f at hh
 refine gp [(8,none)] [.val] [.skip,.skip,.skip,.skip] Tryz.func235 ?_
 unhygienic intros
 cbv
 have c1:=@lU
 exact D

theorem pc {k:Nat} {p0:GPair} {p1:Int} {p2:List GOcc} {p3:List GOcc} {r:GPair×(List GOcc)} (hh:bu.f k p0 p1 p2 p3=some r):ah P 197 [.agg [tA (qGOcc p0.Left),tA (qGOcc p0.Right)],iA p1,tA (qGOcc p2),tA (qGOcc p3)] [hA,hA,hA,hA] (.tup [.agg [tA (qGOcc r.1.Left),tA (qGOcc r.1.Right)],tA (qGOcc r.2)]):=by
 obtain⟨p0a,p0b⟩:=p0
 unfold bu.f at hh
 refine gp [(8,some 171),(9,none)] [.val,.val] [.skip,.skip,.skip,.skip] Tryz.func197 ?_
 unhygienic intros
 cbv
 obtain⟨J,d,hq1⟩:=ag hh
 refine lg hC (U4 (bu.l0 k p1 p2))
  (fun⟨s,t,u,v⟩=>⟨[(1,iA p1),(3,tA (qGOcc p3)),(4,mA (4,0)),(8,mA (8,0)),(10,tA (qGOcc u)),(19,tA (qGOcc p2)),(20,iA (cast (len (qGOcc p2)))),(21,iA v)],[((4,0),.box 1 [tA (qGOcc s),tA (qGOcc t)]),((8,0),.box 1 [zA,zA])]⟩)
  (fun⟨w,y,z⟩=>⟨[(1,iA p1),(3,tA (qGOcc p3)),(4,mA (4,0)),(8,mA (8,0)),(10,tA (qGOcc z))],[((4,0),.box 1 [tA (qGOcc w),tA (qGOcc y)]),((8,0),.box 1 [zA,zA])]⟩) (fun x=>x) (.exit 0)
  (i0:=(_,_,_,_)) d (fun⟨t0,t1,t2,t3⟩ e=>kA) ?_ ?_
 rintro⟨w,y,z⟩ hx
 subst J
 have hh:=hq1
 cbv
 obtain⟨J,d,hq1⟩:=ag hh
 refine lg hC (U4 (bu.l1 k p1 p3))
  (fun⟨A,B,C,F⟩=>⟨[(1,iA p1),(4,mA (4,0)),(8,mA (8,0)),(10,tA (qGOcc C)),(51,tA (qGOcc p3)),(52,iA (cast (len (qGOcc p3)))),(53,iA F)],[((4,0),.box 1 [tA (qGOcc A),tA (qGOcc B)]),((8,0),.box 1 [zA,zA])]⟩)
  (fun⟨G,H,I⟩=>⟨[(4,mA (4,0)),(8,mA (8,0)),(10,tA (qGOcc I))],[((4,0),.box 1 [tA (qGOcc G),tA (qGOcc H)]),((8,0),.box 1 [zA,zA])]⟩) (fun x=>x) (.exit 2)
  (i0:=(_,_,_,_)) d (fun⟨t0,t1,t2,t3⟩ e=>kA) ?_ ?_
 rintro⟨G,H,I⟩ hx
 subst J
 have hh:=hq1
 cbv
 exact Eb
 rintro n ⟨A,B,C,F⟩ N1 D1 hh hN1 hD1 hQ1
 dsimp only[U4] at hh
 unfold bu.l1 at hh
 cbv
 refine bcs (fun b=>?_) (fun b=>?_)
 replace hh:=ifT hh b
 try rw[b]
 cbv
 obtain⟨K,hh⟩:=ae hh
 obtain⟨⟨j,o,p⟩,L,hh⟩:=ag hh
 try dsimp only at hh
 refine⟨[iA j,iA o,tA (qInt p)],Nb K,Gb L,?_⟩
 cbv
 obtain⟨⟨U,V⟩,M,hh⟩:=ag hh
 try dsimp only at hh
 have fc:=ix hQ M
 try dsimp only at fc
 refine ak hF fc ?_
 cbv
 obtain⟨It,N,hh⟩:=ag hh
 refine ak hF (eo hQ N) ?_
 cbv
 obtain⟨O,Q,hh⟩:=ag hh
 refine ak hF (ah.frz (r':=tA (qGOcc O)) (ko hQ Q) (by cases hQ;simp)) ?_
 cbv
 have c1:=@rS
 exact D
 replace hh:=ifF hh b
 try rw[b]
 cbv
 exact hD1 (_,_,_) _ hh fun⟨t0,t1,t2⟩ e=>kA
 rintro n ⟨s,t,u,v⟩ N1 D1 hh hN1 hD1 hQ1
 dsimp only[U4] at hh
 unfold bu.l0 at hh
 cbv
 refine bcs (fun c=>?_) (fun c=>?_)
 replace hh:=ifT hh c
 try rw[c]
 cbv
 obtain⟨W,hh⟩:=ae hh
 obtain⟨⟨R,S,T⟩,X,hh⟩:=ag hh
 try dsimp only at hh
 refine⟨[iA R,iA S,tA (qInt T)],Nb W,Gb X,?_⟩
 cbv
 obtain⟨⟨Ia,Ic⟩,Y,hh⟩:=ag hh
 try dsimp only at hh
 have fc:=ix hQ Y
 try dsimp only at fc
 refine ak hF fc ?_
 cbv
 obtain⟨Iv,Z,hh⟩:=ag hh
 refine ak hF (eo hQ Z) ?_
 cbv
 obtain⟨eS,HP,hh⟩:=ag hh
 refine ak hF (ah.frz (r':=tA (qGOcc eS)) (ko hQ HP) (by cases hQ;simp)) ?_
 cbv
 have c1:=@rS
 exact D
 replace hh:=ifF hh c
 try rw[c]
 cbv
 exact hD1 (_,_,_) _ hh fun⟨t0,t1,t2⟩ e=>kA

theorem ud {p0:GOcc} {c0:GOcc} {r:Bool} (hh:fU.f p0 c0=some r):ah P 236 [.agg [iA p0.From,iA p0.To,tA (qInt p0.Ids)],.iptr [iA c0.From,iA c0.To,tA (qInt c0.Ids)] 0] [hA,hA] (bA r):=by
 obtain⟨p0a,p0b,p0c⟩:=p0
 obtain⟨c0a,c0b,c0c⟩:=c0
 unfold fU.f at hh
 refine gp [(3,none)] [.own] [.skip,.skip] Tryz.func236 ?_
 unhygienic intros
 cbv
 exact Eb

theorem mh {k:Nat} {g1:GOcc→Option Bool} {cp1_0:GOcc} (hg1:∀{y0:GOcc} {r:Bool},g1 y0=some r→ah P 236 [.agg [iA y0.From,iA y0.To,tA (qInt y0.Ids)],.iptr [iA cp1_0.From,iA cp1_0.To,tA (qInt cp1_0.Ids)] 0] [hA,hA] (bA r)) {p0:List GOcc} {r:List GOcc} (hh:aX.f g1 k p0=some r):ah P 218 [tA (qGOcc p0),.clo 236 [.iptr [iA cp1_0.From,iA cp1_0.To,tA (qInt cp1_0.Ids)] 0]] [hA,hA] (oA 3 (qGOcc r)):=by
 obtain⟨cp1_0a,cp1_0b,cp1_0c⟩:=cp1_0
 unfold aX.f at hh
 refine gp [(4,none)] [.own] [.skip,.skip] Tryz.func218 ?_
 unhygienic intros
 cbv
 obtain⟨o,j,hq1⟩:=ag hh
 refine lg hC (U2 (aX.l0 k g1 p0))
  (fun⟨b,d⟩=>⟨[(1,.clo 236 [.iptr [iA cp1_0a,iA cp1_0b,tA (qInt cp1_0c)] 0]),(5,rA (5,50) (len (qGOcc b))),(8,tA (qGOcc p0)),(9,iA (cast (len (qGOcc p0)))),(10,iA d)],[((5,50),.arr 1 3 (qGOcc b))]⟩)
  (fun(c:List GOcc)=>⟨[(5,rA (5,50) (len (qGOcc c)))],[((5,50),.arr 1 3 (qGOcc c))]⟩) (fun x=>x) (.exit 0)
  (i0:=(_,_)) j (fun⟨t0,t1⟩ e=>kA) ?_ ?_
 rintro c hx
 subst o
 have hh:=hq1
 cbv
 exact Eb
 rintro n ⟨b,d⟩ p s hh hN1 hD1 hQ1
 dsimp only[U2] at hh
 unfold aX.l0 at hh
 cbv
 exact D

theorem pp {k:Nat} {p0:GPair} {p1:Int} {p2:List GOcc} {p3:List GOcc} {r:GPair×(List GOcc)} (hh:cC.f k p0 p1 p2 p3=some r):ah P 198 [.agg [tA (qGOcc p0.Left),tA (qGOcc p0.Right)],iA p1,tA (qGOcc p2),tA (qGOcc p3)] [hA,hA,hA,hA] (.tup [.agg [tA (qGOcc r.1.Left),tA (qGOcc r.1.Right)],tA (qGOcc r.2)]):=by
 obtain⟨p0a,p0b⟩:=p0
 unfold cC.f at hh
 refine gq [5] [] [] [(8,some 171),(9,none)] [.val,.val] [.skip,.skip,.skip,.skip] Tryz.func198 ?_
 unhygienic intros
 cbv
 obtain⟨I,v,hq1⟩:=ag hh
 refine lgq [5] [] [] hC (U3 (cC.l0 k p1 p3))
  (fun⟨o,p,s⟩=>⟨[(1,iA p1),(2,tA (qGOcc p2)),(4,mA (4,0)),(8,mA (8,0)),(10,tA (qGOcc p)),(15,tA (qGOcc p3)),(16,iA (cast (len (qGOcc p3)))),(17,iA s)],[((4,0),.box 1 [tA (qGOcc o),tA (qGOcc p0b)]),((8,0),.box 1 [zA,zA])]⟩)
  (fun⟨t,u⟩=>⟨[(2,tA (qGOcc p2)),(4,mA (4,0)),(8,mA (8,0)),(10,tA (qGOcc u))],[((4,0),.box 1 [tA (qGOcc t),tA (qGOcc p0b)]),((8,0),.box 1 [zA,zA])]⟩) (fun x=>x) (.exit 0)
  (i0:=(_,_,_)) v (fun⟨t0,t1,t2⟩ e=>kA) ?_ ?_
 rintro⟨t,u⟩ hx
 subst I
 have hh:=hq1
 cbv
 have c1:=@eo
 exact D
 rintro n ⟨o,p,s⟩ L M hh hN1 hD1 hQ1
 dsimp only[U3] at hh
 unfold cC.l0 at hh
 cbv
 refine bcs (fun b=>?_) (fun b=>?_)
 replace hh:=ifT hh b
 try rw[b]
 cbv
 obtain⟨w,hh⟩:=ae hh
 obtain⟨⟨c,d,j⟩,y,hh⟩:=ag hh
 try dsimp only at hh
 refine⟨[iA c,iA d,tA (qInt j)],Nb w,Gb y,?_⟩
 cbv
 refine I8 hC (bH [5] [] []) mixed ⟨[(1,iA p1),(2,tA (qGOcc p2)),(4,mA (4,0)),(8,mA (8,0)),(10,tA (qGOcc p)),(12,mA (12,0)),(15,tA (qGOcc p3)),(16,iA (cast (len (qGOcc p3)))),(17,iA s)],[((4,0),.box 1 [tA (qGOcc o),tA (qGOcc p0b)]),((8,0),.box 1 [zA,zA]),((12,0),.fbox 1 [iA c,iA d,tA (qInt j)])]⟩ (bm [((4,0),(4,0)),((8,0),(8,0)),((12,0),(12,0))] ?_) ?_
 ·cbv
  all_goals exact Zb
 cbv
 obtain⟨J,z,hh⟩:=ag hh
 refine ak hF (mh hQ (g1:=fun y0=>fU.f y0 ((⟨c,d,j⟩:GOcc))) (fun h=>ud hQ h) z) ?_
 cbv
 obtain⟨⟨G,H⟩,A,hh⟩:=ag hh
 try dsimp only at hh
 refine⟨Ob,?_⟩
 have fc:=ix hQ A
 try dsimp only at fc
 refine ak hF fc ?_
 cbv
 obtain⟨K,B,hh⟩:=ag hh
 refine ak hF (eo hQ B) ?_
 cbv
 obtain⟨C,F,hh⟩:=ag hh
 refine ak hF (ah.frz (r':=tA (qGOcc C)) (ko hQ F) (by cases hQ;simp)) ?_
 cbv
 exact hN1 (_,_,_) _ hh fun⟨t0,t1,t2⟩ e=>kA
 replace hh:=ifF hh b
 try rw[b]
 cbv
 exact hD1 (_,_) _ hh fun⟨t0,t1⟩ e=>kA

theorem rj {p0:GOcc} {c0:GOcc} {c1:GOcc} {r:Bool} (hh:gV.f p0 c0 c1=some r):ah P 256 [.agg [iA p0.From,iA p0.To,tA (qInt p0.Ids)],.iptr [iA c0.From,iA c0.To,tA (qInt c0.Ids)] 0,.iptr [iA c1.From,iA c1.To,tA (qInt c1.Ids)] 0] [hA,hA,hA] (bA r):=by
 obtain⟨p0a,p0b,p0c⟩:=p0
 obtain⟨c0a,c0b,c0c⟩:=c0
 obtain⟨c1a,c1b,c1c⟩:=c1
 unfold gV.f at hh
 refine gp [(4,none)] [.own] [.skip,.skip,.skip] Tryz.func256 ?_
 unhygienic intros
 cbv
 exact D

theorem iN {k:Nat} {g1:GOcc→Option Bool} {cp1_0:GOcc} {cp1_1:GOcc} (hg1:∀{y0:GOcc} {r:Bool},g1 y0=some r→ah P 256 [.agg [iA y0.From,iA y0.To,tA (qInt y0.Ids)],.iptr [iA cp1_0.From,iA cp1_0.To,tA (qInt cp1_0.Ids)] 0,.iptr [iA cp1_1.From,iA cp1_1.To,tA (qInt cp1_1.Ids)] 0] [hA,hA,hA] (bA r)) {p0:List GOcc} {r:Int} (hh:aC.f g1 k p0=some r):ah P 230 [tA (qGOcc p0),.clo 256 [.iptr [iA cp1_0.From,iA cp1_0.To,tA (qInt cp1_0.Ids)] 0,.iptr [iA cp1_1.From,iA cp1_1.To,tA (qInt cp1_1.Ids)] 0]] [hA,hA] (iA r):=by
 obtain⟨cp1_0a,cp1_0b,cp1_0c⟩:=cp1_0
 obtain⟨cp1_1a,cp1_1b,cp1_1c⟩:=cp1_1
 unfold aC.f at hh
 refine gp [(4,none)] [.own] [.skip,.skip] Tryz.func230 ?_
 unhygienic intros
 cbv
 obtain⟨d,c,hq1⟩:=ag hh
 refine lg hC (aC.l0 k g1 p0)
  (fun b=>⟨[(0,tA (qGOcc p0)),(1,.clo 256 [.iptr [iA cp1_0a,iA cp1_0b,tA (qInt cp1_0c)] 0,.iptr [iA cp1_1a,iA cp1_1b,tA (qInt cp1_1c)] 0]),(7,iA (cast (len (qGOcc p0)))),(8,iA b)],[]⟩)
  (fun(_:Unit)=>⟨[],[]⟩) .ok (.exit 0)
  (i0:=_) c (fun t0 e=>kA) ?_ ?_
 rintro _ hx
 subst d
 have hh:=hq1
 cbv
 exact Eb
 rintro n b j o hh hN1 hD1 hQ1
 unfold aC.l0 at hh
 cbv
 exact D

theorem ij {k:Nat} {g1:GOcc→Option Bool} {cp1_0:GOcc} {cp1_1:GOcc} (hg1:∀{y0:GOcc} {r:Bool},g1 y0=some r→ah P 256 [.agg [iA y0.From,iA y0.To,tA (qInt y0.Ids)],.iptr [iA cp1_0.From,iA cp1_0.To,tA (qInt cp1_0.Ids)] 0,.iptr [iA cp1_1.From,iA cp1_1.To,tA (qInt cp1_1.Ids)] 0] [hA,hA,hA] (bA r)) {p0:List GOcc} {r:Bool} (hh:ba.f g1 k p0=some r):ah P 192 [tA (qGOcc p0),.clo 256 [.iptr [iA cp1_0.From,iA cp1_0.To,tA (qInt cp1_0.Ids)] 0,.iptr [iA cp1_1.From,iA cp1_1.To,tA (qInt cp1_1.Ids)] 0]] [hA,hA] (bA r):=by
 obtain⟨cp1_0a,cp1_0b,cp1_0c⟩:=cp1_0
 obtain⟨cp1_1a,cp1_1b,cp1_1c⟩:=cp1_1
 unfold ba.f at hh
 refine gp [(4,none)] [.own] [.skip,.skip] Tryz.func192 ?_
 unhygienic intros
 cbv
 have e1:=@iN
 exact D

theorem tj {k:Nat} {p0:GOcc} {c0:GOcc} {c1:GSpan} {r:Bool} (hh:iY.f k p0 c0 c1=some r):ah P 255 [.agg [iA p0.From,iA p0.To,tA (qInt p0.Ids)],.iptr [iA c0.From,iA c0.To,tA (qInt c0.Ids)] 0,.iptr [tA (qGOcc c1.Left),tA (qGOcc c1.Mid)] 0] [hA,hA,hA] (bA r):=by
 obtain⟨p0a,p0b,p0c⟩:=p0
 obtain⟨c0a,c0b,c0c⟩:=c0
 obtain⟨c1a,c1b⟩:=c1
 unfold iY.f at hh
 refine gp [(4,none)] [.own] [.skip,.skip,.skip] Tryz.func255 ?_
 unhygienic intros
 cbv
 have e1:=@ij
 have c1:=@rj
 exact D

theorem lX {k:Nat} {g1:GOcc→Option Bool} {cp1_0:GOcc} {cp1_1:GSpan} (hg1:∀{y0:GOcc} {r:Bool},g1 y0=some r→ah P 255 [.agg [iA y0.From,iA y0.To,tA (qInt y0.Ids)],.iptr [iA cp1_0.From,iA cp1_0.To,tA (qInt cp1_0.Ids)] 0,.iptr [tA (qGOcc cp1_1.Left),tA (qGOcc cp1_1.Mid)] 0] [hA,hA,hA] (bA r)) {p0:List GOcc} {r:List GOcc} (hh:aX.f g1 k p0=some r):ah P 218 [tA (qGOcc p0),.clo 255 [.iptr [iA cp1_0.From,iA cp1_0.To,tA (qInt cp1_0.Ids)] 0,.iptr [tA (qGOcc cp1_1.Left),tA (qGOcc cp1_1.Mid)] 0]] [hA,hA] (oA 3 (qGOcc r)):=by
 obtain⟨cp1_0a,cp1_0b,cp1_0c⟩:=cp1_0
 obtain⟨cp1_1a,cp1_1b⟩:=cp1_1
 unfold aX.f at hh
 refine gp [(4,none)] [.own] [.skip,.skip] Tryz.func218 ?_
 unhygienic intros
 cbv
 obtain⟨o,j,hq1⟩:=ag hh
 refine lg hC (U2 (aX.l0 k g1 p0))
  (fun⟨b,d⟩=>⟨[(1,.clo 255 [.iptr [iA cp1_0a,iA cp1_0b,tA (qInt cp1_0c)] 0,.iptr [tA (qGOcc cp1_1a),tA (qGOcc cp1_1b)] 0]),(5,rA (5,50) (len (qGOcc b))),(8,tA (qGOcc p0)),(9,iA (cast (len (qGOcc p0)))),(10,iA d)],[((5,50),.arr 1 3 (qGOcc b))]⟩)
  (fun(c:List GOcc)=>⟨[(5,rA (5,50) (len (qGOcc c)))],[((5,50),.arr 1 3 (qGOcc c))]⟩) (fun x=>x) (.exit 0)
  (i0:=(_,_)) j (fun⟨t0,t1⟩ e=>kA) ?_ ?_
 rintro c hx
 subst o
 have hh:=hq1
 cbv
 exact Eb
 rintro n ⟨b,d⟩ p s hh hN1 hD1 hQ1
 dsimp only[U2] at hh
 unfold aX.l0 at hh
 cbv
 exact D

theorem oP {k:Nat} {p0:GSpan} {p1:GOcc} {r:List GOcc} (hh:fe.f k p0 p1=some r):ah P 238 [.agg [tA (qGOcc p0.Left),tA (qGOcc p0.Mid)],.agg [iA p1.From,iA p1.To,tA (qInt p1.Ids)]] [hA,hA] (oA 3 (qGOcc r)):=by
 obtain⟨p0a,p0b⟩:=p0
 obtain⟨p1a,p1b,p1c⟩:=p1
 unfold fe.f at hh
 refine gp [(4,none)] [.own] [.skip,.skip] Tryz.func238 ?_
 unhygienic intros
 cbv
 have e1:=@lX
 have c1:=@tj
 exact D

theorem pt {k:Nat} {p0:GSpan} {p1:Int} {p2:List GOcc} {p3:List GOcc} {p4:List GOcc} {r:GSpan×(List GOcc)} (hh:cz.f k p0 p1 p2 p3 p4=some r):ah P 200 [.agg [tA (qGOcc p0.Left),tA (qGOcc p0.Mid)],iA p1,tA (qGOcc p2),tA (qGOcc p3),tA (qGOcc p4)] [hA,hA,hA,hA,hA] (.tup [.agg [tA (qGOcc r.1.Left),tA (qGOcc r.1.Mid)],tA (qGOcc r.2)]):=by
 obtain⟨p0a,p0b⟩:=p0
 unfold cz.f at hh
 refine gp [(10,some 173),(11,none)] [.val,.val] [.skip,.skip,.skip,.skip,.skip] Tryz.func200 ?_
 unhygienic intros
 cbv
 obtain⟨I,v,hq1⟩:=ag hh
 refine lg hC (U3 (cz.l0 k (⟨p0a,p0b⟩:GSpan) p1 p4))
  (fun⟨c,d,j⟩=>⟨[(1,iA p1),(2,tA (qGOcc p2)),(3,tA (qGOcc p3)),(5,mA (5,0)),(10,mA (10,0)),(12,tA (qGOcc d)),(17,tA (qGOcc p4)),(18,iA (cast (len (qGOcc p4)))),(19,iA j)],[((5,0),.box 1 [tA (qGOcc c),tA (qGOcc p0b)]),((10,0),.box 1 [zA,zA])]⟩)
  (fun⟨o,p⟩=>⟨[(2,tA (qGOcc p2)),(3,tA (qGOcc p3)),(5,mA (5,0)),(10,mA (10,0)),(12,tA (qGOcc p))],[((5,0),.box 1 [tA (qGOcc o),tA (qGOcc p0b)]),((10,0),.box 1 [zA,zA])]⟩) (fun x=>x) (.exit 0)
  (i0:=(_,_,_)) v (fun⟨t0,t1,t2⟩ e=>kA) ?_ ?_
 rintro⟨o,p⟩ hx
 subst I
 have hh:=hq1
 cbv
 have c1:=@eo
 exact D
 rintro n ⟨c,d,j⟩ L M hh hN1 hD1 hQ1
 dsimp only[U3] at hh
 unfold cz.l0 at hh
 cbv
 refine bcs (fun b=>?_) (fun b=>?_)
 replace hh:=ifT hh b
 try rw[b]
 cbv
 obtain⟨w,hh⟩:=ae hh
 obtain⟨⟨s,t,u⟩,y,hh⟩:=ag hh
 try dsimp only at hh
 refine⟨[iA s,iA t,tA (qInt u)],Nb w,Gb y,?_⟩
 cbv
 obtain⟨J,z,hh⟩:=ag hh
 refine ak hF (oP hQ z) ?_
 cbv
 obtain⟨⟨G,H⟩,A,hh⟩:=ag hh
 try dsimp only at hh
 refine⟨Ob,?_⟩
 have fc:=ix hQ A
 try dsimp only at fc
 refine ak hF fc ?_
 cbv
 obtain⟨K,B,hh⟩:=ag hh
 refine ak hF (eo hQ B) ?_
 cbv
 obtain⟨C,F,hh⟩:=ag hh
 refine ak hF (ah.frz (r':=tA (qGOcc C)) (ko hQ F) (by cases hQ;simp)) ?_
 cbv
 exact hN1 (_,_,_) _ hh fun⟨t0,t1,t2⟩ e=>kA
 replace hh:=ifF hh b
 try rw[b]
 cbv
 exact hD1 (_,_) _ hh fun⟨t0,t1⟩ e=>kA

theorem oe {k:Nat} {p0:GSpan} {p1:Int} {p2:List GOcc} {p3:List GOcc} {p4:List GOcc} {r:GSpan×(List GOcc)} (hh:ct.f k p0 p1 p2 p3 p4=some r):ah P 201 [.agg [tA (qGOcc p0.Left),tA (qGOcc p0.Mid)],iA p1,tA (qGOcc p2),tA (qGOcc p3),tA (qGOcc p4)] [hA,hA,hA,hA,hA] (.tup [.agg [tA (qGOcc r.1.Left),tA (qGOcc r.1.Mid)],tA (qGOcc r.2)]):=by
 obtain⟨p0a,p0b⟩:=p0
 unfold ct.f at hh
 refine gp [(10,some 173),(11,none)] [.val,.val] [.skip,.skip,.skip,.skip,.skip] Tryz.func201 ?_
 unhygienic intros
 cbv
 obtain⟨o,j,hq1⟩:=ag hh
 refine lg hC (U2 (ct.l0 k (⟨p0a,p0b⟩:GSpan) p1 p3))
  (fun⟨b,c⟩=>⟨[(1,iA p1),(2,tA (qGOcc p2)),(4,tA (qGOcc p4)),(5,mA (5,0)),(10,mA (10,0)),(12,tA (qGOcc b)),(17,tA (qGOcc p3)),(18,iA (cast (len (qGOcc p3)))),(19,iA c)],[((5,0),.box 1 [tA (qGOcc p0a),tA (qGOcc p0b)]),((10,0),.box 1 [zA,zA])]⟩)
  (fun(d:List GOcc)=>⟨[(2,tA (qGOcc p2)),(4,tA (qGOcc p4)),(5,mA (5,0)),(10,mA (10,0)),(12,tA (qGOcc d))],[((5,0),.box 1 [tA (qGOcc p0a),tA (qGOcc p0b)]),((10,0),.box 1 [zA,zA])]⟩) (fun x=>x) (.exit 0)
  (i0:=(_,_)) j (fun⟨t0,t1⟩ e=>kA) ?_ ?_
 rintro d hx
 subst o
 have hh:=hq1
 cbv
 have c1:=@eo
 exact D
 rintro n ⟨b,c⟩ p s hh hN1 hD1 hQ1
 dsimp only[U2] at hh
 unfold ct.l0 at hh
 cbv
 have c1:=@oP
 have c2:=@ix
 have c3:=@eo
 exact D

theorem sI {p0:GOcc} {p1:Int} {r:GOcc} (hh:hO.f p0 p1=some r):ah P 202 [.agg [iA p0.From,iA p0.To,tA (qInt p0.Ids)],iA p1] [hA,hA] (.agg [iA r.From,iA r.To,oA 1 (qInt r.Ids)]):=by
 obtain⟨p0a,p0b,p0c⟩:=p0
 unfold hO.f at hh
 refine gp [(4,some 67)] [.own] [.skip,.skip] Tryz.func202 ?_
 unhygienic intros
 cbv
 have c1:=@ln
 exact D

end Go.Proofs.YtlbnmldopjadoaaGreat
