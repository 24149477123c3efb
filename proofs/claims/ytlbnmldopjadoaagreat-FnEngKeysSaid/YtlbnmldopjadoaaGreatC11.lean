/- The functions of this program do what the plain ones do. -/
import Derived.Test.YtlbnmldopjadoaaGreatC10
namespace Go.Proofs.YtlbnmldopjadoaaGreat
open Go Go.Vm
set_option linter.unusedVariables false
set_option maxHeartbeats 4000000
set_option maxRecDepth 4000
variable {qIu8:Vm.RW Int} {qGEx:Vm.RW GEx} {qGRule:Vm.RW GRule} {qStr:Vm.RW ByteArray} {qInt:Vm.RW Int} {qGExO:Vm.RW GEx} {qGOcc:Vm.RW GOcc} {qGNode:Vm.RW GNode} {qGNodeS:Vm.RW GNode} {qGGraphS2:Vm.RW GGraph} {qGGraph:Vm.RW GGraph} {qGEv:Vm.RW GEv} {qGFire:Vm.RW GFire} {qGOccO:Vm.RW GOcc} {qLGOcc:Vm.RW (List GOcc)} {qBool:Vm.RW Bool} {qGGraphS:Vm.RW GGraph} {qLInt:Vm.RW (List Int)} (hQ:EQ qIu8 qGEx qGRule qStr qInt qGExO qGOcc qGNode qGNodeS qGGraphS2 qGGraph qGEv qGFire qGOccO qLGOcc qBool qGGraphS qLInt)
include hQ
theorem eT {k:Nat} {g3:Int→Int→Option Int} {cp3_0:List GRule} (hg3:∀{y0:Int} {y1:Int} {r:Int},g3 y0 y1=some r→ah P 224 [iA y0,iA y1,.iptr [tA (qGRule cp3_0)] 0] [hA,hA,hA] (iA r)) {p0:List Int} {p1:Int} {p2:Int} {r:List Int} (hh:av.f g3 k p0 p1 p2=some r):ah P 267 [oA 1 (qInt p0),iA p1,iA p2,.clo 224 [.iptr [tA (qGRule cp3_0)] 0]] [oA 1 (qInt r),hA,hA,hA] (.tup []):=by
 unfold av.f at hh
 refine gp [] [] [.own,.skip,.skip,.skip] Tryz.func267 ?_
 unhygienic intros
 cbv
 obtain⟨v,t,hq1⟩:=ag hh
 refine lg hC (U2 (av.l2 k g3 p1 p2))
  (fun⟨o,p⟩=>⟨[(0,rA (0,0) (len (qInt o))),(1,iA p1),(2,iA p2),(3,.clo 224 [.iptr [tA (qGRule cp3_0)] 0]),(8,iA p),(1000000,rA (0,0) (len (qInt o)))],[((0,0),.arr 1 1 (qInt o))]⟩)
  (fun(j:List Int)=>⟨[(1000000,rA (0,0) (len (qInt j)))],[((0,0),.arr 1 1 (qInt j))]⟩) (fun x=>x) (.exit 0)
  (i0:=(_,_)) t (fun⟨t0,t1⟩ e=>kA) ?_ ?_
 rintro j hx
 subst v
 have hh:=hq1
 cbv
 exact Eb
 rintro n ⟨o,p⟩ y z hh hN1 hD1 hQ1
 dsimp only[U2] at hh
 unfold av.l2 at hh
 cbv
 refine bcs (fun b=>?_) (fun b=>?_)
 replace hh:=ifT hh b
 try rw[b]
 cbv
 obtain⟨w,u,hq2⟩:=ag hh
 refine lg hC (U2 (av.l3 k g3 p1))
  (fun⟨c,s⟩=>⟨[(0,rA (0,0) (len (qInt c))),(1,iA p1),(2,iA p2),(3,.clo 224 [.iptr [tA (qGRule cp3_0)] 0]),(8,iA p),(9,iA s),(1000000,rA (0,0) (len (qInt c)))],[((0,0),.arr 1 1 (qInt c))]⟩)
  (fun(d:List Int)=>⟨[(0,rA (0,0) (len (qInt d))),(1,iA p1),(2,iA p2),(3,.clo 224 [.iptr [tA (qGRule cp3_0)] 0]),(8,iA p),(1000000,rA (0,0) (len (qInt d)))],[((0,0),.arr 1 1 (qInt d))]⟩) (fun x=>x) (.exit 2)
  (i0:=(_,_)) u (fun⟨t0,t1⟩ e=>kA) ?_ ?_
 rintro d hx
 subst w
 have hh:=hq2
 cbv
 exact hN1 (_,_) _ hh fun⟨t0,t1⟩ e=>kA
 rintro n ⟨c,s⟩ A B hh hN2 hD2 hQ2
 dsimp only[U2] at hh
 unfold av.l3 at hh
 cbv
 exact D
 replace hh:=ifF hh b
 try rw[b]
 cbv
 exact hD1 _ _ hh fun t0 e=>kA

theorem kj {k:Nat} {g2:Int→Int→Option Int} {cp2_0:List GRule} (hg2:∀{y0:Int} {y1:Int} {r:Int},g2 y0 y1=some r→ah P 224 [iA y0,iA y1,.iptr [tA (qGRule cp2_0)] 0] [hA,hA,hA] (iA r)) {p0:List Int} {p1:Int} {r:List Int} (hh:aG.f g2 k p0 p1=some r):ah P 251 [oA 1 (qInt p0),iA p1,.clo 224 [.iptr [tA (qGRule cp2_0)] 0]] [oA 1 (qInt r),hA,hA] (.tup []):=by
 unfold aG.f at hh
 refine gp [] [] [.own,.skip,.skip] Tryz.func251 ?_
 unhygienic intros
 cbv
 obtain⟨t,o,hq1⟩:=ag hh
 refine lg hC (U3 (aG.l0 k g2 p1))
  (fun⟨p,u,v⟩=>⟨[(0,rA (0,0) (len (qInt p))),(1,iA p1),(2,.clo 224 [.iptr [tA (qGRule cp2_0)] 0]),(6,iA 20),(7,iA u),(8,iA v),(1000000,rA (0,0) (len (qInt p)))],[((0,0),.arr 1 1 (qInt p))]⟩)
  (fun⟨j,s⟩=>⟨[(0,rA (0,0) (len (qInt j))),(1,iA p1),(2,.clo 224 [.iptr [tA (qGRule cp2_0)] 0]),(6,iA 20),(7,iA s),(1000000,rA (0,0) (len (qInt j)))],[((0,0),.arr 1 1 (qInt j))]⟩) (fun x=>x) (.exit 0)
  (i0:=(_,_,_)) o (fun⟨t0,t1,t2⟩ e=>kA) ?_ ?_
 rintro⟨j,s⟩ hx
 subst t
 have hh:=hq1
 cbv
 obtain⟨b,w,hh⟩:=ag hh
 obtain⟨C,hh⟩:=ae hh
 refine ak hF (eT hQ (g3:=g2) hg2 w) ?_
 cbv
 obtain⟨t,o,hq1⟩:=ag hh
 refine lg hC (aG.l3 k p1)
  (fun c=>⟨[(0,rA (0,0) (len (qInt b))),(1,iA p1),(2,.clo 224 [.iptr [tA (qGRule cp2_0)] 0]),(6,iA c),(1000000,rA (0,0) (len (qInt b)))],[((0,0),.arr 1 1 (qInt b))]⟩)
  (fun(_:Unit)=>⟨[(1000000,rA (0,0) (len (qInt b)))],[((0,0),.arr 1 1 (qInt b))]⟩) (fun x=>x) (.exit 2)
  (i0:=_) o (fun t0 e=>kA) ?_ ?_
 rintro _ hx
 subst t
 have hh:=hq1
 cbv
 exact Eb
 rintro n c z A hh hN1 hD1 hQ1
 unfold aG.l3 at hh
 cbv
 refine bcs (fun d=>?_) (fun d=>?_)
 replace hh:=ifT hh d
 try rw[d]
 cbv
 obtain⟨B,y,hq2⟩:=ag hh
 refine lg hC (fun n (_:Unit)=>aG.l4 k p1 c n)
  (fun _=>⟨[(0,rA (0,0) (len (qInt b))),(1,iA p1),(2,.clo 224 [.iptr [tA (qGRule cp2_0)] 0]),(6,iA c),(7,iA 0),(8,iA (wrap .i64 (mul 2 c))),(1000000,rA (0,0) (len (qInt b)))],[((0,0),.arr 1 1 (qInt b))]⟩)
  (fun(_:Unit)=>⟨[(0,rA (0,0) (len (qInt b))),(1,iA p1),(2,.clo 224 [.iptr [tA (qGRule cp2_0)] 0]),(6,iA c),(7,iA 0),(1000000,rA (0,0) (len (qInt b)))],[((0,0),.arr 1 1 (qInt b))]⟩) (fun x=>x) (.exit 4)
  (i0:=()) y (fun _ e=>kA) ?_ ?_
 rintro _ hx
 subst B
 have hh:=hq2
 cbv
 exact D
 rintro n _ F G hh hN2 hD2 hQ2
 try dsimp only at hh
 unfold aG.l4 at hh
 cbv
 exact D
 replace hh:=ifF hh d
 try rw[d]
 cbv
 exact hD1 () _ hh fun _ e=>kA
 rintro n ⟨p,u,v⟩ z A hh hN1 hD1 hQ1
 dsimp only[U3] at hh
 unfold aG.l0 at hh
 cbv
 have e1:=@eT
 exact D

theorem j8 {k:Nat} {g1:Int→Int→Option Int} {cp1_0:List GRule} (hg1:∀{y0:Int} {y1:Int} {r:Int},g1 y0 y1=some r→ah P 224 [iA y0,iA y1,.iptr [tA (qGRule cp1_0)] 0] [hA,hA,hA] (iA r)) {p0:List Int} {r:List Int} (hh:eY.f g1 k p0=some r):ah P 223 [oA 1 (qInt p0),.clo 224 [.iptr [tA (qGRule cp1_0)] 0]] [oA 1 (qInt r),hA] (.tup []):=by
 unfold eY.f at hh
 refine gp [] [] [.own,.skip] Tryz.func223 ?_
 unhygienic intros
 cbv
 have e1:=@kj
 exact D

theorem BP {k:Nat} {p0:List GRule} {r:List Int} (hh:ew.f k p0=some r):ah P 189 [tA (qGRule p0)] [hA] (oA 1 (qInt r)):=by
 unfold ew.f at hh
 refine gp [(2,none)] [.own] [.skip] Tryz.func189 ?_
 unhygienic intros
 cbv
 obtain⟨o,d,hq1⟩:=ag hh
 refine lg hC (U2 (ew.l0 k p0))
  (fun⟨b,j⟩=>⟨[(1,mA (1,0)),(3,rA (3,50) (len (qInt b))),(6,iA (cast (len (qGRule p0)))),(7,iA j)],[((1,0),.box 1 [tA (qGRule p0)]),((3,50),.arr 1 1 (qInt b))]⟩)
  (fun(c:List Int)=>⟨[(1,mA (1,0)),(3,rA (3,50) (len (qInt c)))],[((1,0),.box 1 [tA (qGRule p0)]),((3,50),.arr 1 1 (qInt c))]⟩) (fun x=>x) (.exit 0)
  (i0:=(_,_)) d (fun⟨t0,t1⟩ e=>kA) ?_ ?_
 rintro c hx
 subst o
 have hh:=hq1
 cbv
 have e1:=@j8
 have c1:=@yu
 exact D
 rintro n ⟨b,j⟩ p s hh hN1 hD1 hQ1
 dsimp only[U2] at hh
 unfold ew.l0 at hh
 cbv
 exact D

theorem uW {k:Nat} {p0:GGraph} {p1:Int} {r:Int×Bool×GGraph} (hh:aY.f k p0 p1=some r):ah P 129 [.obox [iA p0.Mode,oA 10 (qGNode p0.Nodes),iA p0.Seen,iA p0.Now,bA p0.Full],iA p1] [.obox [iA r.2.2.Mode,oA 10 (qGNode r.2.2.Nodes),iA r.2.2.Seen,iA r.2.2.Now,bA r.2.2.Full],hA] (.tup [iA r.1,bA r.2.1]):=by
 obtain⟨p0a,p0b,p0c,p0d,p0e⟩:=p0
 unfold aY.f at hh
 refine gp [(4,none),(5,none)] [.own,.own] [.own,.skip] Tryz.func129 ?_
 unhygienic intros
 cbv
 obtain⟨T,M,hq1⟩:=ag hh
 refine lg hC (U2 (aY.l2 k (⟨p0a,p0b,p0c,p0d,p0e⟩:GGraph)))
  (fun⟨u,p⟩=>⟨[(1,iA p1),(6,iA u),(15,rA (15,0) (len (qGNode p0b))),(16,iA (cast (len (qGNode p0b)))),(17,iA p),(1000000,mA (0,0))],[((0,0),.box 1 [iA p0a,rA (15,0) (len (qGNode p0b)),iA p0c,iA p0d,bA p0e]),((15,0),.arr 1 10 (qGNode p0b))]⟩)
  (fun(v:Int)=>⟨[(1,iA p1),(6,iA v),(1000000,mA (0,0))],[((0,0),.box 1 [iA p0a,rA (15,0) (len (qGNode p0b)),iA p0c,iA p0d,bA p0e]),((15,0),.arr 1 10 (qGNode p0b))]⟩) (fun x=>x) (.exit 0)
  (i0:=(_,_)) M (fun⟨t0,t1⟩ e=>kA) ?_ ?_
 rintro v hx
 subst T
 have hh:=hq1
 cbv
 exact Eb
 rintro n ⟨u,p⟩ V W hh hN1 hD1 hQ1
 dsimp only[U2] at hh
 unfold aY.l2 at hh
 cbv
 refine bcs (fun b=>?_) (fun b=>?_)
 replace hh:=ifT hh b
 try rw[b]
 cbv
 obtain⟨N,hh⟩:=ae hh
 obtain⟨w,hh⟩:=ae hh
 try dsimp only at w
 refine⟨Nb N,Mb w,?_⟩
 obtain⟨⟨A,B,C,D,⟨F,G⟩,⟨H,I⟩,j,J⟩,O,hh⟩:=ag hh
 try dsimp only at hh
 refine⟨_,Gk (aM qInt qGOcc) O,?_⟩
 cbv
 obtain⟨U,Q,hq2⟩:=ag hh
 refine lg hC (U2 (aY.l3 k (⟨A,B,C,D,⟨F,G⟩,⟨H,I⟩,j,J⟩:GNode)))
  (fun⟨s,y⟩=>⟨[(1,iA p1),(6,iA s),(15,rA (15,0) (len (qGNode p0b))),(16,iA (cast (len (qGNode p0b)))),(17,iA p),(22,tA (qGOcc j)),(23,iA (cast (len (qGOcc j)))),(24,iA y),(1000000,mA (0,0))],[((0,0),.box 1 [iA p0a,rA (15,0) (len (qGNode p0b)),iA p0c,iA p0d,bA p0e]),((15,0),.arr 1 10 (qGNode p0b))]⟩)
  (fun(z:Int)=>⟨[(1,iA p1),(6,iA z),(15,rA (15,0) (len (qGNode p0b))),(16,iA (cast (len (qGNode p0b)))),(17,iA p),(1000000,mA (0,0))],[((0,0),.box 1 [iA p0a,rA (15,0) (len (qGNode p0b)),iA p0c,iA p0d,bA p0e]),((15,0),.arr 1 10 (qGNode p0b))]⟩) (fun x=>x) (.exit 2)
  (i0:=(_,_)) Q (fun⟨t0,t1⟩ e=>kA) ?_ ?_
 rintro z hx
 subst U
 have hh:=hq2
 cbv
 exact hN1 (_,_) _ hh fun⟨t0,t1⟩ e=>kA
 rintro n ⟨s,y⟩ X Y hh hN2 hD2 hQ2
 dsimp only[U2] at hh
 unfold aY.l3 at hh
 cbv
 refine bcs (fun c=>?_) (fun c=>?_)
 replace hh:=ifT hh c
 try rw[c]
 cbv
 obtain⟨R,hh⟩:=ae hh
 obtain⟨⟨K,o,L⟩,S,hh⟩:=ag hh
 try dsimp only at hh
 refine⟨[iA K,iA o,tA (qInt L)],Nb R,Gb S,?_⟩
 cbv
 replace hh:=bU hh
 rcases hh with⟨t,hh⟩|⟨t,hh⟩
 have d:(lt o s)=true:=Tb t
 have g:=d;cbv at g;try rw[d]
 try rw[g]
 cbv
 exact hN2 (_,_) _ hh fun⟨t0,t1⟩ e=>kA
 have d:(lt o s)=false:=Fb t
 have g:=d;cbv at g;try rw[d]
 try rw[g]
 cbv
 exact hN2 (_,_) _ hh fun⟨t0,t1⟩ e=>kA
 replace hh:=ifF hh c
 try rw[c]
 cbv
 exact hD2 _ _ hh fun t0 e=>kA
 replace hh:=ifF hh b
 try rw[b]
 cbv
 exact hD1 _ _ hh fun t0 e=>kA

theorem Cn {p0:GOcc} {c0:Int} {r:Bool} (hh:pq.f p0 c0=some r):ah P 250 [.agg [iA p0.From,iA p0.To,tA (qInt p0.Ids)],.iptr [iA c0] 0] [hA,hA] (bA r):=by
 obtain⟨p0a,p0b,p0c⟩:=p0
 unfold pq.f at hh
 refine gp [(3,none)] [.own] [.skip,.skip] Tryz.func250 ?_
 unhygienic intros
 cbv
 exact Eb

theorem pJ {k:Nat} {g1:GOcc→Option Bool} {cp1_0:Int} (hg1:∀{y0:GOcc} {r:Bool},g1 y0=some r→ah P 250 [.agg [iA y0.From,iA y0.To,tA (qInt y0.Ids)],.iptr [iA cp1_0] 0] [hA,hA] (bA r)) {p0:List GOcc} {r:List GOcc} (hh:aX.f g1 k p0=some r):ah P 218 [tA (qGOcc p0),.clo 250 [.iptr [iA cp1_0] 0]] [hA,hA] (oA 3 (qGOcc r)):=by
 unfold aX.f at hh
 refine gp [(4,none)] [.own] [.skip,.skip] Tryz.func218 ?_
 unhygienic intros
 cbv
 obtain⟨o,j,hq1⟩:=ag hh
 refine lg hC (U2 (aX.l0 k g1 p0))
  (fun⟨b,d⟩=>⟨[(1,.clo 250 [.iptr [iA cp1_0] 0]),(5,rA (5,50) (len (qGOcc b))),(8,tA (qGOcc p0)),(9,iA (cast (len (qGOcc p0)))),(10,iA d)],[((5,50),.arr 1 3 (qGOcc b))]⟩)
  (fun(c:List GOcc)=>⟨[(5,rA (5,50) (len (qGOcc c)))],[((5,50),.arr 1 3 (qGOcc c))]⟩) (fun x=>x) (.exit 0)
  (i0:=(_,_)) j (fun⟨t0,t1⟩ e=>kA) ?_ ?_
 rintro c hx
 subst o
 have hh:=hq1
 cbv
 exact Eb
 rintro n ⟨b,d⟩ p s hh hN1 hD1 hQ1
 dsimp only[U2] at hh
 unfold aX.l0 at hh
 cbv
 exact D

theorem yZ {k:Nat} {p0:List GOcc} {p1:Int} {r:List GOcc} (hh:nU.f k p0 p1=some r):ah P 217 [tA (qGOcc p0),iA p1] [hA,hA] (oA 3 (qGOcc r)):=by
 unfold nU.f at hh
 refine gp [(4,none)] [.own] [.skip,.skip] Tryz.func217 ?_
 unhygienic intros
 cbv
 have e1:=@pJ
 have c1:=@Cn
 exact D

theorem m9 {p0:GOcc} {c0:Int} {r:Bool} (hh:eh.f p0 c0=some r):ah P 219 [.agg [iA p0.From,iA p0.To,tA (qInt p0.Ids)],.iptr [iA c0] 0] [hA,hA] (bA r):=by
 obtain⟨p0a,p0b,p0c⟩:=p0
 unfold eh.f at hh
 refine gp [(3,none)] [.own] [.skip,.skip] Tryz.func219 ?_
 unhygienic intros
 cbv
 exact Eb

theorem im {k:Nat} {g1:GOcc→Option Bool} {cp1_0:Int} (hg1:∀{y0:GOcc} {r:Bool},g1 y0=some r→ah P 219 [.agg [iA y0.From,iA y0.To,tA (qInt y0.Ids)],.iptr [iA cp1_0] 0] [hA,hA] (bA r)) {p0:List GOcc} {r:List GOcc} (hh:aX.f g1 k p0=some r):ah P 218 [tA (qGOcc p0),.clo 219 [.iptr [iA cp1_0] 0]] [hA,hA] (oA 3 (qGOcc r)):=by
 unfold aX.f at hh
 refine gp [(4,none)] [.own] [.skip,.skip] Tryz.func218 ?_
 unhygienic intros
 cbv
 obtain⟨o,j,hq1⟩:=ag hh
 refine lg hC (U2 (aX.l0 k g1 p0))
  (fun⟨b,d⟩=>⟨[(1,.clo 219 [.iptr [iA cp1_0] 0]),(5,rA (5,50) (len (qGOcc b))),(8,tA (qGOcc p0)),(9,iA (cast (len (qGOcc p0)))),(10,iA d)],[((5,50),.arr 1 3 (qGOcc b))]⟩)
  (fun(c:List GOcc)=>⟨[(5,rA (5,50) (len (qGOcc c)))],[((5,50),.arr 1 3 (qGOcc c))]⟩) (fun x=>x) (.exit 0)
  (i0:=(_,_)) j (fun⟨t0,t1⟩ e=>kA) ?_ ?_
 rintro c hx
 subst o
 have hh:=hq1
 cbv
 exact Eb
 rintro n ⟨b,d⟩ p s hh hN1 hD1 hQ1
 dsimp only[U2] at hh
 unfold aX.l0 at hh
 cbv
 exact D

theorem fB {k:Nat} {g2:GOcc→GOcc→Option Int} (hg2:∀{y0:GOcc} {y1:GOcc} {r:Int},g2 y0 y1=some r→ah P 70 [.agg [iA y0.From,iA y0.To,tA (qInt y0.Ids)],.agg [iA y1.From,iA y1.To,tA (qInt y1.Ids)]] [hA,hA] (iA r)) {p0:List GOcc} {p1:GOcc} {r:Int×Bool} (hh:aI.f g2 k p0 p1=some r):ah P 182 [tA (qGOcc p0),.agg [iA p1.From,iA p1.To,tA (qInt p1.Ids)],.clo 70 []] [hA,hA,hA] (.tup [iA r.1,bA r.2]):=by
 obtain⟨p1a,p1b,p1c⟩:=p1
 unfold aI.f at hh
 refine gp [(6,none),(7,none)] [.own,.own] [.skip,.skip,.skip] Tryz.func182 ?_
 unhygienic intros
 cbv
 obtain⟨o,j,hq1⟩:=ag hh
 refine lg hC (U2 (aI.l0 k g2 p0 (⟨p1a,p1b,p1c⟩:GOcc)))
  (fun⟨b,c⟩=>⟨[(0,tA (qGOcc p0)),(2,.clo 70 []),(4,mA (4,0)),(8,iA (cast (len (qGOcc p0)))),(9,iA b),(10,iA c)],[((4,0),.box 1 [iA p1a,iA p1b,tA (qInt p1c)])]⟩)
  (fun(d:Int)=>⟨[(0,tA (qGOcc p0)),(2,.clo 70 []),(4,mA (4,0)),(8,iA (cast (len (qGOcc p0)))),(9,iA d)],[((4,0),.box 1 [iA p1a,iA p1b,tA (qInt p1c)])]⟩) (fun x=>x) (.exit 0)
  (i0:=(_,_)) j (fun⟨t0,t1⟩ e=>kA) ?_ ?_
 rintro d hx
 subst o
 have hh:=hq1
 cbv
 exact D
 rintro n ⟨b,c⟩ p s hh hN1 hD1 hQ1
 dsimp only[U2] at hh
 unfold aI.l0 at hh
 cbv
 exact D

theorem yr {p0:List GOcc} {r:List GOcc} (hh:lS.f p0=some r):ah P 184 [tA (qGOcc p0)] [hA] (oA 3 (qGOcc r)):=by
 unfold lS.f at hh
 refine gp [(2,none)] [.own] [.skip] Tryz.func184 ?_
 unhygienic intros
 cbv
 obtain⟨c,hh⟩:=ae hh
 intro b hb
 cases b
 · cbv
   refine⟨⟨Ab,Ab⟩,?_⟩
   refine⟨⟨Ob,Wb c⟩,?_⟩
   exact Eb
 · have e:p0=[]:=by cases hC;cases hQ;simpa using hb rfl
   cbv
   refine⟨3,?_⟩
   cbv
   subst e
   exact Eb


theorem vV {p0:List GOcc} {p1:Int} {p2:List GOcc} {r:List GOcc} (hh:jq.f p0 p1 p2=some r):ah P 183 [oA 3 (qGOcc p0),iA p1,oA 3 (qGOcc p2)] [hA,hA,hA] (oA 3 (qGOcc r)):=by
  cases hQ
  exact wt hh


theorem lU {k:Nat} {p0:List GOcc} {p1:GOcc} {r:List GOcc} (hh:fk.f k p0 p1=some r):ah P 128 [tA (qGOcc p0),.agg [iA p1.From,iA p1.To,tA (qInt p1.Ids)]] [hA,hA] (tA (qGOcc r)):=by
 obtain⟨p1a,p1b,p1c⟩:=p1
 unfold fk.f at hh
 refine gp [(4,none)] [.val] [.skip,.skip] Tryz.func128 ?_
 unhygienic intros
 cbv
 have e1:=@fB
 have c1:=@mf
 have c2:=@yr
 have c3:=@vV
 exact D

theorem eo {k:Nat} {p0:List GOcc} {p1:List GOcc} {r:List GOcc} (hh:bc.f k p0 p1=some r):ah P 61 [tA (qGOcc p0),tA (qGOcc p1)] [hA,hA] (tA (qGOcc r)):=by
 unfold bc.f at hh
 refine gp [(4,none)] [.val] [.skip,.skip] Tryz.func61 ?_
 unhygienic intros
 cbv
 obtain⟨o,d,hq1⟩:=ag hh
 refine lg hC (U2 (bc.l0 k p1))
  (fun⟨j,b⟩=>⟨[(0,tA (qGOcc j)),(7,tA (qGOcc p1)),(8,iA (cast (len (qGOcc p1)))),(9,iA b)],[]⟩)
  (fun(c:List GOcc)=>⟨[(0,tA (qGOcc c))],[]⟩) (fun x=>x) (.exit 0)
  (i0:=(_,_)) d (fun⟨t0,t1⟩ e=>kA) ?_ ?_
 rintro c hx
 subst o
 have hh:=hq1
 cbv
 exact Eb
 rintro n ⟨j,b⟩ p s hh hN1 hD1 hQ1
 dsimp only[U2] at hh
 unfold bc.l0 at hh
 cbv
 have c1:=@lU
 exact D

theorem zK {p0:List Int} {p1:Int} {r:List Int} (hh:kP.f p0 p1=some r):ah P 288 [.lit (.slice none 0 0),iA p1] [hA,hA] (oA 1 (qInt r)):=by
  cases hQ
  exact Ai hh


theorem xa {k:Nat} {p0:List (List Int)} {r:List Int} (hh:bh.f k p0=some r):ah P 271 [tA (qLInt p0)] [hA] (oA 1 (qInt r)):=by
 unfold bh.f at hh
 refine gp [(2,none)] [.own] [.skip] Tryz.func271 ?_
 unhygienic intros
 cbv
 obtain⟨p,b,hq1⟩:=ag hh
 refine lg hC (U2 (bh.l0 k p0))
  (fun⟨s,t⟩=>⟨[(0,tA (qLInt p0)),(3,iA s),(9,tA (qLInt p0)),(10,iA (cast (len (qLInt p0)))),(11,iA t)],[]⟩)
  (fun(j:Int)=>⟨[(0,tA (qLInt p0)),(3,iA j)],[]⟩) (fun x=>x) (.exit 0)
  (i0:=(_,_)) b (fun⟨t0,t1⟩ e=>kA) ?_ ?_
 rintro j hx
 subst p
 have hh:=hq1
 cbv
 obtain⟨y,u,hh⟩:=ag hh
 refine ak hF (zK hQ u) ?_
 cbv
 obtain⟨p,b,hq1⟩:=ag hh
 refine lg hC (U2 (bh.l1 k p0))
  (fun⟨c,o⟩=>⟨[(6,rA (24,0) (len (qInt c))),(25,tA (qLInt p0)),(26,iA (cast (len (qLInt p0)))),(27,iA o)],[((24,0),.arr 1 1 (qInt c))]⟩)
  (fun(d:List Int)=>⟨[(6,rA (24,0) (len (qInt d)))],[((24,0),.arr 1 1 (qInt d))]⟩) (fun x=>x) (.exit 2)
  (i0:=(_,_)) b (fun⟨t0,t1⟩ e=>kA) ?_ ?_
 rintro d hx
 subst p
 have hh:=hq1
 cbv
 exact Eb
 rintro n ⟨c,o⟩ v w hh hN1 hD1 hQ1
 dsimp only[U2] at hh
 unfold bh.l1 at hh
 cbv
 exact D
 rintro n ⟨s,t⟩ v w hh hN1 hD1 hQ1
 dsimp only[U2] at hh
 unfold bh.l0 at hh
 cbv
 exact D
theorem rN {k:Nat} {p0:List (List Int)} {r:List Int} (hh:bh.f k p0=some r):ah P 271 [oA 1 (qLInt p0)] [oA 1 (qLInt p0)] (oA 1 (qInt r)):=by
  cases hQ;exact(xa .mk hh).lend (Do _) (.lend (congrArg A.tree (zh _).symm) .nil)

theorem Ae {p0:List Int} {r:List Int} (hh:kR.f p0=some r):ah P 252 [oA 1 (qInt p0)] [oA 1 (qInt r)] (.tup []):=by
  cases hQ
  exact zE hh


end Go.Proofs.YtlbnmldopjadoaaGreat
