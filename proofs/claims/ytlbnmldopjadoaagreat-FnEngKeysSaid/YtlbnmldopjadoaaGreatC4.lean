/- The functions of this program do what the plain ones do. -/
import Derived.Test.YtlbnmldopjadoaaGreatC3
namespace Go.Proofs.YtlbnmldopjadoaaGreat
open Go Go.Vm
set_option linter.unusedVariables false
set_option maxHeartbeats 4000000
set_option maxRecDepth 4000
variable {qIu8:Vm.RW Int} {qGEx:Vm.RW GEx} {qGRule:Vm.RW GRule} {qStr:Vm.RW ByteArray} {qInt:Vm.RW Int} {qGExO:Vm.RW GEx} {qGOcc:Vm.RW GOcc} {qGNode:Vm.RW GNode} {qGNodeS:Vm.RW GNode} {qGGraphS2:Vm.RW GGraph} {qGGraph:Vm.RW GGraph} {qGEv:Vm.RW GEv} {qGFire:Vm.RW GFire} {qGOccO:Vm.RW GOcc} {qLGOcc:Vm.RW (List GOcc)} {qBool:Vm.RW Bool} {qGGraphS:Vm.RW GGraph} {qLInt:Vm.RW (List Int)} (hQ:EQ qIu8 qGEx qGRule qStr qInt qGExO qGOcc qGNode qGNodeS qGGraphS2 qGGraph qGEv qGFire qGOccO qLGOcc qBool qGGraphS qLInt)
include hQ
theorem zX {k:Nat} {p0:GSpan} {p1:GOcc} {r:List Bool} (hh:cH.f k p0 p1=some r):ah P 262 [.agg [tA (qGOcc p0.Left),tA (qGOcc p0.Mid)],.agg [iA p1.From,iA p1.To,tA (qInt p1.Ids)]] [hA,hA] (oA 1 (qBool r)):=by
 obtain⟨p0a,p0b⟩:=p0
 obtain⟨p1a,p1b,p1c⟩:=p1
 unfold cH.f at hh
 refine gp [(4,none)] [.own] [.skip,.skip] Tryz.func262 ?_
 unhygienic intros
 cbv
 obtain⟨j,hh⟩:=ae hh
 try dsimp only at j
 obtain⟨o,hh⟩:=ae hh
 try dsimp only at o
 obtain⟨p,hh⟩:=ae hh
 try dsimp only at p
 refine⟨⟨Nb j,Nb o,Wb p⟩,?_⟩
 obtain⟨t,s,hq1⟩:=ag hh
 refine lg hC (U2 (cH.l0 k (⟨p0a,p0b⟩:GSpan) (⟨p1a,p1b,p1c⟩:GOcc)))
  (fun⟨b,d⟩=>⟨[(2,mA (2,0)),(3,mA (3,0)),(5,rA (10,0) (len (qBool b))),(6,iA d)],[((2,0),.box 1 [tA (qGOcc p0a),tA (qGOcc p0b)]),((3,0),.box 1 [iA p1a,iA p1b,tA (qInt p1c)]),((10,0),.arr 1 1 (qBool b))]⟩)
  (fun(c:List Bool)=>⟨[(5,rA (10,0) (len (qBool c)))],[((10,0),.arr 1 1 (qBool c))]⟩) (fun x=>x) (.exit 0)
  (i0:=(_,_)) s (fun⟨t0,t1⟩ e=>kA) ?_ ?_
 rintro c hx
 subst t
 have hh:=hq1
 cbv
 exact Eb
 rintro n ⟨b,d⟩ u v hh hN1 hD1 hQ1
 dsimp only[U2] at hh
 unfold cH.l0 at hh
 cbv
 have c1:=@vC
 exact D
theorem nD {k:Nat} {p0:GSpan} {p1:GOcc} {r:List Bool} (hh:cH.f k p0 p1=some r):ah P 262 [.agg [oA 3 (qGOcc p0.Left),oA 3 (qGOcc p0.Mid)],.agg [iA p1.From,iA p1.To,tA (qInt p1.Ids)]] [.agg [oA 3 (qGOcc p0.Left),oA 3 (qGOcc p0.Mid)],hA] (oA 1 (qBool r)):=by
  cases hQ;exact(zX .mk hh).lend (pR _) (.lend (by simp) (.same rfl .nil))
theorem Cc {k:Nat} {p0:Int} {p1:GSpan} {p2:List GOcc} {p3:List GOcc} {p4:List GOcc} {r:GSpan×(List GOcc)} (hh:d9.f k p0 p1 p2 p3 p4=some r):ah P 245 [iA p0,.agg [oA 3 (qGOcc p1.Left),oA 3 (qGOcc p1.Mid)],tA (qGOcc p2),tA (qGOcc p3),tA (qGOcc p4)] [hA,hA,hA,hA,hA] (.tup [.agg [oA 3 (qGOcc r.1.Left),oA 3 (qGOcc r.1.Mid)],oA 3 (qGOcc r.2)]):=by
 obtain⟨p1a,p1b⟩:=p1
 unfold d9.f at hh
 refine gp [(10,some 173),(11,none)] [.own,.own] [.skip,.skip,.skip,.skip,.skip] Tryz.func245 ?_
 unhygienic intros
 cbv
 obtain⟨s,p,hq1⟩:=ag hh
 refine lg hC (U3 (d9.l0 k p0 (⟨p1a,p1b⟩:GSpan) p4))
  (fun⟨b,c,o⟩=>⟨[(0,iA p0),(2,tA (qGOcc p2)),(3,tA (qGOcc p3)),(4,tA (qGOcc p4)),(6,mA (6,0)),(10,mA (10,0)),(12,rA (16,0) (len (qGOcc c))),(13,iA o),(1000001,.agg [hA,rA (1,1) (len (qGOcc p1b))])],[((1,0),.arr 1 3 (qGOcc b)),((1,1),.arr 1 3 (qGOcc p1b)),((6,0),.box 1 [rA (1,0) (len (qGOcc b)),rA (1,1) (len (qGOcc p1b))]),((10,0),.box 1 [zA,zA]),((16,0),.arr 1 3 (qGOcc c))]⟩)
  (fun⟨d,j⟩=>⟨[(2,tA (qGOcc p2)),(3,tA (qGOcc p3)),(6,mA (6,0)),(10,mA (10,0)),(12,rA (16,0) (len (qGOcc j))),(1000001,.agg [hA,rA (1,1) (len (qGOcc p1b))])],[((1,0),.arr 1 3 (qGOcc d)),((1,1),.arr 1 3 (qGOcc p1b)),((6,0),.box 1 [rA (1,0) (len (qGOcc d)),rA (1,1) (len (qGOcc p1b))]),((10,0),.box 1 [zA,zA]),((16,0),.arr 1 3 (qGOcc j))]⟩) (fun x=>x) (.exit 0)
  (i0:=(_,_,_)) p (fun⟨t0,t1,t2⟩ e=>kA) ?_ ?_
 rintro⟨d,j⟩ hx
 subst s
 have hh:=hq1
 cbv
 have c1:=@eu
 exact D
 rintro n ⟨b,c,o⟩ t u hh hN1 hD1 hQ1
 dsimp only[U3] at hh
 unfold d9.l0 at hh
 cbv
 have c1:=@nD
 have c2:=@nv
 have c3:=@kX
 have c4:=@eu
 exact D

theorem uS {k:Nat} {p0:Int} {p1:List GOcc} {p2:List Bool} {r:(List GOcc)×(List GOcc)} (hh:aB.f k p0 p1 p2=some r):ah P 259 [iA p0,oA 3 (qGOcc p1),tA (qBool p2)] [hA,oA 3 (qGOcc r.2),hA] (.tup [tA (qGOcc r.1),hA]):=by
 unfold aB.f at hh
 refine gp [(6,none),(7,none)] [.val,.skip] [.skip,.own,.skip] Tryz.func259 ?_
 unhygienic intros
 cbv
 obtain⟨v,c,hq1⟩:=ag hh
 refine lg hC (U2 (aB.l0 k p1 p2))
  (fun⟨w,A⟩=>⟨[(0,iA p0),(1,rA (1,0) (len (qGOcc p1))),(2,tA (qBool p2)),(8,rA (12,0) (len (qGOcc w))),(9,rA (13,0) (len (qGOcc ([]:List GOcc)))),(10,iA A),(1000001,rA (1,0) (len (qGOcc p1)))],[((1,0),.arr 1 3 (qGOcc p1)),((12,0),.arr 1 3 (qGOcc w)),((13,0),.arr 1 3 (qGOcc ([]:List GOcc)))]⟩)
  (fun(b:List GOcc)=>⟨[(0,iA p0),(1,rA (1,0) (len (qGOcc p1))),(2,tA (qBool p2)),(8,rA (12,0) (len (qGOcc b))),(9,rA (13,0) (len (qGOcc ([]:List GOcc)))),(1000001,rA (1,0) (len (qGOcc p1)))],[((1,0),.arr 1 3 (qGOcc p1)),((12,0),.arr 1 3 (qGOcc b)),((13,0),.arr 1 3 (qGOcc ([]:List GOcc)))]⟩) (fun x=>x) (.exit 0)
  (i0:=(_,_)) c (fun⟨t0,t1⟩ e=>kA) ?_ ?_
 rintro b hx
 subst v
 have hh:=hq1
 cbv
 refine bcs (fun d=>?_) (fun d=>?_)
 replace hh:=ifT hh d
 try rw[d]
 cbv
 exact Eb
 replace hh:=ifF hh d
 try rw[d]
 cbv
 refine bcs (fun j=>?_) (fun j=>?_)
 replace hh:=ifT hh j
 try rw[j]
 cbv
 exact Eb
 replace hh:=ifF hh j
 try rw[j]
 cbv
 refine bcs (fun o=>?_) (fun o=>?_)
 replace hh:=ifT hh o
 try rw[o]
 cbv
 exact D
 replace hh:=ifF hh o
 try rw[o]
 cbv
 refine bcs (fun p=>?_) (fun p=>?_)
 replace hh:=ifT hh p
 try rw[p]
 cbv
 obtain⟨C,hh⟩:=ae hh
 obtain⟨F,hh⟩:=ae hh
 obtain⟨G,hh⟩:=ae hh
 refine⟨⟨Nb C,Nb F,Nb G⟩,?_⟩
 obtain⟨v,c,hq1⟩:=ag hh
 refine lg hC (U2 (aB.l1 k p1 p2 b))
  (fun⟨y,B⟩=>⟨[(0,iA p0),(1,rA (1,0) (len (qGOcc p1))),(2,tA (qBool p2)),(8,.ref (12,0) 1 (nadd 0 (toNat 0)) (toNat (sub 1 0))),(9,rA (13,0) (len (qGOcc y))),(11,iA B),(1000001,rA (1,0) (len (qGOcc p1)))],[((1,0),.arr 1 3 (qGOcc p1)),((12,0),.arr 1 3 (qGOcc b)),((13,0),.arr 1 3 (qGOcc y))]⟩)
  (fun(s:List GOcc)=>⟨[(8,.ref (12,0) 1 (nadd 0 (toNat 0)) (toNat (sub 1 0))),(9,rA (13,0) (len (qGOcc s))),(1000001,rA (1,0) (len (qGOcc p1)))],[((1,0),.arr 1 3 (qGOcc p1)),((12,0),.arr 1 3 (qGOcc b)),((13,0),.arr 1 3 (qGOcc s))]⟩) (fun x=>x) (.exit 3)
  (i0:=(_,_)) c (fun⟨t0,t1⟩ e=>kA) ?_ ?_
 rintro s hx
 subst v
 have hh:=hq1
 cbv
 exact Eb
 rintro n ⟨y,B⟩ H I hh hN1 hD1 hQ1
 dsimp only[U2] at hh
 unfold aB.l1 at hh
 cbv
 have c1:=@nq
 exact D
 replace hh:=ifF hh p
 try rw[p]
 cbv
 obtain⟨v,c,hq1⟩:=ag hh
 refine lg hC (U2 (aB.l2 k p1 p2))
  (fun⟨t,z⟩=>⟨[(0,iA p0),(1,rA (1,0) (len (qGOcc p1))),(2,tA (qBool p2)),(8,rA (12,0) (len (qGOcc b))),(9,rA (13,0) (len (qGOcc t))),(11,iA z),(1000001,rA (1,0) (len (qGOcc p1)))],[((1,0),.arr 1 3 (qGOcc p1)),((12,0),.arr 1 3 (qGOcc b)),((13,0),.arr 1 3 (qGOcc t))]⟩)
  (fun(u:List GOcc)=>⟨[(8,rA (12,0) (len (qGOcc b))),(9,rA (13,0) (len (qGOcc u))),(1000001,rA (1,0) (len (qGOcc p1)))],[((1,0),.arr 1 3 (qGOcc p1)),((12,0),.arr 1 3 (qGOcc b)),((13,0),.arr 1 3 (qGOcc u))]⟩) (fun x=>x) (.exit 3)
  (i0:=(_,_)) c (fun⟨t0,t1⟩ e=>kA) ?_ ?_
 rintro u hx
 subst v
 have hh:=hq1
 cbv
 exact Eb
 rintro n ⟨t,z⟩ H I hh hN1 hD1 hQ1
 dsimp only[U2] at hh
 unfold aB.l2 at hh
 cbv
 exact D
 rintro n ⟨w,A⟩ H I hh hN1 hD1 hQ1
 dsimp only[U2] at hh
 unfold aB.l0 at hh
 cbv
 exact D

theorem zu {k:Nat} {p0:Int} {p1:GSpan} {p2:List GOcc} {p3:List GOcc} {p4:List GOcc} {r:GSpan×(List GOcc)} (hh:dS.f k p0 p1 p2 p3 p4=some r):ah P 246 [iA p0,.agg [oA 3 (qGOcc p1.Left),oA 3 (qGOcc p1.Mid)],tA (qGOcc p2),tA (qGOcc p3),tA (qGOcc p4)] [hA,hA,hA,hA,hA] (.tup [.agg [oA 3 (qGOcc r.1.Left),oA 3 (qGOcc r.1.Mid)],oA 3 (qGOcc r.2)]):=by
 obtain⟨p1a,p1b⟩:=p1
 unfold dS.f at hh
 refine gp [(10,some 173),(11,none)] [.own,.own] [.skip,.skip,.skip,.skip,.skip] Tryz.func246 ?_
 unhygienic intros
 cbv
 obtain⟨s,p,hq1⟩:=ag hh
 refine lg hC (U3 (dS.l0 k p0 (⟨p1a,p1b⟩:GSpan) p3))
  (fun⟨b,d,o⟩=>⟨[(0,iA p0),(2,tA (qGOcc p2)),(3,tA (qGOcc p3)),(4,tA (qGOcc p4)),(6,mA (6,0)),(10,mA (10,0)),(12,rA (16,0) (len (qGOcc d))),(13,iA o),(1000001,.agg [rA (1,0) (len (qGOcc b)),rA (1,1) (len (qGOcc p1b))])],[((1,0),.arr 1 3 (qGOcc b)),((1,1),.arr 1 3 (qGOcc p1b)),((6,0),.box 1 [rA (1,0) (len (qGOcc b)),rA (1,1) (len (qGOcc p1b))]),((10,0),.box 1 [zA,zA]),((16,0),.arr 1 3 (qGOcc d))]⟩)
  (fun⟨c,j⟩=>⟨[(2,tA (qGOcc p2)),(4,tA (qGOcc p4)),(6,mA (6,0)),(10,mA (10,0)),(12,rA (16,0) (len (qGOcc j))),(1000001,.agg [rA (1,0) (len (qGOcc c)),rA (1,1) (len (qGOcc p1b))])],[((1,0),.arr 1 3 (qGOcc c)),((1,1),.arr 1 3 (qGOcc p1b)),((6,0),.box 1 [rA (1,0) (len (qGOcc c)),rA (1,1) (len (qGOcc p1b))]),((10,0),.box 1 [zA,zA]),((16,0),.arr 1 3 (qGOcc j))]⟩) (fun x=>x) (.exit 0)
  (i0:=(_,_,_)) p (fun⟨t0,t1,t2⟩ e=>kA) ?_ ?_
 rintro⟨c,j⟩ hx
 subst s
 have hh:=hq1
 cbv
 have c1:=@eu
 exact D
 rintro n ⟨b,d,o⟩ t u hh hN1 hD1 hQ1
 dsimp only[U3] at hh
 unfold dS.l0 at hh
 cbv
 have c1:=@nD
 have c2:=@uS
 have c3:=@kX
 have c4:=@eu
 exact D

theorem Av {k:Nat} {p0:List GOcc} {p1:Int} {r:(List GOcc)×(List GOcc)} (hh:dX.f k p0 p1=some r):ah P 263 [tA (qGOcc p0),iA p1] [hA,hA] (.tup [oA 3 (qGOcc r.1),oA 3 (qGOcc r.2)]):=by
 unfold dX.f at hh
 refine gp [(4,none),(5,none)] [.own,.own] [.skip,.skip] Tryz.func263 ?_
 unhygienic intros
 cbv
 obtain⟨s,p,hq1⟩:=ag hh
 refine lg hC (U3 (dX.l0 k p0 p1))
  (fun⟨b,c,o⟩=>⟨[(0,tA (qGOcc p0)),(1,iA p1),(6,rA (9,0) (len (qGOcc b))),(7,rA (10,0) (len (qGOcc c))),(8,iA o)],[((9,0),.arr 1 3 (qGOcc b)),((10,0),.arr 1 3 (qGOcc c))]⟩)
  (fun⟨d,j⟩=>⟨[(6,rA (9,0) (len (qGOcc d))),(7,rA (10,0) (len (qGOcc j)))],[((9,0),.arr 1 3 (qGOcc d)),((10,0),.arr 1 3 (qGOcc j))]⟩) (fun x=>x) (.exit 0)
  (i0:=(_,_,_)) p (fun⟨t0,t1,t2⟩ e=>kA) ?_ ?_
 rintro⟨d,j⟩ hx
 subst s
 have hh:=hq1
 cbv
 exact Eb
 rintro n ⟨b,c,o⟩ t u hh hN1 hD1 hQ1
 dsimp only[U3] at hh
 unfold dX.l0 at hh
 cbv
 exact D

theorem yw {p0:GOcc} {p1:Int} {r:GOcc} (hh:iD.f p0 p1=some r):ah P 264 [.agg [iA p0.From,iA p0.To,tA (qInt p0.Ids)],iA p1] [hA,hA] (.agg [iA r.From,iA r.To,oA 1 (qInt r.Ids)]):=by
 obtain⟨p0a,p0b,p0c⟩:=p0
 unfold iD.f at hh
 refine gp [(4,some 67)] [.own] [.skip,.skip] Tryz.func264 ?_
 unhygienic intros
 cbv
 have c1:=@gQ
 exact D

theorem Ah {k:Nat} {p0:GNode} {p1:Int} {p2:List GOcc} {r:GNode×(List GOcc)} (hh:dM.f k p0 p1 p2=some r):ah P 247 [.agg [iA p0.Kind,iA p0.Sym,iA p0.N,oA 1 (qInt p0.Kids),oA 3 (qGOcc p0.Pair.Left),oA 3 (qGOcc p0.Pair.Right),oA 3 (qGOcc p0.Span.Left),oA 3 (qGOcc p0.Span.Mid),oA 3 (qGOcc p0.Due),iA p0.Many],iA p1,tA (qGOcc p2)] [hA,hA,hA] (.tup [.agg [iA r.1.Kind,iA r.1.Sym,iA r.1.N,oA 1 (qInt r.1.Kids),oA 3 (qGOcc r.1.Pair.Left),oA 3 (qGOcc r.1.Pair.Right),oA 3 (qGOcc r.1.Span.Left),oA 3 (qGOcc r.1.Span.Mid),oA 3 (qGOcc r.1.Due),iA r.1.Many],oA 3 (qGOcc r.2)]):=by
 obtain⟨p0a,p0b,p0c,p0d,⟨p0e,p0f⟩,⟨p0g,p0h⟩,p0i,p0j⟩:=p0
 unfold dM.f at hh
 refine gp [(6,some 175),(7,none)] [.own,.own] [.skip,.skip,.skip] Tryz.func247 ?_
 unhygienic intros
 cbv
 obtain⟨⟨b,p⟩,s,hh⟩:=ag hh
 try dsimp only at hh
 refine⟨Ob,?_⟩
 have fc:=Av hQ s
 try dsimp only at fc
 refine ak hF fc ?_
 cbv
 obtain⟨t,o,hq1⟩:=ag hh
 refine lg hC (U2 (dM.l0 k (⟨p0a,p0b,p0c,p0d,⟨p0e,p0f⟩,⟨p0g,p0h⟩,p0i,p0j⟩:GNode) p2))
  (fun⟨c,j⟩=>⟨[(2,tA (qGOcc p2)),(3,mA (3,0)),(6,mA (6,0)),(8,rA (15,0) (len (qGOcc b))),(9,rA (15,1) (len (qGOcc c))),(10,iA j),(1000000,.agg [iA p0a,iA p0b,iA p0c,rA (0,0) (len (qInt p0d)),rA (0,1) (len (qGOcc p0e)),rA (0,2) (len (qGOcc p0f)),rA (0,3) (len (qGOcc p0g)),rA (0,4) (len (qGOcc p0h)),rA (0,5) (len (qGOcc p0i)),iA p0j])],[((0,0),.arr 1 1 (qInt p0d)),((0,1),.arr 1 3 (qGOcc p0e)),((0,2),.arr 1 3 (qGOcc p0f)),((0,3),.arr 1 3 (qGOcc p0g)),((0,4),.arr 1 3 (qGOcc p0h)),((0,5),.farr 1 3 (qGOcc p0i)),((3,0),.box 1 [iA p0a,iA p0b,iA p0c,rA (0,0) (len (qInt p0d)),rA (0,1) (len (qGOcc p0e)),rA (0,2) (len (qGOcc p0f)),rA (0,3) (len (qGOcc p0g)),rA (0,4) (len (qGOcc p0h)),rA (0,5) (len (qGOcc p0i)),iA p0j]),((6,0),.box 1 [iA 0,iA 0,iA 0,zA,zA,zA,zA,zA,zA,iA 0]),((15,0),.arr 1 3 (qGOcc b)),((15,1),.arr 1 3 (qGOcc c))]⟩)
  (fun(d:List GOcc)=>⟨[(3,mA (3,0)),(6,mA (6,0)),(8,rA (15,0) (len (qGOcc b))),(9,rA (15,1) (len (qGOcc d))),(1000000,.agg [iA p0a,iA p0b,iA p0c,rA (0,0) (len (qInt p0d)),rA (0,1) (len (qGOcc p0e)),rA (0,2) (len (qGOcc p0f)),rA (0,3) (len (qGOcc p0g)),rA (0,4) (len (qGOcc p0h)),rA (0,5) (len (qGOcc p0i)),iA p0j])],[((0,0),.arr 1 1 (qInt p0d)),((0,1),.arr 1 3 (qGOcc p0e)),((0,2),.arr 1 3 (qGOcc p0f)),((0,3),.arr 1 3 (qGOcc p0g)),((0,4),.arr 1 3 (qGOcc p0h)),((0,5),.farr 1 3 (qGOcc p0i)),((3,0),.box 1 [iA p0a,iA p0b,iA p0c,rA (0,0) (len (qInt p0d)),rA (0,1) (len (qGOcc p0e)),rA (0,2) (len (qGOcc p0f)),rA (0,3) (len (qGOcc p0g)),rA (0,4) (len (qGOcc p0h)),rA (0,5) (len (qGOcc p0i)),iA p0j]),((6,0),.box 1 [iA 0,iA 0,iA 0,zA,zA,zA,zA,zA,zA,iA 0]),((15,0),.arr 1 3 (qGOcc b)),((15,1),.arr 1 3 (qGOcc d))]⟩) (fun x=>x) (.exit 0)
  (i0:=(_,_)) o (fun⟨t0,t1⟩ e=>kA) ?_ ?_
 rintro d hx
 subst t
 have hh:=hq1
 cbv
 exact Eb
 rintro n ⟨c,j⟩ u v hh hN1 hD1 hQ1
 dsimp only[U2] at hh
 unfold dM.l0 at hh
 cbv
 have c1:=@yw
 have c2:=@lI
 exact D

end Go.Proofs.YtlbnmldopjadoaaGreat
