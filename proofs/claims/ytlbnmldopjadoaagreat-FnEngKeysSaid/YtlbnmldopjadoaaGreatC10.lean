/- The functions of this program do what the plain ones do. -/
import Derived.Test.YtlbnmldopjadoaaGreatC9
namespace Go.Proofs.YtlbnmldopjadoaaGreat
open Go Go.Vm
set_option linter.unusedVariables false
set_option maxHeartbeats 4000000
set_option maxRecDepth 4000
variable {qIu8:Vm.RW Int} {qGEx:Vm.RW GEx} {qGRule:Vm.RW GRule} {qStr:Vm.RW ByteArray} {qInt:Vm.RW Int} {qGExO:Vm.RW GEx} {qGOcc:Vm.RW GOcc} {qGNode:Vm.RW GNode} {qGNodeS:Vm.RW GNode} {qGGraphS2:Vm.RW GGraph} {qGGraph:Vm.RW GGraph} {qGEv:Vm.RW GEv} {qGFire:Vm.RW GFire} {qGOccO:Vm.RW GOcc} {qLGOcc:Vm.RW (List GOcc)} {qBool:Vm.RW Bool} {qGGraphS:Vm.RW GGraph} {qLInt:Vm.RW (List Int)} (hQ:EQ qIu8 qGEx qGRule qStr qInt qGExO qGOcc qGNode qGNodeS qGGraphS2 qGGraph qGEv qGFire qGOccO qLGOcc qBool qGGraphS qLInt)
include hQ
theorem xS {k:Nat} {p0:GFire} {c0:GEng} {r:Bool} (hh:gH.f k p0 c0=some r):ah P 93 [.agg [iA p0.Rule,iA p0.Occ.From,iA p0.Occ.To,tA (qInt p0.Occ.Ids)],.iptr [tA (qGRule c0.Rules),tA (qGGraph c0.Graphs),tA (qGEv c0.Events),tA (qInt c0.Keys),tA (qGFire c0.Fired)] 0] [hA,hA] (bA r):=by
 obtain⟨p0a,⟨p0b,p0c,p0d⟩⟩:=p0
 obtain⟨c0a,c0b,c0c,c0d,c0e⟩:=c0
 unfold gH.f at hh
 refine gp [(3,none)] [.own] [.skip,.skip] Tryz.func93 ?_
 unhygienic intros
 cbv
 have c1:=@dC
 have c2:=@sS
 have c3:=@lM
 exact D

theorem jL {k:Nat} {g1:GFire→Option Bool} {cp1_0:GEng} (hg1:∀{y0:GFire} {r:Bool},g1 y0=some r→ah P 93 [.agg [iA y0.Rule,iA y0.Occ.From,iA y0.Occ.To,tA (qInt y0.Occ.Ids)],.iptr [tA (qGRule cp1_0.Rules),tA (qGGraph cp1_0.Graphs),tA (qGEv cp1_0.Events),tA (qInt cp1_0.Keys),tA (qGFire cp1_0.Fired)] 0] [hA,hA] (bA r)) {p0:List GFire} {r:Int} (hh:bd.f g1 k p0=some r):ah P 151 [tA (qGFire p0),.clo 93 [.iptr [tA (qGRule cp1_0.Rules),tA (qGGraph cp1_0.Graphs),tA (qGEv cp1_0.Events),tA (qInt cp1_0.Keys),tA (qGFire cp1_0.Fired)] 0]] [hA,hA] (iA r):=by
 obtain⟨cp1_0a,cp1_0b,cp1_0c,cp1_0d,cp1_0e⟩:=cp1_0
 unfold bd.f at hh
 refine gp [(4,none)] [.own] [.skip,.skip] Tryz.func151 ?_
 unhygienic intros
 cbv
 obtain⟨d,c,hq1⟩:=ag hh
 refine lg hC (bd.l0 k g1 p0)
  (fun b=>⟨[(0,tA (qGFire p0)),(1,.clo 93 [.iptr [tA (qGRule cp1_0a),tA (qGGraph cp1_0b),tA (qGEv cp1_0c),tA (qInt cp1_0d),tA (qGFire cp1_0e)] 0]),(7,iA (cast (len (qGFire p0)))),(8,iA b)],[]⟩)
  (fun(_:Unit)=>⟨[],[]⟩) .ok (.exit 0)
  (i0:=_) c (fun t0 e=>kA) ?_ ?_
 rintro _ hx
 subst d
 have hh:=hq1
 cbv
 exact Eb
 rintro n b j o hh hN1 hD1 hQ1
 unfold bd.l0 at hh
 cbv
 exact D

theorem jn {k:Nat} {g1:GFire→Option Bool} {cp1_0:GEng} (hg1:∀{y0:GFire} {r:Bool},g1 y0=some r→ah P 93 [.agg [iA y0.Rule,iA y0.Occ.From,iA y0.Occ.To,tA (qInt y0.Occ.Ids)],.iptr [tA (qGRule cp1_0.Rules),tA (qGGraph cp1_0.Graphs),tA (qGEv cp1_0.Events),tA (qInt cp1_0.Keys),tA (qGFire cp1_0.Fired)] 0] [hA,hA] (bA r)) {p0:List GFire} {r:Bool} (hh:dq.f g1 k p0=some r):ah P 92 [tA (qGFire p0),.clo 93 [.iptr [tA (qGRule cp1_0.Rules),tA (qGGraph cp1_0.Graphs),tA (qGEv cp1_0.Events),tA (qInt cp1_0.Keys),tA (qGFire cp1_0.Fired)] 0]] [hA,hA] (bA r):=by
 obtain⟨cp1_0a,cp1_0b,cp1_0c,cp1_0d,cp1_0e⟩:=cp1_0
 unfold dq.f at hh
 refine gp [(4,none)] [.own] [.skip,.skip] Tryz.func92 ?_
 unhygienic intros
 cbv
 have e1:=@jL
 exact D

theorem Ax {k:Nat} {p0:GEng} {r:Bool} (hh:iW.f k p0=some r):ah P 39 [.agg [tA (qGRule p0.Rules),tA (qGGraph p0.Graphs),tA (qGEv p0.Events),tA (qInt p0.Keys),tA (qGFire p0.Fired)]] [hA] (bA r):=by
 obtain⟨p0a,p0b,p0c,p0d,p0e⟩:=p0
 unfold iW.f at hh
 refine gp [(2,none)] [.own] [.skip] Tryz.func39 ?_
 unhygienic intros
 cbv
 have c1:=@yH
 have c2:=@BE
 have e1:=@jd
 have c3:=@xr
 have e2:=@kw
 have c4:=@xy
 have e3:=@jn
 have c5:=@xS
 exact D

theorem z8 {p0:tW} {r:Bool} (hh:kD.f p0=some r):ah P 74 [.agg [iA p0.Sym,iA p0.Gap,iA p0.Val]] [hA] (bA r):=by
 obtain⟨p0a,p0b,p0c⟩:=p0
 unfold kD.f at hh
 refine gp [(2,none)] [.own] [.skip] Tryz.func74 ?_
 unhygienic intros
 cbv
 have c1:=@lV
 have c2:=@dC
 exact D

theorem Gi:∀k:Nat,(∀{p0:GEx} {r:GEx},bO.f k p0=some r→ah P 187 [.agg [iA p0.Kind,iA p0.Sym,iA p0.N,tA (qGEx p0.Kids)]] [hA] (.agg [iA r.Kind,iA r.Sym,iA r.N,oA 4 (qGExO r.Kids)])):=by
  intro k
  induction k using Nat.strongRecOn with
  |_ k ih=>
  · intro p0 r hh
    cases k with
    |zero=>unfold bO.f at hh;cases hh
    |succ k=>
    obtain⟨p0a,p0b,p0c,p0d⟩:=p0
    unfold bO.f at hh
    refine gp [(2,some 25)] [.own] [.skip] Tryz.func187 ?_
    unhygienic intros
    cbv
    obtain⟨o,j,hq1⟩:=ag hh
    refine lg hC (U2 (bO.l0 k (bO.f k) (⟨p0a,p0b,p0c,p0d⟩:GEx)))
     (fun⟨b,d⟩=>⟨[(1,mA (1,0)),(2,mA (2,0)),(3,rA (3,50) (len (qGExO b))),(7,tA (qGEx p0d)),(8,iA (cast (len (qGEx p0d)))),(9,iA d)],[((1,0),.box 1 [iA p0a,iA p0b,iA p0c,tA (qGEx p0d)]),((2,0),.box 1 [iA 0,iA 0,iA 0,zA]),((3,50),.arr 1 4 (qGExO b))]⟩)
     (fun(c:List GEx)=>⟨[(1,mA (1,0)),(2,mA (2,0)),(3,rA (3,50) (len (qGExO c)))],[((1,0),.box 1 [iA p0a,iA p0b,iA p0c,tA (qGEx p0d)]),((2,0),.box 1 [iA 0,iA 0,iA 0,zA]),((3,50),.arr 1 4 (qGExO c))]⟩) (fun x=>x) (.exit 0)
     (i0:=(_,_)) j (fun⟨t0,t1⟩ e=>kA) ?_ ?_
    rintro c hx
    subst o
    have hh:=hq1
    cbv
    exact Eb
    rintro n ⟨b,d⟩ p s hh hN1 hD1 hQ1
    dsimp only[U2] at hh
    unfold bO.l0 at hh
    cbv
    have d1:=@ih k (Nat.lt_succ_self k)
    exact D
theorem wU {k:Nat} {p0:GEx} {r:GEx} (hh:bO.f k p0=some r):ah P 187 [.agg [iA p0.Kind,iA p0.Sym,iA p0.N,tA (qGEx p0.Kids)]] [hA] (.agg [iA r.Kind,iA r.Sym,iA r.N,oA 4 (qGExO r.Kids)]):=(Gi hQ k) hh


theorem ub {k:Nat} {p0:GRule} {r:GRule} (hh:jF.f k p0=some r):ah P 139 [.agg [sA p0.Name,iA p0.Pri,iA p0.Mode,iA p0.Ex.Kind,iA p0.Ex.Sym,iA p0.Ex.N,tA (qGEx p0.Ex.Kids),iA p0.Low,iA p0.High,iA p0.Key,iA p0.Add,iA p0.Raise]] [hA] (.agg [sA r.Name,iA r.Pri,iA r.Mode,iA r.Ex.Kind,iA r.Ex.Sym,iA r.Ex.N,oA 4 (qGExO r.Ex.Kids),iA r.Low,iA r.High,iA r.Key,iA r.Add,iA r.Raise]):=by
 obtain⟨p0a,p0b,p0c,⟨p0d,p0e,p0f,p0g⟩,p0h,p0i,p0j,p0k,p0l⟩:=p0
 unfold jF.f at hh
 refine gp [(2,some 60)] [.own] [.skip] Tryz.func139 ?_
 unhygienic intros
 cbv
 have c1:=@wU
 exact D

theorem uc {k:Nat} {p0:List GRule} {r:List GRule} (hh:cw.f k p0=some r):ah P 82 [tA (qGRule p0)] [hA] (oA 12 (qGRule r)):=by
 unfold cw.f at hh
 refine gp [(2,none)] [.own] [.skip] Tryz.func82 ?_
 unhygienic intros
 cbv
 obtain⟨W,S,hq1⟩:=ag hh
 refine lg hC (U2 (cw.l0 k p0))
  (fun⟨c,j⟩=>⟨[(3,rA (3,50) (len (qGRule c))),(6,tA (qGRule p0)),(7,iA (cast (len (qGRule p0)))),(8,iA j)],[((3,50),.arr 1 12 (qGRule c))]⟩)
  (fun(d:List GRule)=>⟨[(3,rA (3,50) (len (qGRule d)))],[((3,50),.arr 1 12 (qGRule d))]⟩) (fun x=>x) (.exit 0)
  (i0:=(_,_)) S (fun⟨t0,t1⟩ e=>kA) ?_ ?_
 rintro d hx
 subst W
 have hh:=hq1
 cbv
 exact Eb
 rintro n ⟨c,j⟩ Y Z hh hN1 hD1 hQ1
 dsimp only[U2] at hh
 unfold cw.l0 at hh
 cbv
 refine bcs (fun b=>?_) (fun b=>?_)
 replace hh:=ifT hh b
 try rw[b]
 cbv
 obtain⟨T,hh⟩:=ae hh
 obtain⟨⟨o,p,s,⟨t,u,v,w⟩,y,z,A,B,C⟩,U,hh⟩:=ag hh
 try dsimp only at hh
 refine⟨[sA o,iA p,iA s,iA t,iA u,iA v,tA (qGEx w),iA y,iA z,iA A,iA B,iA C],Nb T,Gb U,?_⟩
 cbv
 obtain⟨⟨F,G,H,⟨I,J,K,L⟩,M,N,O,Q,R⟩,V,hh⟩:=ag hh
 try dsimp only at hh
 have fc:=ah.frz (r':=.agg [sA F,iA G,iA H,iA I,iA J,iA K,tA (qGEx L),iA M,iA N,iA O,iA Q,iA R]) (ub hQ V) (by cases hQ;simp)
 try dsimp only at fc
 refine ak hF fc ?_
 cbv
 obtain⟨X,hh⟩:=ae hh
 exact D
 replace hh:=ifF hh b
 try rw[b]
 cbv
 exact hD1 _ _ hh fun t0 e=>kA

theorem ww {p0:List GEv} {r:List GEv} (hh:jp.f p0=some r):ah P 64 [tA (qGEv p0)] [hA] (oA 3 (qGEv r)):=by
 unfold jp.f at hh
 refine gp [(2,none)] [.own] [.skip] Tryz.func64 ?_
 unhygienic intros
 cbv
 exact D

theorem ln {p0:GOcc} {r:GOcc} (hh:fb.f p0=some r):ah P 131 [.agg [iA p0.From,iA p0.To,tA (qInt p0.Ids)]] [hA] (.agg [iA r.From,iA r.To,oA 1 (qInt r.Ids)]):=by
 obtain⟨p0a,p0b,p0c⟩:=p0
 unfold fb.f at hh
 refine gp [(2,some 67)] [.own] [.skip] Tryz.func131 ?_
 unhygienic intros
 cbv
 exact D

theorem nC {k:Nat} {p0:List GFire} {r:List GFire} (hh:cg.f k p0=some r):ah P 140 [tA (qGFire p0)] [hA] (oA 4 (qGFire r)):=by
 unfold cg.f at hh
 refine gp [(2,none)] [.own] [.skip] Tryz.func140 ?_
 unhygienic intros
 cbv
 obtain⟨C,y,hq1⟩:=ag hh
 refine lg hC (U2 (cg.l0 k p0))
  (fun⟨c,j⟩=>⟨[(3,rA (3,50) (len (qGFire c))),(6,tA (qGFire p0)),(7,iA (cast (len (qGFire p0)))),(8,iA j)],[((3,50),.arr 1 4 (qGFire c))]⟩)
  (fun(d:List GFire)=>⟨[(3,rA (3,50) (len (qGFire d)))],[((3,50),.arr 1 4 (qGFire d))]⟩) (fun x=>x) (.exit 0)
  (i0:=(_,_)) y (fun⟨t0,t1⟩ e=>kA) ?_ ?_
 rintro d hx
 subst C
 have hh:=hq1
 cbv
 exact Eb
 rintro n ⟨c,j⟩ G H hh hN1 hD1 hQ1
 dsimp only[U2] at hh
 unfold cg.l0 at hh
 cbv
 refine bcs (fun b=>?_) (fun b=>?_)
 replace hh:=ifT hh b
 try rw[b]
 cbv
 obtain⟨z,hh⟩:=ae hh
 obtain⟨⟨o,⟨p,s,t⟩⟩,A,hh⟩:=ag hh
 try dsimp only at hh
 refine⟨[iA o,iA p,iA s,tA (qInt t)],Nb z,Gb A,?_⟩
 cbv
 obtain⟨⟨u,v,w⟩,B,hh⟩:=ag hh
 try dsimp only at hh
 have fc:=ah.frz (r':=.agg [iA u,iA v,tA (qInt w)]) (ln hQ B) (by cases hQ;simp)
 try dsimp only at fc
 refine ak hF fc ?_
 cbv
 obtain⟨F,hh⟩:=ae hh
 exact D
 replace hh:=ifF hh b
 try rw[b]
 cbv
 exact hD1 _ _ hh fun t0 e=>kA

theorem lp {k:Nat} {p0:List GOcc} {r:List GOcc} (hh:bI.f k p0=some r):ah P 63 [tA (qGOcc p0)] [hA] (oA 3 (qGOccO r)):=by
 unfold bI.f at hh
 refine gp [(2,none)] [.own] [.skip] Tryz.func63 ?_
 unhygienic intros
 cbv
 obtain⟨o,j,hq1⟩:=ag hh
 refine lg hC (U2 (bI.l0 k p0))
  (fun⟨b,d⟩=>⟨[(3,rA (3,50) (len (qGOccO b))),(6,tA (qGOcc p0)),(7,iA (cast (len (qGOcc p0)))),(8,iA d)],[((3,50),.arr 1 3 (qGOccO b))]⟩)
  (fun(c:List GOcc)=>⟨[(3,rA (3,50) (len (qGOccO c)))],[((3,50),.arr 1 3 (qGOccO c))]⟩) (fun x=>x) (.exit 0)
  (i0:=(_,_)) j (fun⟨t0,t1⟩ e=>kA) ?_ ?_
 rintro c hx
 subst o
 have hh:=hq1
 cbv
 exact Eb
 rintro n ⟨b,d⟩ p s hh hN1 hD1 hQ1
 dsimp only[U2] at hh
 unfold bI.l0 at hh
 cbv
 have c1:=@ln
 exact D

theorem ue {k:Nat} {p0:GPair} {r:GPair} (hh:jD.f k p0=some r):ah P 221 [.agg [tA (qGOcc p0.Left),tA (qGOcc p0.Right)]] [hA] (.agg [oA 3 (qGOccO r.Left),oA 3 (qGOccO r.Right)]):=by
 obtain⟨p0a,p0b⟩:=p0
 unfold jD.f at hh
 refine gp [(2,some 171)] [.own] [.skip] Tryz.func221 ?_
 unhygienic intros
 cbv
 have c1:=@lp
 exact D

theorem uf {k:Nat} {p0:GSpan} {r:GSpan} (hh:jH.f k p0=some r):ah P 222 [.agg [tA (qGOcc p0.Left),tA (qGOcc p0.Mid)]] [hA] (.agg [oA 3 (qGOccO r.Left),oA 3 (qGOccO r.Mid)]):=by
 obtain⟨p0a,p0b⟩:=p0
 unfold jH.f at hh
 refine gp [(2,some 173)] [.own] [.skip] Tryz.func222 ?_
 unhygienic intros
 cbv
 have c1:=@lp
 exact D

theorem ui {k:Nat} {p0:GNode} {r:GNode} (hh:gW.f k p0=some r):ah P 188 [.agg [iA p0.Kind,iA p0.Sym,iA p0.N,tA (qInt p0.Kids),tA (qGOcc p0.Pair.Left),tA (qGOcc p0.Pair.Right),tA (qGOcc p0.Span.Left),tA (qGOcc p0.Span.Mid),tA (qGOcc p0.Due),iA p0.Many]] [hA] (.agg [iA r.Kind,iA r.Sym,iA r.N,oA 1 (qInt r.Kids),oA 3 (qGOccO r.Pair.Left),oA 3 (qGOccO r.Pair.Right),oA 3 (qGOccO r.Span.Left),oA 3 (qGOccO r.Span.Mid),oA 3 (qGOccO r.Due),iA r.Many]):=by
 obtain⟨p0a,p0b,p0c,p0d,⟨p0e,p0f⟩,⟨p0g,p0h⟩,p0i,p0j⟩:=p0
 unfold gW.f at hh
 refine gp [(2,some 175)] [.own] [.skip] Tryz.func188 ?_
 unhygienic intros
 cbv
 have c1:=@ue
 have c2:=@uf
 have c3:=@lp
 exact D

theorem sg {k:Nat} {p0:GGraph} {r:GGraph} (hh:ci.f k p0=some r):ah P 141 [.agg [iA p0.Mode,tA (qGNode p0.Nodes),iA p0.Seen,iA p0.Now,bA p0.Full]] [hA] (.agg [iA r.Mode,oA 10 (qGNode r.Nodes),iA r.Seen,iA r.Now,bA r.Full]):=by
 obtain⟨p0a,p0b,p0c,p0d,p0e⟩:=p0
 unfold ci.f at hh
 refine gp [(2,some 91)] [.own] [.skip] Tryz.func141 ?_
 unhygienic intros
 cbv
 obtain⟨S,N,hq1⟩:=ag hh
 refine lg hC (U2 (ci.l0 k (⟨p0a,p0b,p0c,p0d,p0e⟩:GGraph)))
  (fun⟨c,j⟩=>⟨[(1,mA (1,0)),(2,mA (2,0)),(3,rA (3,50) (len (qGNode c))),(7,tA (qGNode p0b)),(8,iA (cast (len (qGNode p0b)))),(9,iA j)],[((1,0),.box 1 [iA p0a,tA (qGNode p0b),iA p0c,iA p0d,bA p0e]),((2,0),.box 1 [iA 0,zA,iA 0,iA 0,bA false]),((3,50),.arr 1 10 (qGNode c))]⟩)
  (fun(d:List GNode)=>⟨[(1,mA (1,0)),(2,mA (2,0)),(3,rA (3,50) (len (qGNode d)))],[((1,0),.box 1 [iA p0a,tA (qGNode p0b),iA p0c,iA p0d,bA p0e]),((2,0),.box 1 [iA 0,zA,iA 0,iA 0,bA false]),((3,50),.arr 1 10 (qGNode d))]⟩) (fun x=>x) (.exit 0)
  (i0:=(_,_)) N (fun⟨t0,t1⟩ e=>kA) ?_ ?_
 rintro d hx
 subst S
 have hh:=hq1
 cbv
 exact Eb
 rintro n ⟨c,j⟩ U V hh hN1 hD1 hQ1
 dsimp only[U2] at hh
 unfold ci.l0 at hh
 cbv
 refine bcs (fun b=>?_) (fun b=>?_)
 replace hh:=ifT hh b
 try rw[b]
 cbv
 obtain⟨O,hh⟩:=ae hh
 obtain⟨⟨o,p,s,t,⟨u,v⟩,⟨w,y⟩,z,A⟩,Q,hh⟩:=ag hh
 try dsimp only at hh
 refine⟨[iA o,iA p,iA s,tA (qInt t),tA (qGOcc u),tA (qGOcc v),tA (qGOcc w),tA (qGOcc y),tA (qGOcc z),iA A],Nb O,Gb Q,?_⟩
 cbv
 obtain⟨⟨B,C,F,G,⟨H,I⟩,⟨J,K⟩,L,M⟩,R,hh⟩:=ag hh
 try dsimp only at hh
 have fc:=ah.frz (r':=.agg [iA B,iA C,iA F,tA (qInt G),tA (qGOcc H),tA (qGOcc I),tA (qGOcc J),tA (qGOcc K),tA (qGOcc L),iA M]) (ui hQ R) (by cases hQ;simp)
 try dsimp only at fc
 refine ak hF fc ?_
 cbv
 obtain⟨T,hh⟩:=ae hh
 exact D
 replace hh:=ifF hh b
 try rw[b]
 cbv
 exact hD1 _ _ hh fun t0 e=>kA

theorem je {k:Nat} {p0:GEng} {r:GEng} (hh:bW.f k p0=some r):ah P 83 [.agg [tA (qGRule p0.Rules),tA (qGGraph p0.Graphs),tA (qGEv p0.Events),tA (qInt p0.Keys),tA (qGFire p0.Fired)]] [hA] (.agg [tA (qGRule r.Rules),oA 5 (qGGraphS r.Graphs),oA 3 (qGEv r.Events),oA 1 (qInt r.Keys),oA 4 (qGFire r.Fired)]):=by
 obtain⟨p0a,p0b,p0c,p0d,p0e⟩:=p0
 unfold bW.f at hh
 refine gp [(2,some 53)] [.own] [.skip] Tryz.func83 ?_
 unhygienic intros
 cbv
 obtain⟨p,u,hh⟩:=ag hh
 refine ak hF (ah.frz (r':=tA (qGRule p)) (uc hQ u) (by cases hQ;simp)) ?_
 cbv
 obtain⟨d,v,hh⟩:=ag hh
 refine ak hF (ww hQ v) ?_
 cbv
 obtain⟨s,hh⟩:=ae hh
 try dsimp only at s
 refine⟨⟨Ab,Ab⟩,?_⟩
 refine⟨Wb s,?_⟩
 obtain⟨j,w,hh⟩:=ag hh
 refine ak hF (nC hQ w) ?_
 cbv
 obtain⟨y,t,hq1⟩:=ag hh
 refine lg hC (U2 (bW.l0 k (⟨p0a,p0b,p0c,p0d,p0e⟩:GEng)))
  (fun⟨b,o⟩=>⟨[(2,mA (2,0)),(3,mA (3,0)),(20,tA (qGGraph p0b)),(21,iA (cast (len (qGGraph p0b)))),(22,iA o)],[((2,0),.box 1 [zA,zA,zA,zA,zA]),((3,0),.box 1 [tA (qGRule p),rA (3,51) (len (qGGraphS b)),rA (11,0) (len (qGEv d)),rA (14,0) (len (qInt p0d)),rA (17,0) (len (qGFire j))]),((3,51),.arr 1 5 (qGGraphS b)),((11,0),.arr 1 3 (qGEv d)),((14,0),.arr 1 1 (qInt p0d)),((17,0),.arr 1 4 (qGFire j))]⟩)
  (fun(c:List GGraph)=>⟨[(2,mA (2,0)),(3,mA (3,0))],[((2,0),.box 1 [zA,zA,zA,zA,zA]),((3,0),.box 1 [tA (qGRule p),rA (3,51) (len (qGGraphS c)),rA (11,0) (len (qGEv d)),rA (14,0) (len (qInt p0d)),rA (17,0) (len (qGFire j))]),((3,51),.arr 1 5 (qGGraphS c)),((11,0),.arr 1 3 (qGEv d)),((14,0),.arr 1 1 (qInt p0d)),((17,0),.arr 1 4 (qGFire j))]⟩) (fun x=>x) (.exit 0)
  (i0:=(_,_)) t (fun⟨t0,t1⟩ e=>kA) ?_ ?_
 rintro c hx
 subst y
 have hh:=hq1
 cbv
 exact Eb
 rintro n ⟨b,o⟩ z A hh hN1 hD1 hQ1
 dsimp only[U2] at hh
 unfold bW.l0 at hh
 cbv
 have c1:=@sg
 exact D

theorem yu {p0:Int} {p1:Int} {c0:List GRule} {r:Int} (hh:lH.f p0 p1 c0=some r):ah P 224 [iA p0,iA p1,.iptr [tA (qGRule c0)] 0] [hA,hA,hA] (iA r):=by
 unfold lH.f at hh
 refine gp [(5,none)] [.own] [.skip,.skip,.skip] Tryz.func224 ?_
 unhygienic intros
 cbv
 obtain⟨b,hh⟩:=ae hh
 exact D

end Go.Proofs.YtlbnmldopjadoaaGreat
